/- Contract of watch.New. -/
import Derived.Test.YtmfheghbgihdmaaGreatScE
import Derived.Test.YtmfheghbgihdmaaGreatSpcA
import Derived.Test.YtmfheghbgihdmaaGreatFrames3
import Derived.Test.YtmfheghbgihdmaaGreatSpcO
import Derived.Test.YtmfheghbgihdmaaGreatRowsO
import Derived.Test.YtmfheghbgihdmaaGreatMpRow
import Derived.Test.YtmfheghbgihdmaaGreatRefPage
import Derived.Test.YtmfheghbgihdmaaGreatTblM3
import Derived.Test.YtmfheghbgihdmaaGreatCoreP
namespace Go.Proofs.YtmfheghbgihdmaaGreat
open Go.IntKind renaming u64→vU
open Option renaming none→o,some→C
open Go.Value renaming int→r,bool→S
open Go.IntKind renaming i64→B,wrap_i64→a7
open Go.Addr renaming mk→D
open Go.Lib renaming hid→E
open Bool renaming false→F,true→a4
open Go.Proofs.YtmfheghbgihdmaaGreat renaming Has→I
open Go.World renaming size_alloc→J
open Go.Proofs.YtmfheghbgihdmaaGreat.Ms renaming new→M
open Go renaming World→N,Calls→af,bodyPost_ret→a0,Value→a5,Addr→a6
open List renaming length_append→O,getElem?_eq_getElem→ag
open Go.Proofs.YtmfheghbgihdmaaGreat.Has renaming rowOSmall→T,cell→ad,lt→al,free→a3,rowNil→bb,rowOf→bd,p2→bi,rowForm→bz,rowONil→b5,set→b6
open Go.Proofs.YtmfheghbgihdmaaGreat.Sc renaming new→U
open Tryz
open Go.RowKit
set_option maxRecDepth 100000
theorem uA:(prog.info? 3).map (fun i=>(i.zero,i.size,i.bytes))=C (C (r B 0),1,8):=by kernel_rfl
theorem rD(n:Nat)(hn:n≤128)(w:N):(Instr.makeSlice 45 (.int .i64 (n:Int)) (.int .i64 (n:Int))).run prog w= .ok (.slice (C (D w.heap.size 0 o)) n n) (w.alloc (.cells (bm n (fun _=>r B 0)) 3)):=by
 rw[gD (P:=prog) 45 3 (r B 0) 1 8 underlying45 uA rfl n (by omega) (by omega) w,Nat.mul_one,jv (f:=fun j=>(r B 0).cells[j % 1]!) (g:=fun _=>r B 0) (fun j _=>by
  show(r B 0).cells[j % 1]! =r B 0;rw[Nat.mod_one];rfl)]
theorem rE{w:N}{R:ab}{g n:Nat}(hn:n≤128)(h:I w (aa g (bm n (fun _=>r B 0)) 3*R)):I w (ao (.slice (C (D g 0 o)) n n) (List.replicate n 0)*R):=by
 unfold ao;rw[List.length_replicate];refine bd (size:=1) h (by simp) (Nat.le_refl n) (by unfold maxLen;omega) (by rw[nf];omega) ?_;rw[Nat.mul_one];refine List.ext_getElem? fun j=> ?_;rw[List.getElem?_take];split
 ·rename_i hj
  have:=ko (f:=fun _=>r B 0) hj;rw[Array.getElem?_toList,this];simp[hj]
 ·rename_i hj
  simp[hj]
theorem rF(cores n:Int)(hc:cores<1∨4<cores∨n<1∨128<n)(w:N):
  af prog 35 #[r B cores,r B n] w (Pure (.tuple #[.pointer o,.agg #[r B 1,r B (-1)]]) w):=by
 have h0:=(aT w).new #[r B 0,r B 0] 27;have x0:=(Ext.refl w).alloc (.cells #[r B 0,r B 0] 27);have HN:=E (fun w=>uj cores n hc w);go_enter func35,ntmps35;go_wp2_with fail
 refine(HN.out _).mono ?_;rintro e w2 ⟨rfl,b2⟩;have h2:I _ (aa w.heap.size #[r B 0,r B 0] 27*(aa w2.heap.size #[r B 1,r B (-1)] 27*bS w w.heap.size)):=((h0.below b2).new #[r B 1,r B (-1)] 27).eq (by ac_rfl);have x2:=(x0.below b2).alloc (.cells #[r B 1,r B (-1)] 27);clear h0 x0 b2 HN;go_upto_region 2 with fail;generalize w2.alloc _=w3 at*
 generalize w2.heap.size=Y at*
 obtain⟨c0,c1⟩:=h2.cells2;obtain⟨f0,f1⟩:=h2.frees2;have cl:=h2.lt;obtain⟨d0,d1⟩:=h2.right.cells2;have dl:=h2.right.lt;have h3:=h2.set2 (r B 1) (r B (-1));go_upto_region 3 with fail;go_region
 all_goals
  go_wp2_with fail
  refine ak (fun wz=>I wz (aa w.heap.size #[r B 1,r B (-1)] 27*(aa Y #[r B 1,r B (-1)] 27*bS w w.heap.size))∧Ext w wz) ⟨by first|(with_reducible exact h3.drew)|(with_reducible exact h3),ah⟩ ?_;rintro wz ⟨hz,xz⟩;exact a0 (fd results35 rfl rfl (cM hz)) rfl ⟨rfl,aq hz.right.right xz⟩
theorem o9{w:N}{X:Nat}{va:Array a5}{ta:TypeId}{R:ab}(b g h bk:Nat){sp K:Nat}(hK:K≤4)(hh:I w (aa X va ta*(aa b #[.pointer (C (D sp 0 o)),.slice (C (D h 0 o)) 1 1,r B 0,.slice (C (D g 0 o)) K K,r B 0,r B 0,r B 0] 82*(aa g (bm K (fun _=>r B 0)) 3*(aa h #[.pointer (C (D bk 0 o))] 150*(bq bk []*R)))))):
  I w (aa X va ta*(aZ b sp [[]] 0 (List.replicate K 0)*R)):=by
 have h1:I w (aa g (bm K (fun _=>r B 0)) 3*(aa X va ta*(aa b #[.pointer (C (D sp 0 o)),.slice (C (D h 0 o)) 1 1,r B 0,.slice (C (D g 0 o)) K K,r B 0,r B 0,r B 0] 82*(aa h #[.pointer (C (D bk 0 o))] 150*(bq bk []*R))))):=hh.eq (by ac_rfl);have h2:=rE (by omega) h1;have h3:I w (aa h #[.pointer (C (D bk 0 o))] 150*(ao (.slice (C (D g 0 o)) K K) (List.replicate K 0)*(aa X va ta*(aa b #[.pointer (C (D sp 0 o)),.slice (C (D h 0 o)) 1 1,r B 0,.slice (C (D g 0 o)) K K,r B 0,r B 0,r B 0] 82*(bq bk []*R))))):=h2.eq (by ac_rfl);have h4:I w (dt (.slice (C (D h 0 o)) 1 1) [bk]*(ao (.slice (C (D g 0 o)) K K) (List.replicate K 0)*(aa X va ta*(aa b #[.pointer (C (D sp 0 o)),.slice (C (D h 0 o)) 1 1,r B 0,.slice (C (D g 0 o)) K K,r B 0,r B 0,r B 0] 82*(bq bk []*R))))):=
  bd (e:=150) (size:=1) h3 (by simp) (Nat.le_refl 1) (by unfold maxLen;omega) rfl rfl
 have h5:=eF (b:=b) (sp:=sp) (H:=[[]]) (f:=0) (since:=List.replicate K 0) (y:=⟨C (D h 0 o),1,[bk],C (D g 0 o),K,0⟩) (R:=aa X va ta*R) rfl (by
  unfold cN;dsimp only;rw[List.length_replicate];show I w (aa b _ _*(dt _ [bk]*(ao _ _*((bq bk []*dN True)*(aa X va ta*R)))));rw[show bq bk []*dN True=bq bk [] from by rw[bj];exact fv _];exact h4.eq (by ac_rfl))
 exact h5.p2
set_option maxHeartbeats 4000000 in
theorem tu(K n:Nat)(h1:1≤K)(h4:K≤4)(hn:1≤n)(hn2:n≤128)(R:ab)(w:N)(h:I w R):
  af prog 35 #[r B K,r B n] w fun e w'=>∃b sp,cI (.tuple #[.pointer (C (D b 0 o)),.agg #[r B 0,r B 0]]) (aZ b sp [[]] 0 (List.replicate K 0)*(aw sp (U K n)*R)) w e w':=by
 have h0:=h.new #[r B 0,r B 0] 27;have x0:=(Ext.refl w).alloc (.cells #[r B 0,r B 0] 27);have HN:=E (fun R w h=>xX K n (by omega) (by omega) (by omega) (by omega) R w h);have HBN:=E (fun R w h=>xq R w h);have hmk:=fun w=>rD K (by omega) w;clear h;go_enter func35,ntmps35;go_wp2_with fail
 refine(HN.out _ _ h0).mono ?_;rintro e w2 ⟨sp,rfl,h2,x2⟩;have h3:I _ (aa w.heap.size #[r B 0,r B 0] 27*(aw sp (U K n)*(aa w2.heap.size #[r B 0,r B 0] 27*R))):=(h2.new #[r B 0,r B 0] 27).eq (by ac_rfl);have x3:=(x0.trans x2).alloc (.cells #[r B 0,r B 0] 27);clear h0 x0 h2 x2 HN;go_upto_region 2 with fail;generalize w2.alloc _=w3 at*
 generalize w.heap.size=X at*
 generalize w2.heap.size=Y at*
 obtain⟨c0,c1⟩:=h3.cells2;obtain⟨f0,f1⟩:=h3.frees2;have cl:=h3.lt;obtain⟨d0,d1⟩:=h3.right.right.cells2;have dl:=h3.right.right.lt;go_upto_region 4 with fail;go_cut [4] from 18 to 25 (fun s4 wx=>∃b,s4= .pointer (C (D b 0 o))∧I wx (aa X #[r B 0,r B 0] 27*(aZ b sp [[]] 0 (List.replicate K 0)*(aw sp (U K n)*(aa Y #[r B 0,r B 0] 27*R))))∧Ext w wx)
 case first=>
  have hd:=h3.drew;have xd:=x3.drew;have hm:=(h3.new (bm K (fun _=>r B 0)) 3).drew;have xm:=(x3.alloc (.cells (bm K (fun _=>r B 0)) 3)).drew;go_region_law (go_simp;go_at_call 81;first
   |((with_reducible refine(HBN.out _ _ hd).mono ?_);rintro e w8 ⟨bk,rfl,h8,x8⟩;have h9:I w8 (aa X #[r B 0,r B 0] 27*(bq bk []*(aw sp (U K n)*(aa Y #[r B 0,r B 0] 27*R)))):=h8.p2;have z1:=(((h9.set2 (r B 0) (r B 0)).new #[.pointer (C (D bk 0 o))] 150).new (bm K (fun _=>r B 0)) 3).new #[.pointer (C (D sp 0 o)),.slice (C (D w8.heap.size 0 o)) 1 1,r B 0,.slice (C ⟨(w8.heap.size+1),0,o⟩) K K,r B 0,r B 0,r B 0] 82;have z2:=h8.right;obtain⟨y0,y1⟩:=z2.cells2;obtain⟨g0,g1⟩:=z2.frees2;have yl:=z2.lt;have yl1:X<w8.heap.size+1:=(by omega);have yl2:X<w8.heap.size+1+1:=(by omega);have hz:I _ (aa X #[r B 0,r B 0] 27*(aa (w8.heap.size+1+1) #[.pointer (C (D sp 0 o)),.slice (C (D w8.heap.size 0 o)) 1 1,r B 0,.slice (C ⟨(w8.heap.size+1),0,o⟩) K K,r B 0,r B 0,r B 0] 82*(aa (w8.heap.size+1) (bm K (fun _=>r B 0)) 3*(aa w8.heap.size #[.pointer (C (D bk 0 o))] 150*(bq bk []*(aw sp (U K n)*(aa Y #[r B 0,r B 0] 27*R))))))):=z1.eq (by simp only[J,World.size_setCell];ac_rfl);have z3:=(((h9.set2 (r B 0) (r B 0)).new (bm K (fun _=>r B 0)) 3).new #[.pointer (C (D bk 0 o))] 150).new #[.pointer (C (D sp 0 o)),.slice (C ⟨(w8.heap.size+1),0,o⟩) 1 1,r B 0,.slice (C (D w8.heap.size 0 o)) K K,r B 0,r B 0,r B 0] 82;have hy:I _ (aa X #[r B 0,r B 0] 27*(aa (w8.heap.size+1+1) #[.pointer (C (D sp 0 o)),.slice (C ⟨(w8.heap.size+1),0,o⟩) 1 1,r B 0,.slice (C (D w8.heap.size 0 o)) K K,r B 0,r B 0,r B 0] 82*(aa w8.heap.size (bm K (fun _=>r B 0)) 3*(aa (w8.heap.size+1) #[.pointer (C (D bk 0 o))] 150*(bq bk []*(aw sp (U K n)*(aa Y #[r B 0,r B 0] 27*R))))))):=z3.eq (by simp only[J,World.size_setCell];ac_rfl);have xy:=(((((xd.trans x8).set (D X 0 o) (r B 0)).set (D X 1 o) (r B 0)).alloc (.cells (bm K (fun _=>r B 0)) 3)).alloc (.cells #[.pointer (C (D bk 0 o))] 150)).alloc (.cells #[.pointer (C (D sp 0 o)),.slice (C ⟨(w8.heap.size+1),0,o⟩) 1 1,r B 0,.slice (C (D w8.heap.size 0 o)) K K,r B 0,r B 0,r B 0] 82);have xz:=(((((xd.trans x8).set (D X 0 o) (r B 0)).set (D X 1 o) (r B 0)).alloc (.cells #[.pointer (C (D bk 0 o))] 150)).alloc (.cells (bm K (fun _=>r B 0)) 3)).alloc (.cells #[.pointer (C (D sp 0 o)),.slice (C (D w8.heap.size 0 o)) 1 1,r B 0,.slice (C ⟨(w8.heap.size+1),0,o⟩) K K,r B 0,r B 0,r B 0] 82))
   |((with_reducible refine(HBN.out _ _ hm).mono ?_);rintro e w8 ⟨bk,rfl,h8,x8⟩;have h9:I w8 (aa X #[r B 0,r B 0] 27*(aa w3.heap.size (bm K (fun _=>r B 0)) 3*(bq bk []*(aw sp (U K n)*(aa Y #[r B 0,r B 0] 27*R))))):=h8.eq (by ac_rfl);have z1:=(((h9.set2 (r B 0) (r B 0)).new #[.pointer (C (D bk 0 o))] 150).new #[.pointer (C (D sp 0 o)),.slice (C (D w8.heap.size 0 o)) 1 1,r B 0,.slice (C (D w3.heap.size 0 o)) K K,r B 0,r B 0,r B 0] 82);have z2:=h8.right.right;obtain⟨y0,y1⟩:=z2.cells2;obtain⟨g0,g1⟩:=z2.frees2;have yl:=z2.lt;have yl1:X<w8.heap.size+1:=(by omega);have yl2:X<w8.heap.size+1+1:=(by omega);have hz:I _ (aa X #[r B 0,r B 0] 27*(aa (w8.heap.size+1) #[.pointer (C (D sp 0 o)),.slice (C (D w8.heap.size 0 o)) 1 1,r B 0,.slice (C (D w3.heap.size 0 o)) K K,r B 0,r B 0,r B 0] 82*(aa w3.heap.size (bm K (fun _=>r B 0)) 3*(aa w8.heap.size #[.pointer (C (D bk 0 o))] 150*(bq bk []*(aw sp (U K n)*(aa Y #[r B 0,r B 0] 27*R))))))):=z1.eq (by simp only[J,World.size_setCell];ac_rfl);have xz:=((((xm.trans x8).set (D X 0 o) (r B 0)).set (D X 1 o) (r B 0)).alloc (.cells #[.pointer (C (D bk 0 o))] 150)).alloc (.cells #[.pointer (C (D sp 0 o)),.slice (C (D w8.heap.size 0 o)) 1 1,r B 0,.slice (C (D w3.heap.size 0 o)) K K,r B 0,r B 0,r B 0] 82)))
  all_goals
   go_wp2_with fail
   go_meet
   case rel=>first|exact⟨_,rfl,o9 _ _ _ _ (by omega) hz,xz⟩|exact⟨_,rfl,o9 _ _ _ _ (by omega) hy,xy⟩
 case rest=>
  obtain⟨b,rfl,h5,x5⟩:=hcut;clear h3 x3 c0 c1 f0 f1 cl d0 d1 dl HBN hmk;go_wp2_with fail
  refine ak (fun wz=>I wz (aa X #[r B 0,r B 0] 27*(aZ b sp [[]] 0 (List.replicate K 0)*(aw sp (U K n)*(aa Y #[r B 0,r B 0] 27*R))))∧Ext w wz) ⟨h5,ah⟩ ?_;rintro wz ⟨hz,xz⟩;exact a0 (fd results35 rfl rfl (cM hz)) rfl ⟨b,sp,rfl,(hz.right.eq (show _=aa Y #[r B 0,r B 0] 27*(aZ b sp [[]] 0 (List.replicate K 0)*(aw sp (U K n)*R)) by ac_rfl)).right,xz⟩
def vP:Stp:=⟨1,0,⟨5,0,9,0⟩,⟨0,0,F⟩⟩
def wz0:Wc:=Wc.new 1 4
def wz1:Wc:=(wz0.act vP).1
theorem yg:(wz0.act vP).2=⟨0,F,⟨0,0,0⟩,a4⟩:=by kernel_rfl
theorem tv:wz1.H.length=2:=by kernel_rfl
theorem uB:(dr wz1.σ.s 0).length =1:=by kernel_rfl
set_option maxHeartbeats 4000000 in
theorem mA(w:N):af prog 34 #[] w (Pure (S a4) w):=by
 have O0:=Wc.Ok.new (cores:=1) (n:=4) (by omega) (by omega) (by omega) (by omega);have O1:=O0.act vP;have HN:Hid (∀R w,I w R→af prog 35 #[r B 1,r B 4] w fun e w'=>∃b sp,cI (.tuple #[.pointer (C (D b 0 o)),.agg #[r B 0,r B 0]]) (aZ b sp wz0.H wz0.f wz0.since*(aw sp wz0.σ*R)) w e w'):=
  E (fun R w h=>tu 1 4 (by omega) (by omega) (by omega) (by omega) R w h)
 have HD:=E (fun b sp R w h=>yn b sp wz0 [] vP O0 (by unfold vP Stp.ok Mp.ok Ac.ok cL;decide) (by decide) R w h);have HT:=E (fun b sp R w h=>sG b sp wz1.H wz1.f wz1.since (by rw[tv];omega) R w h);have HL:=E (fun b R w h=>uP (b:=b) (σ:=wz1.σ) (R:=R) (w:=w) O1.safe.wf h);rw[yg] at HD;unfold Ev.val at HD;rw[show(wz0.act vP).1=wz1 from rfl] at HD;unfold vP at HD;dsimp only at HD;rw[tv] at HT;rw[uB] at HL;clear O0 O1;have h0:=aT w;go_enter func34,ntmps34;go_wp2_with fail
 refine(HN.out _ _ h0).mono ?_;rintro e w1 ⟨b,sp,rfl,h1,x1⟩;have h2:I _ (aZ b sp wz0.H wz0.f wz0.since*(aw sp wz0.σ*(aa w1.heap.size #[r B 0,r B 0] 27*bS w w.heap.size))):=(h1.new #[r B 0,r B 0] 27).eq (by ac_rfl);have x2:=x1.alloc (.cells #[r B 0,r B 0] 27);have c0:=h2.right.right.cell 0;have cl:=h2.right.right.lt;clear h1 x1 h0 HN;go_wp2_with fail
 refine(HD.out _ _ _ _ h2).mono ?_;rintro e w3 ⟨rfl,h3,x3⟩;have h4:I _ (aZ b sp wz1.H wz1.f wz1.since*(aw sp wz1.σ*(aa w3.heap.size #[r B 0,S F,r B 0,r B 0,r B 0,S a4] 36*(aa (w3.heap.size+1) #[r B 0,r B 0] 27*(aa w1.heap.size #[r B 0,r B 0] 27*bS w w.heap.size))))):=((h3.new #[r B 0,S F,r B 0,r B 0,r B 0,S a4] 36).new #[r B 0,r B 0] 27).eq (by simp only[J]<;>ac_rfl);have x4:=((x2.trans x3).alloc (.cells #[r B 0,S F,r B 0,r B 0,r B 0,S a4] 36)).alloc (.cells #[r B 0,r B 0] 27);clear h2 x2 c0 cl h3 x3 HD;go_upto_region 5 with fail;generalize (w3.alloc (.cells #[r B 0,S F,r B 0,r B 0,r B 0,S a4] 36)).alloc (.cells #[r B 0,r B 0] 27)=w4 at*
 generalize w3.heap.size+1=Y at*
 generalize w3.heap.size=X at*
 obtain⟨e0,e1,e2,e3,e4,e5⟩:=h4.right.right.cells6;have el:=h4.right.right.lt;obtain⟨d0,d1⟩:=h4.r3.cells2;have dl:=h4.r3.lt;have bl:=(gh h4).1;have b0:=(gh h4).2;go_wp2_with fail
 refine(HT.out _ _ _ _ h4).mono ?_;rintro e w5 ⟨rfl,rfl⟩;go_wp2_with fail
 refine(HL.out _ _ _ h4.p2).mono ?_;rintro e w6 ⟨A,c,rfl,h6,x6⟩;go_wp2_with fail
 go_ret;exact⟨rfl,aq h6.right.right.right.r3 (x4.trans x6)⟩
theorem xe(R:ab)(w:N)(h:I w R):
  af prog 36 #[] w fun e w'=>∃b,cI (.pointer (C (D b 0 o))) (cO b [[]] 0*R) w e w':=by
 have h1:I (w.alloc (.cells #[.slice o 0 0] 91)) (bg w.heap.size []*R):=cD (A:=o) (c:=0) (bi (bb (h.new #[.slice o 0 0] 91)));have h2:=(h1.new #[.pointer (C (D w.heap.size 0 o))] 92);simp only[J] at h2;have h3:I ((w.alloc (.cells #[.slice o 0 0] 91)).alloc (.cells #[.pointer (C (D w.heap.size 0 o))] 92)) (fE (.slice (C ⟨w.heap.size+1,0,o⟩) 1 1) [w.heap.size]*(bg w.heap.size []*R)):=
  bd (e:=92) (size:=1) h2 (by simp) (Nat.le_refl 1) (by unfold maxLen;omega) rfl rfl
 have h4:=h3.new #[.slice (C ⟨w.heap.size+1,0,o⟩) 1 1,r B 0] 87;simp only[J] at h4;have h5:=gC (b:=w.heap.size+1+1) (H:=[[]]) (f:=0) (y:=⟨C ⟨w.heap.size+1,0,o⟩,1,[w.heap.size]⟩) (R:=R) rfl (w:=((w.alloc (.cells #[.slice o 0 0] 91)).alloc (.cells #[.pointer (C (D w.heap.size 0 o))] 92)).alloc (.cells #[.slice (C ⟨w.heap.size+1,0,o⟩) 1 1,r B 0] 87)) (by
  unfold dZ;dsimp only;show I _ (aa _ _ _*(fE _ [w.heap.size]*((bg w.heap.size []*dN True)*R)));rw[show bg w.heap.size []*dN True=bg w.heap.size [] from by rw[bj];exact fv _];exact h4)
 have x5:=(((Ext.refl w).alloc (.cells #[.slice o 0 0] 91)).alloc (.cells #[.pointer (C (D w.heap.size 0 o))] 92)).alloc (.cells #[.slice (C ⟨w.heap.size+1,0,o⟩) 1 1,r B 0] 87);clear h h1 h2 h3 h4;go_enter func36,ntmps36;go_wp2_with fail
 go_ret;exact⟨_,rfl,h5,x5⟩
theorem tw(q:Nat):∀u∈([.pointer (C (D q 0 o))]:List a5),u.oneCell'=a4:=by
 intro u hu;simp at hu;subst hu;rfl
set_option maxHeartbeats 4000000 in
theorem tx(b:Nat)(H:List (List Mp))(f:Nat)(x:Stp)(e:Ev)(L:List Mp)(hxo:x.ok)(hL:H.getLast?=C L)(hLo:Bk.Ok L)(hH:H.length≤999999)(R:ab)(w:N)(h:I w (cO b H f*R)):
  af prog 39 #[.pointer (C (D b 0 o)),.agg #[r B x.kind,r B x.core,r B x.m.page,r B x.m.size,r B x.m.frame,r B x.m.rights,r B x.a.page,r B x.a.kind,S x.a.user],.agg #[r B e.code,S e.fin,r B e.an.fin,r B e.an.frame,r B e.an.rights,S e.back]] w
   (cI (.tuple #[]) (cO b (cJ H x e) (eo f (cJ H x e) e)*R) w):=by
 obtain⟨k,hk,hkL,hLD⟩:=pO hL;have hH2:=E (rfl:cJ H x e=cJ H x e);have hxp:=hxo.2.2.1.1;obtain⟨kx,cx,mx,ax⟩:=x;obtain⟨ec,ef,⟨ea,eb,er⟩,ek⟩:=e;have hHn:∀(h0:ec=0) (h1:1≤kx) (h3:kx≤3),cJ H ⟨kx,cx,mx,ax⟩ ⟨ec,ef,⟨ea,eb,er⟩,ek⟩=H++[cQ L ⟨kx,cx,mx,ax⟩ 0]:=fun h0 h1 h3=>by
  rw[←hLD];unfold cJ;rw[if_pos ⟨h0,h1,h3⟩]
 have hHs:¬(ec=0∧1≤kx∧kx≤3)→cJ H ⟨kx,cx,mx,ax⟩ ⟨ec,ef,⟨ea,eb,er⟩,ek⟩=H:=fun hn=>by
  unfold cJ;rw[if_neg hn]
 have hHl:(cJ H ⟨kx,cx,mx,ax⟩ ⟨ec,ef,⟨ea,eb,er⟩,ek⟩).length ≤1000000∧1≤(cJ H ⟨kx,cx,mx,ax⟩ ⟨ec,ef,⟨ea,eb,er⟩,ek⟩).length :=by
  unfold cJ;split
  ·rw[O];show H.length+1≤1000000∧1≤H.length+1;omega
  ·omega
 clear hH2;generalize cJ H ⟨kx,cx,mx,ax⟩ ⟨ec,ef,⟨ea,eb,er⟩,ek⟩=H2 at*
 generalize hF2:eo f H2 ⟨ec,ef,⟨ea,eb,er⟩,ek⟩=f2 at*
 have hF:=E (show(if ek=a4 then H2.length - 1 else f)=f2 from hF2);have HHn:=E hHn;have HHs:=E hHs;have HHl:=E hHl;clear hF2 hHn hHs hHl hL hLD;dsimp only at hxp;have HCP:=E (fun p R w h=>wh p L R w (by have:=hLo.le;omega) h);have HAD:=E (fun q (h1:kx=1) R w h=>(show cQ L ⟨kx,cx,mx,ax⟩ 0=Bk.add L mx from by unfold cQ;simp[h1])▸wi q L mx R w hLo hxp h);have HDR:=E (fun q (h2:kx=2) R w h=>(show cQ L ⟨kx,cx,mx,ax⟩ 0=Bk.dropL L mx.page from by unfold cQ;simp[h2])▸uL q L mx.page R w hLo hxp h);have HPR:=E (fun q (h3:kx=3) R w h=>(show cQ L ⟨kx,cx,mx,ax⟩ 0=Bk.protL L mx.page mx.rights from by unfold cQ;simp[h3])▸sm q L mx.page mx.rights R w hLo hxp h);generalize cQ L ⟨kx,cx,mx,ax⟩ 0=L2 at*
 have h0:I _ (cO b H f*(aa w.heap.size #[r B kx,r B cx,r B mx.page,r B mx.size,r B mx.frame,r B mx.rights,r B ax.page,r B ax.kind,S ax.user] 43*(aa (w.heap.size+1) #[r B ec,S ef,r B ea,r B eb,r B er,S ek] 36*R))):=((h.new #[r B kx,r B cx,r B mx.page,r B mx.size,r B mx.frame,r B mx.rights,r B ax.page,r B ax.kind,S ax.user] 43).new #[r B ec,S ef,r B ea,r B eb,r B er,S ek] 36).eq (by simp only[J]<;>ac_rfl);have x0:=((Ext.refl w).alloc (.cells #[r B kx,r B cx,r B mx.page,r B mx.size,r B mx.frame,r B mx.rights,r B ax.page,r B ax.kind,S ax.user] 43)).alloc (.cells #[r B ec,S ef,r B ea,r B eb,r B er,S ek] 36);clear h hLo hxp hxo;dsimp only;go_enter func39,ntmps39;go_upto_region 1 with fail;generalize (w.alloc (.cells #[r B kx,r B cx,r B mx.page,r B mx.size,r B mx.frame,r B mx.rights,r B ax.page,r B ax.kind,S ax.user] 43)).alloc (.cells #[r B ec,S ef,r B ea,r B eb,r B er,S ek] 36)=w1 at*
 generalize w.heap.size+1=V at*
 generalize w.heap.size=X at*
 obtain⟨c0,c1,c2,c3,c4,c5,c6,c7,c8⟩:=h0.right.cells9;have xl:=h0.right.lt;obtain⟨e0,e1,e2,e3,e4,e5⟩:=h0.right.right.cells6;have el:=h0.right.right.lt;obtain⟨cd,hcd⟩:∃z,decide (ec=0∧1≤kx∧kx≤3)=z:=⟨_,rfl⟩;replace hcd:=E hcd;go_cut [19] from 7 to 19 (fun s19 wx=>s19=S cd∧wx=w1)
 case first=>
  clear HCP HAD HDR HPR hF HHn HHs HHl;by_cases q0:ec=0
  ·subst q0
   by_cases q1:1≤kx
   ·by_cases q3:kx≤3
    ·have hz:cd=a4:=by rw[←hcd.out];exact decide_eq_true ⟨rfl,q1,q3⟩
     subst hz;clear hcd;go_wp2_with fail
     go_meet
     case rel=>exact⟨rfl,rfl⟩
    ·have hz:cd=F:=by rw[←hcd.out];exact decide_eq_false (fun h=>q3 h.2.2)
     subst hz;clear hcd;go_wp2_with fail
     go_meet
     case rel=>exact⟨rfl,rfl⟩
   ·have hz:cd=F:=by rw[←hcd.out];exact decide_eq_false (fun h=>q1 h.2.1)
    subst hz;clear hcd;go_wp2_with fail
    go_meet
    case rel=>exact⟨rfl,rfl⟩
  ·have hz:cd=F:=by rw[←hcd.out];exact decide_eq_false (fun h=>q0 h.1)
   subst hz;have hne:(ec==0)=F:=by simpa using q0
   clear hcd q0;go_wp2_with fail
   go_meet
   case rel=>exact⟨rfl,rfl⟩
 case rest=>
  obtain⟨rfl,hw⟩:=hcut;replace hw:=hw.symm;subst hw;go_upto_if 19 with fail;go_cut [6] from 20 to 65 (fun _ wx=>I wx (cO b H2 f*(aa X #[r B kx,r B cx,r B mx.page,r B mx.size,r B mx.frame,r B mx.rights,r B ax.page,r B ax.kind,S ax.user] 43*(aa V #[r B ec,S ef,r B ea,r B eb,r B er,S ek] 36*R)))∧Ext w wx)
  case first=>
   cases cd with
   |false=>
    have hs:H2=H:=HHs.out (of_decide_eq_false hcd.out);subst hs;clear HCP HAD HDR HPR hF HHn HHs HHl hcd;go_wp2_with fail
    go_meet
    case rel=>exact⟨h0,x0⟩
   |true=>
    obtain⟨q0,q1,q3⟩:=of_decide_eq_true hcd.out;subst q0;have hs:H2=H++[L2]:=HHn.out rfl q1 q3;subst hs;obtain⟨y,hy,h1⟩:=iZ h0;obtain⟨yA,yc,ybs⟩:=y;unfold dZ at h1;dsimp only at hy h1;have hkb:k<ybs.length:=by omega
    obtain⟨p,hp⟩:∃p,ybs[k]? =C p:=⟨ybs[k],ag hkb⟩;obtain⟨Q,hQ⟩:=oJ hp hkL;obtain⟨g,hA,gl,gc⟩:=oI h1.right hp;obtain⟨n1,hn1⟩:∃n,k+1=n:=⟨_,rfl⟩;have hyk:ybs.length=n1:=by omega
    have HB:=E hQ;have HA:=E hA;have HP:=E hp;have HY:=E hy;have HYK:=E hyk;have HSN:=E (fun q=>lW ybs H q L2 hy);have h2:I w1 (aa b #[.slice (C (D g 0 o)) (n1) yc,r B f] 87*(fE (.slice yA ybs.length yc) ybs*(dL ybs H*(aa X #[r B kx,r B cx,r B mx.page,r B mx.size,r B mx.frame,r B mx.rights,r B ax.page,r B ax.kind,S ax.user] 43*(aa V #[r B 0,S ef,r B ea,r B eb,r B er,S ek] 36*R))))):=h1.eq (by rw[hA,hyk]);have HK:=E (fun(w':N) (R':ab) (h:I w' (aa b #[.slice (C (D g 0 o)) (n1) yc,r B f] 87*(fE (.slice yA ybs.length yc) ybs*R')))=>(by
     obtain⟨g',hA',-,gc'⟩:=oI h.right hp;have e:=hA.symm.trans hA';injection e with e
     injection e with e
     subst e;exact⟨h.cell 0,gc'⟩:w'.cell? (D b 0 o)=C (.slice (C (D g 0 o)) n1 yc)∧w'.cell? (D g k o)=C (.pointer (C (D p 0 o)))))
    have bl:=h2.lt;have hkk:IntKind.i64.wrap ((n1:Int) - 1)=(k:Int):=by rw[a7];omega
    have hk9:(k:Int)< (n1:Int):=by omega
    have hk8:k<n1:=by omega
    have hk7:(0:Int)≤(k:Int):=by omega
    have hbs:n1≤1000000:=by omega
    clear hkL hp hQ hA hy hyk h1 h0 hcd HHs HHl gc hkb hk hn1;go_wp2_with fail
    have hd:=h2.drew;have xd:=x0.drew;clear h2 x0;go_region_held3 (fun w'=>w'.cell? (D b 0 o)=C (.slice (C (D g 0 o)) n1 yc)∧w'.cell? (D g k o)=C (.pointer (C (D p 0 o)))) (first|(with_reducible exact HK.out _ _ hd)|(with_reducible exact HK.out _ _ hL.right)|go_keep)
     (first
      |(go_at_call 87;(with_reducible refine(HCP.out p _ _ (hd.eq (show _=bg p L*(Q*(aa b #[.slice (C (D g 0 o)) (n1) yc,r B f] 87*(fE (.slice yA ybs.length yc) ybs*(aa X #[r B kx,r B cx,r B mx.page,r B mx.size,r B mx.frame,r B mx.rights,r B ax.page,r B ax.kind,S ax.user] 43*(aa V #[r B 0,S ef,r B ea,r B eb,r B er,S ek] 36*R))))) by rw[HB.out];ac_rfl))).mono ?_);rintro e w7 ⟨q,rfl,h7,x7⟩;have hL:I w7 (bg q L*(aa b #[.slice (C (D g 0 o)) (n1) yc,r B f] 87*(fE (.slice yA ybs.length yc) ybs*(dL ybs H*(aa X #[r B kx,r B cx,r B mx.page,r B mx.size,r B mx.frame,r B mx.rights,r B ax.page,r B ax.kind,S ax.user] 43*(aa V #[r B 0,S ef,r B ea,r B eb,r B er,S ek] 36*R)))))):=h7.eq (by rw[HB.out];ac_rfl);have xL:=xd.trans x7))
    clear HK HCP HB HP hd xd hkk hk9 hk8 hk7 c0 c1 c2 c3 c4 c5 c6 c7 c8 xl e0 e1 e2 e3 e4 e5 el;obtain⟨c0,-,c2,c3,c4,c5,-,-,-⟩:=hL.right.r3.cells9;have xl:=hL.right.r3.lt;go_upto_block 0 with fail
    go_cut [] from 35 to 55 (fun wx=>I wx (bg q L2*(aa b #[.slice (C (D g 0 o)) (n1) yc,r B f] 87*(fE (.slice yA ybs.length yc) ybs*(dL ybs H*(aa X #[r B kx,r B cx,r B mx.page,r B mx.size,r B mx.frame,r B mx.rights,r B ax.page,r B ax.kind,S ax.user] 43*(aa V #[r B 0,S ef,r B ea,r B eb,r B er,S ek] 36*R))))))∧Ext w wx)
    case first=>
     clear HSN HY HYK HA hF;by_cases k1:kx=1
     ·have HA2:=E (fun R w h=>HAD.out q k1 R w h)
      subst k1;clear HAD HDR HPR;go_wp2_with fail
      refine(HA2.out _ _ hL).mono ?_;rintro e w5 ⟨rfl,h5,x5⟩;go_wp2_with fail
      go_meet
      case rel=>exact⟨h5,xL.trans x5⟩
     by_cases k2:kx=2
     ·have HA2:=E (fun R w h=>HDR.out q k2 R w h)
      subst k2;clear HAD HDR HPR;go_wp2_with fail
      refine(HA2.out _ _ hL).mono ?_;rintro e w5 ⟨rfl,h5,x5⟩;go_wp2_with fail
      go_meet
      case rel=>exact⟨h5,xL.trans x5⟩
     have k3:kx=3:=by omega
     ·have HA2:=E (fun R w h=>HPR.out q k3 R w h)
      subst k3;clear HAD HDR HPR;go_wp2_with fail
      refine(HA2.out _ _ hL).mono ?_;rintro e w5 ⟨rfl,h5,x5⟩;go_wp2_with fail
      go_meet
      case rel=>exact⟨h5,xL.trans x5⟩
    case rest=>
     obtain⟨h5,x5⟩:=hcut;clear hL xL HAD HDR HPR c0 c2 c3 c4 c5 xl hF;have c1:=h5.right.cell 0;have cl:=h5.right.lt;have h6:I _ (fE (.slice (C (D g 0 o)) n1 yc) ybs*(aa b #[.slice (C (D g 0 o)) (n1) yc,r B f] 87*((bg q L2*dL ybs H)*(aa X #[r B kx,r B cx,r B mx.page,r B mx.size,r B mx.frame,r B mx.rights,r B ax.page,r B ax.kind,S ax.user] 43*(aa V #[r B 0,S ef,r B ea,r B eb,r B er,S ek] 36*R))))):=h5.eq (by rw[HA.out,HYK.out];ac_rfl);clear h5;go_wp2_with(at_builtin;(refine aW rfl _ _ 85 rfl underlying85 ue _ _ _ rfl (h6.alloc _) (D wc.heap.size 0 o) 1 1 [.pointer (C (D q 0 o))] rfl rfl (eO _ _ _) ?c1 ?c2 ?c3 ?_))
     case c1=>exact tw _
     case c2=>have:=HYK.out;unfold maxLen;omega
     case c3=>have:=HYK.out;omega
     intro v9 w9 h9 x9;rw[show ybs.length=n1 from HYK.out] at h9;obtain⟨A',c',rfl⟩:=bz (e:=92) (size:=1) h9;have y2:=h9.right.cell 0;have yf:=h9.right.free 0;have yl:=h9.right.lt;have h10:I (w9.setCell (D b 0 o) (.slice A' (n1+1) c')) (cO b (H++[L2]) f*(aa X #[r B kx,r B cx,r B mx.page,r B mx.size,r B mx.frame,r B mx.rights,r B ax.page,r B ax.kind,S ax.user] 43*(aa V #[r B 0,S ef,r B ea,r B eb,r B er,S ek] 36*R))):=by
      have h12:=(h9.p2.set 0 (.slice A' (n1+1) c'));have h13:I _ (aa b #[.slice (A') (n1+1) c',r B f] 87*(fE (.slice A' (ybs++[q]).length c') (ybs++[q])*(dL (ybs++[q]) (H++[L2])*(aa X #[r B kx,r B cx,r B mx.page,r B mx.size,r B mx.frame,r B mx.rights,r B ax.page,r B ax.kind,S ax.user] 43*(aa V #[r B 0,S ef,r B ea,r B eb,r B er,S ek] 36*R))))):=h12.eq (by
       rw[HSN.out q];unfold fE;rw[O,List.map_append];show _*(bZ 92 1 (.slice A' (n1+1) c') (n1+1) (ybs.map pe++[.pointer (C (D q 0 o))])*_)=_*(bZ 92 1 (.slice A' (ybs.length+1) c') (ybs.length+1) (ybs.map pe++[.pointer (C (D q 0 o))])*_);rw[HYK.out];ac_rfl)
      exact gC (b:=b) (H:=H++[L2]) (f:=f) (y:=⟨A',c',ybs++[q]⟩) (by simp[HY.out]) (by
       unfold dZ;dsimp only;rw[O] at h13⊢;rw[show ybs.length+[q].length =n1+1 from by rw[HYK.out];rfl] at h13⊢;exact h13)
     have x10:=((x5.alloc (.cells #[.pointer (C (D q 0 o))] 92)).trans x9).set (D b 0 o) (.slice A' (n1+1) c');clear h9 h6 x9 x5 c1 cl HSN HY HYK HA;go_wp2_with fail
     go_meet
     case rel=>exact⟨h10,x10⟩
  case rest=>
   obtain⟨h1,x1⟩:=hcut;clear h0 x0 HCP HAD HDR HPR HHn HHs hcd c0 c1 c2 c3 c4 c5 c6 c7 c8 xl e0 e1 e2 e3 e4 e5 el;cases ek with
   |false=>
    have hf:f=f2:=hF.out;subst hf;have hz:I wc (aa X #[r B kx,r B cx,r B mx.page,r B mx.size,r B mx.frame,r B mx.rights,r B ax.page,r B ax.kind,S ax.user] 43*(aa V #[r B ec,S ef,r B ea,r B eb,r B er,S F] 36*(cO b H2 f*R))):=h1.eq (by ac_rfl);have v5:=hz.right.cell 5;have vl:=hz.right.lt;clear hF HHl h1;go_wp2_with fail
    exact a0 (v:= .tuple #[]) (by simp[results,results39]) rfl ⟨rfl,hz.right.right,x1⟩
   |true=>
    have hf:H2.length - 1=f2:=hF.out;obtain⟨y,hy,h2⟩:=iZ h1;obtain⟨l1,l2⟩:=HHl.out;have hw:IntKind.i64.wrap ((y.bs.length:Int) - 1)=(f2:Int):=by rw[a7];omega
    have hyl:y.bs.length≤1000000:=by omega
    have HSH:=E (fun(w':N) (R':ab) (h:I w' (dZ b H2 f2 y R'))=>gC hy h);unfold dZ at h2 HSH;have b0:wc.cell? (D b 0 o)=C (.slice y.A y.bs.length y.c):=h2.cell 0;have b1:wc.cell? (D b 1 o)=C (r B f):=h2.cell 1;have bf:wc.frozen? (D b 1 o)=F:=h2.free 1;have bl:=h2.lt;have v5:=h2.right.r3.cell 5;have vl:=h2.right.r3.lt;have h3:=HSH.out _ _ (h2.set 1 (r B f2));have x3:=x1.set (D b 1 o) (r B f2);have h4:=(h3.eq (show _=aa X #[r B kx,r B cx,r B mx.page,r B mx.size,r B mx.frame,r B mx.rights,r B ax.page,r B ax.kind,S ax.user] 43*(aa V #[r B ec,S ef,r B ea,r B eb,r B er,S a4] 36*(cO b H2 f2*R)) by ac_rfl)).right.right;clear hF HHl h1 h2 h3 hf hy l1 l2 HSH x1;go_wp2_with fail
    exact a0 (v:= .tuple #[]) (by simp[results,results39]) rfl ⟨rfl,h4,x3⟩
theorem nR:jh prog 129 lnZero 5 40:=⟨by kernel_rfl,rfl,by omega⟩
def gk(v:a5)(l:List Ln):ab:=lS 129 5 v l.length (bV l)
section
variable {w:N} {R:ab} {A:Option a6} {n c:Nat} {l:List Ln}
theorem tz(h:I w (gk (.slice A n c) l*R)):n=l.length:=by
 obtain⟨A',c',e⟩:=Has.rowOForm (e:=129) (size:=5) h;injection e
theorem ir(h:I w (gk (.slice A n c) l*R)){k:Nat}(hk:k<l.length):
  ∃b off,A=C (D b off o)∧b<w.heap.size∧
   (w.cell? ⟨b,off+k*5,o⟩=C (r B l[k].m.page)∧w.cell? ⟨b,off+k*5+1,o⟩=C (r B l[k].m.size)∧w.cell? ⟨b,off+k*5+2,o⟩=C (r B l[k].m.frame)∧w.cell? ⟨b,off+k*5+3,o⟩=C (r B l[k].m.rights)∧w.cell? ⟨b,off+k*5+4,o⟩=C (S l[k].dirty)):=by
 obtain rfl:=tz h;have g:=fun t (ht:t<5)=>Has.rowOGet (e:=129) (size:=5) h (i:=k*5+t) (u:=(l[k].cells[t]'(by rw[gp];exact ht))) (by
  have:=lx (cells:=Ln.cells) gp hk ht;rw[ag (l:=l[k].cells) (by rw[gp];exact ht)] at this;exact this)
 obtain⟨b,off,rfl,hb,c0⟩:=g 0 (by omega);obtain⟨b1,o1,e1,_,c1⟩:=g 1 (by omega);obtain⟨b2,o2,e2,_,c2⟩:=g 2 (by omega);obtain⟨b3,o3,e3,_,c3⟩:=g 3 (by omega);obtain⟨b4,o4,e4,_,c4⟩:=g 4 (by omega);injection e1 with e1;injection e1 with e1 f1;subst e1;subst f1
 injection e2 with e2;injection e2 with e2 f2;subst e2;subst f2
 injection e3 with e3;injection e3 with e3 f3;subst e3;subst f3
 injection e4 with e4;injection e4 with e4 f4;subst e4;subst f4
 simp only[←Nat.add_assoc,Nat.add_zero] at c0 c1 c2 c3 c4;exact⟨b,off,rfl,hb,c0,c1,c2,c3,c4⟩
end
def cv(q:Nat)(v:a5)(k:Ck):ab:=aa q #[v,S k.on,r B k.a.page,r B k.a.kind,S k.a.user,r B k.t,r B k.level,S k.mark,r vU k.w] 66
def aM(q:Nat)(A:Option a6)(c:Nat)(l:List Ln)(k:Ck)(R:ab):ab:=cv q (.slice A l.length c) k*(gk (.slice A l.length c) l*R)
theorem xf(q:Nat)(A:Option a6)(c:Nat)(l:List Ln)(k:Ck)(p:Int)(R:ab)(w:N)(hok:∀x∈l,cL x.m.page)(hp:cL p)(h:I w (aM q A c l k R)):
  af prog 117 #[.pointer (C (D q 0 o)),.int .i64 p] w (Pure (r B (Tl.idx l p)) w):=by
 have hbig:=(T (e:=129) (size:=5) h.right).1;have he:Tl.idx l p=nx (fun x=>over x.m p) l:=rfl;rw[he];have c0:w.cell? (D q 0 o)=C (.slice A l.length c):=ad h 0;go_enter func117,ntmps117;go_wp2_with fail
 go_loopw [5] (fun s5 wr=>∃i:Nat,i≤l.length∧s5=r B i∧Below w.heap.size w wr∧Hid (∀j (hj:j<l.length),j<i→over l[j].m p=F)) (fun s5 _=>l.length - (intOf s5).toNat)
 case atStart=>exact⟨0,Nat.zero_le _,rfl,Below.refl _ _,E fun j _ h=>absurd h (Nat.not_lt_zero _)⟩
 case round=>
  obtain⟨i,hi,rfl,BW,HA⟩:=hrel;have h':=h.below BW;clear c0;have c0:wr.cell? (D q 0 o)=C (.slice A l.length c):=ad h' 0;have cl:=al h';have BW':=E BW;clear BW;by_cases hlt:i<l.length
  ·obtain⟨b,off,rfl,hb,d0,d1,d2,d3,_⟩:=ir h'.right hlt
   have HC:=E (iW l[i].m p wr (hok _ (List.getElem_mem hlt)) hp);have hz:=E (show(l[i]=l[i]) from rfl);generalize hx:l[i]=x at d0 d1 d2 d3 HC;have HX:=E hx;clear hx hz h' h;cases hq:over x.m p with
   |true=>
    rw[hq] at HC;go_wp2_with(refine HC.out.mono ?_;rintro e w' ⟨rfl,hb'⟩)
    go_ret;exact⟨by rw[lI hlt (by rw[HX.out];exact hq) HA.out];rfl,BW'.out.trans (hb'.mono BW'.out.size)⟩
   |false=>
    rw[hq] at HC;go_wp2_with(refine HC.out.mono ?_;rintro e w' ⟨rfl,hb'⟩)
    go_roundw
    case rel=>
     refine⟨i+1,by omega,by go_num,BW'.out.trans (hb'.mono BW'.out.size),E fun j hj hjk=> ?_⟩;by_cases e:j=i
     ·subst e;rw[HX.out];exact hq
     ·exact HA.out j hj (by omega)
    case measure=>simp[intOf];omega
  ·have:i=l.length:=by omega
   subst this;go_wp2_with fail
   go_ret;exact⟨by rw[kz fun j hj=>HA.out j hj hj];rfl,BW'.out⟩
theorem dropR(q:Nat)(A:Option a6)(c:Nat)(l:List Ln)(k:Ck)(m:Mp)(R:ab)(w:N)(hok:∀x∈l,cL x.m.page)(hm:cL m.page)(hl:l.length≤1000)(h:I w (aM q A c l k R)):
  af prog 126 #[.pointer (C (D q 0 o)),.agg #[r B m.page,r B m.size,r B m.frame,r B m.rights]] w
   fun e w'=>∃A' c',cI (r B ((l.length:Int) - (Tl.drop l m).length)) (aM q A' c' (Tl.drop l m) k R) w e w':=by
 have hbig:=(T (e:=129) (size:=5) h.right).1;have h1:=Has.new h #[r B m.page,r B m.size,r B m.frame,r B m.rights] 39;have x1:=(Ext.refl w).alloc (.cells #[r B m.page,r B m.size,r B m.frame,r B m.rights] 39);have h2:I (w.alloc (.cells #[r B m.page,r B m.size,r B m.frame,r B m.rights] 39)) (lS 129 5 (.slice o 0 0) 0 []*(aa w.heap.size #[r B m.page,r B m.size,r B m.frame,r B m.rights] 39*aM q A c l k R)):=b5 h1;clear h h1;go_enter func126,ntmps126;go_wp2_with fail
 go_loopw [5,6] (fun s5 s6 wr=>∃(i:Nat) (A':Option a6) (c':Nat) (kept:List Ln),i≤l.length∧s6=r B i∧s5= .slice A' kept.length c'∧kept.length≤i∧Hid (kept=(l.take i).filter fun x=> !du x.m m)∧
   I wr (gk (.slice A' kept.length c') kept*(aa w.heap.size #[r B m.page,r B m.size,r B m.frame,r B m.rights] 39*aM q A c l k R))∧Ext w wr) (fun _ s6 _=>l.length - (intOf s6).toNat)
 case atStart=>exact⟨0,o,0,[],Nat.zero_le _,rfl,rfl,Nat.zero_le _,E rfl,h2,x1⟩
 case round=>
  clear h2 x1;obtain⟨i,A',c',kept,hi,rfl,rfl,hkl,HK,hr,hx⟩:=hrel;have hsm:=(T (e:=129) (size:=5) hr).1;have hcore:=hr.right.right;have c0:wr.cell? (D q 0 o)=C (.slice A l.length c):=ad hcore 0;have cl:=al hcore;by_cases hlt:i<l.length
  ·obtain⟨b,off,rfl,hb,d0,d1,d2,d3,d4⟩:=ir hcore.right hlt
   have hxo:=hok _ (List.getElem_mem hlt);have HN:=E (jp (p:=fun x=> !du x.m m) hlt);have HX:=E (show l[i]=l[i] from rfl);generalize hgx:l[i]=x at d0 d1 d2 d3 d4 hxo HN;have HGX:=E hgx;clear hgx HX;have v0:=ae c0;have vd0:=ae d0;have vd1:=ae d1;have vd2:=ae d2;have vd3:=ae d3;obtain⟨e0,e1,e2,e3⟩:=hr.right.cells4;have ve0:=ae e0;have ve1:=ae e1;have ve2:=ae e2;have ve3:=ae e3;have HC:=E (fun W=>oB x.m m W hxo hm);cases hq:du x.m m with
   |true=>
    rw[hq] at HC;go_wp2_with fail
    refine ap (by kernel_rfl) (by kernel_rfl) ?_;repeat(first|go_big_quiet_step ((go_at_call 146;exact Pure.via (HC.out _)))|quiet_step ((go_at_call 146;exact Pure.via (HC.out _))))
    refine wpQuiet_nil ?_;intro _ hw';obtain⟨uq,hw''⟩:=hw';subst hw'';go_wp2_with fail
    go_roundw
    case rel=>exact⟨i+1,A',c',kept,by omega,by go_num,rfl,by omega,E (by rw[HN.out,hq,←HK.out];simp),hr.via uq,hx.below (aB _ _)⟩
    case measure=>simp[intOf];omega
   |false=>
    rw[hq] at HC;go_wp2_with fail
    refine ap (by kernel_rfl) (by kernel_rfl) ?_;repeat(first|go_big_quiet_step ((go_at_call 146;exact Pure.via (HC.out _)))|quiet_step ((go_at_call 146;exact Pure.via (HC.out _))))
    refine wpQuiet_nil ?_;intro _ hw';obtain⟨uq,hw''⟩:=hw';subst hw'';have hv:=hr.via uq;have xv:=hx.below (aB wr uq);clear v0 vd0 vd1 vd2 vd3 ve0 ve1 ve2 ve3 c0 d0 d1 d2 d3 d4 e0 e1 e2 e3 cl hb;generalize fJ wr uq=wv at*
    have c0:wv.cell? (D q 0 o)=C (.slice (C (D b off o)) l.length c):=ad hv.right.right 0;have cl:=al hv.right.right;obtain⟨b',off',he,hb,d0,d1,d2,d3,d4⟩:=ir hv.r3 hlt;injection he with he;injection he with he1 he2;subst he1;subst he2
    rw[HGX.out] at d0 d1 d2 d3 d4;have hrow:=hv.alloc (.cells #[r B x.m.page,r B x.m.size,r B x.m.frame,r B x.m.rights,S x.dirty] 129);clear hcore hr hx HC;go_wp2_with(at_builtin;refine kb rfl _ _ 63 rfl underlying63 nR _ _ _ rfl hrow (D wv.heap.size 0 o) 1 1 x.cells rfl rfl (dx wv x.cells 129) (jq x) ?c2 ?c3 ?_)
    case c2=>unfold maxLen;omega
    case c3=>omega
    intro A2 c2 w2 h2 x2;go_wp2_with fail
    go_roundw
    case rel=>
     refine⟨i+1,A2,c2,kept++[x],by omega,by go_num,by rw[O];rfl,by simp;omega,E (by rw[HN.out,hq,←HK.out];simp),?_,(xv.alloc _).trans x2⟩;have e1:bV (kept++[x])=bV kept++x.cells:=by rw[fT];simp[bV]
     unfold gk;rw[e1,O];exact h2
    case measure=>simp[intOf];omega
  ·have:i=l.length:=by omega
   subst this;have hf:kept=Tl.drop l m:=by rw[HK.out,List.take_length];rfl
   have HF:=E hf;clear hf;have cf:=a3 hcore 0;have hfin:I wr (cv q (.slice A l.length c) k*(gk (.slice A' kept.length c') kept*R)):=by
    have:=hr.p2.right;unfold aM at this;exact this.p2.drop3
   go_wp2_with fail
   go_ret;rw[←HF.out];exact⟨A',c',by go_num,b6 hfin 0 _,hx.set _ _⟩
def aQ(q:Nat)(l:List Ln)(k:Ck):ab:=ex fun A=>ex fun c=>aM q A c l k (dN True)
theorem cY{q:Nat}{l:List Ln}{k:Ck}{R:ab}{w:N}(h:I w (aQ q l k*R)):∃A c,I w (aM q A c l k R):=by
 unfold aQ at h;obtain⟨g,h⟩:=aH.1 h;obtain⟨vf,h⟩:=aH.1 h;refine⟨g,vf,?_⟩;unfold aM at h⊢;simpa only[aG,jK] using h
theorem bE{q c:Nat}{A:Option a6}{l:List Ln}{k:Ck}{R:ab}{w:N}(h:I w (aM q A c l k R)):I w (aQ q l k*R):=by
 unfold aQ;refine aH.2 ⟨A,aH.2 ⟨c,?_⟩⟩;unfold aM at h⊢;simpa only[aG,jK] using h
theorem nm{q c X:Nat}{A:Option a6}{l:List Ln}{k:Ck}{x:Ln}{cs:Array a5}{t:TypeId}{R:ab}{w:N}(h:I w (cv q (.slice A (l.length+1) c) k*(lS 129 5 (.slice A (l.length+1) c) (l.length+1) (bV l++x.cells)*(aa X cs t*R)))):
  I w (aQ q (l++[x]) k*R):=by
 have h1:=h.drop3;refine bE (A:=A) (c:=c) ?_;unfold aM gk;rw[show(l++[x]).length =l.length+1 by simp,fT,show bV [x]=x.cells by simp[bV]];exact h1
theorem uC(q:Nat)(l:List Ln)(k:Ck)(x:Ln)(R:ab)(w:N)(hc:ba x.m≠0)(h:I w (aQ q l k*R)):
  af prog 68 #[.pointer (C (D q 0 o)),.agg #[r B x.m.page,r B x.m.size,r B x.m.frame,r B x.m.rights,S x.dirty]] w (cI (S F) (aQ q l k*R) w):=by
 have h1:=h.new #[r B x.m.page,r B x.m.size,r B x.m.frame,r B x.m.rights,S x.dirty] 129;have x1:=(Ext.refl w).alloc (.cells #[r B x.m.page,r B x.m.size,r B x.m.frame,r B x.m.rights,S x.dirty] 129);obtain⟨d0,d1,d2,d3,d4⟩:=h1.cells5;have hn:(ba x.m !=0)=a4:=by simpa using hc
 have HC:=E (gx x.m);generalize ba x.m=kk at*
 go_enter func68,ntmps68;go_wp2_with(refine(HC.out _).mono ?_;rintro e w2 ⟨rfl,b2⟩)
 go_ret;exact⟨rfl,h1.right.below b2,x1.below b2⟩
theorem tC(q:Nat)(l:List Ln)(k:Ck)(x:Ln)(R:ab)(w:N)(hok:wE l)(hx:cL x.m.page)(hl:l.length≤1000)(hc:ba x.m=0)(h:I w (aQ q l k*R)):
  af prog 68 #[.pointer (C (D q 0 o)),.agg #[r B x.m.page,r B x.m.size,r B x.m.frame,r B x.m.rights,S x.dirty]] w (cI (S a4) (aQ q (Tl.room (Tl.drop l x.m)++[x]) k*R) w):=by
 have h1:=h.new #[r B x.m.page,r B x.m.size,r B x.m.frame,r B x.m.rights,S x.dirty] 129;have x1:=(Ext.refl w).alloc (.cells #[r B x.m.page,r B x.m.size,r B x.m.frame,r B x.m.rights,S x.dirty] 129);obtain⟨d0,d1,d2,d3,d4⟩:=h1.cells5;have HC:=E (gx x.m);rw[hc] at HC;have HD:=E (fun A c R w h=>dropR q A c l k x.m R w hok hx hl h);have hle:(Tl.drop l x.m).length ≤l.length:=List.length_filter_le _ _;clear hc;generalize Tl.drop l x.m=l1 at*
 by_cases h6:l1.length=6
 ·have hr:Tl.room l1=l1.tail:=by unfold Tl.room;rw[if_pos h6]
  rw[hr];go_enter func68,ntmps68;go_wp2_with fail
  refine(HC.out _).mono ?_;rintro e w2 ⟨rfl,b2⟩;have h2:=h1.below b2;have x2:=x1.below b2;clear d0 d1 d2 d3 d4;obtain⟨d0,d1,d2,d3,d4⟩:=h2.cells5;obtain⟨A,c,h2⟩:=cY h2.p2;go_wp2_with fail
  refine(HD.out _ _ _ _ h2).mono ?_;rintro e w3 ⟨A3,c3,rfl,h3,x3⟩;have x3:=x2.trans x3;have hsm3:=(T (e:=129) (size:=5) h3.right).2;rw[h6] at hsm3;obtain⟨g,off,rfl⟩:∃g off,A3=C (D g off o):=by
   obtain⟨g,off,e,_⟩:=ir h3.right (k:=0) (by omega);exact⟨g,off,e⟩
  have c0:w3.cell? (D q 0 o)=C (.slice (C (D g off o)) l1.length c3):=ad h3 0;rw[h6] at c0;have cp:=al h3;have cf:=a3 h3 0;have ht:I w3 (gk (.slice (C ⟨g,off+5,o⟩) l1.tail.length (c3 - 1)) l1.tail*(cv q (.slice (C (D g off o)) l1.length c3) k*(aa w.heap.size #[r B x.m.page,r B x.m.size,r B x.m.frame,r B x.m.rights,S x.dirty] 129*R))):=by
   have h4:=h3.p2;unfold gk at h4;cases l1 with
   |nil=>simp at h6
   |cons y l1=>
    have h5:=Has.rowOTail h4;rw[if_neg (by omega)] at h5;exact h5
  have hl':l1.tail.length≤1000:=by simp[h6]
  have h5t:l1.tail.length=5:=by simp[h6]
  have ht2:=(bi ht).set 0 (.slice (C ⟨g,off+5,o⟩) l1.tail.length (c3 - 1));have h4:I (w3.setCell (D q 0 o) (.slice (C ⟨g,off+5,o⟩) 5 (c3 - 1))) (aM q (C ⟨g,off+5,o⟩) (c3 - 1) l1.tail k (aa w.heap.size #[r B x.m.page,r B x.m.size,r B x.m.frame,r B x.m.rights,S x.dirty] 129*R)):=by
   rw[h5t] at ht2;unfold aM;rw[h5t];rw[←h5t] at ht2⊢;exact ht2
  have x4:=x3.set (D q 0 o) (.slice (C ⟨g,off+5,o⟩) 5 (c3 - 1));generalize l1.tail=l2 at*
  have hc1:¬c3=1:=by omega
  clear d0 d1 d2 d3 d4 h1 h2 x1 x2 h HC HD ht ht2 h5t hle hr x3 h3 h6;go_wp2_with fail
  generalize w3.setCell (D q 0 o) (.slice (C ⟨g,off+5,o⟩) 5 (c3 - 1))=wz at*
  clear c0 cp cf;have hsm:=(T (e:=129) (size:=5) h4.right).1;have c0:=ad h4 0;have cp:=al h4;have cf:=a3 h4 0;obtain⟨d0,d1,d2,d3,d4⟩:=h4.right.right.cells5;have dl:=h4.right.right.lt;have hrow:=(bi h4.drew).alloc (.cells #[r B x.m.page,r B x.m.size,r B x.m.frame,r B x.m.rights,S x.dirty] 129);go_region_law (refine iH rfl (.tmp 31) (.tmp 33) 63 rfl underlying63 nR _ _ _ (by simp[Act.eval]) hrow (D wz.heap.size 0 o) 1 1 x.cells (by simp[Act.eval]) rfl (dx wz.drew x.cells 129) (jq x) (by unfold maxLen;omega) (by omega) ?_;intro A' c' w5 h5 x5;have g0:=al h5.right;have g1:=a3 h5.right 0;have g2:=ad h5.right 0)
  all_goals
   go_wp2_with fail
   go_ret;exact⟨rfl,nm (b6 h5.p2 0 _),((x4.drew.alloc _).trans x5).set _ _⟩
 ·have hr:Tl.room l1=l1:=by unfold Tl.room;rw[if_neg h6]
  rw[hr];have h6':((l1.length:Int)==6)=F:=beq_eq_false_iff_ne.2 (by omega);clear hr h6;go_enter func68,ntmps68;go_wp2_with fail
  refine(HC.out _).mono ?_;rintro e w2 ⟨rfl,b2⟩;have h2:=h1.below b2;have x2:=x1.below b2;clear d0 d1 d2 d3 d4;obtain⟨d0,d1,d2,d3,d4⟩:=h2.cells5;obtain⟨A,c,h2⟩:=cY h2.p2;go_wp2_with fail
  refine(HD.out _ _ _ _ h2).mono ?_;rintro e wz ⟨A,c,rfl,h4,x3⟩;have x4:=x2.trans x3;clear d0 d1 d2 d3 d4 h1 h2 x1 x2 h HC HD;have hl':l1.length≤1000:=by omega
  clear hle;have c0:wz.cell? (D q 0 o)=C (.slice A l1.length c):=ad h4 0;have cp:=al h4;go_wp2_with fail
  have hsm:=(T (e:=129) (size:=5) h4.right).1;have c0:=ad h4 0;have cp:=al h4;have cf:=a3 h4 0;obtain⟨d0,d1,d2,d3,d4⟩:=h4.right.right.cells5;have dl:=h4.right.right.lt;have hrow:=(bi h4.drew).alloc (.cells #[r B x.m.page,r B x.m.size,r B x.m.frame,r B x.m.rights,S x.dirty] 129);go_region_law (refine iH rfl (.tmp 31) (.tmp 33) 63 rfl underlying63 nR _ _ _ (by simp[Act.eval]) hrow (D wz.heap.size 0 o) 1 1 x.cells (by simp[Act.eval]) rfl (dx wz.drew x.cells 129) (jq x) (by unfold maxLen;omega) (by omega) ?_;intro A' c' w5 h5 x5;have g0:=al h5.right;have g1:=a3 h5.right 0;have g2:=ad h5.right 0)
  all_goals
   go_wp2_with fail
   go_ret;exact⟨rfl,nm (b6 h5.p2 0 _),((x4.drew.alloc _).trans x5).set _ _⟩
theorem xg(q:Nat)(l:List Ln)(k:Ck)(x:Ln)(R:ab)(w:N)(hl:Tl.Ok l)(hx:cL x.m.page)(h:I w (aQ q l k*R)):
  af prog 68 #[.pointer (C (D q 0 o)),.agg #[r B x.m.page,r B x.m.size,r B x.m.frame,r B x.m.rights,S x.dirty]] w (cI (S (decide (ba x.m=0))) (aQ q (Tl.put l x) k*R) w):=by
 unfold Tl.put;by_cases hc:ba x.m=0
 ·rw[if_pos hc,decide_eq_true hc]
  exact tC q l k x R w hl.lok hx (Nat.le_trans hl.len (by omega)) hc h
 ·rw[if_neg hc,decide_eq_false hc]
  exact uC q l k x R w hc h
theorem vQ(q:Nat)(l:List Ln)(k:Ck)(m:Mp)(R:ab)(w:N)(hl:Tl.Ok l)(hm:cL m.page)(h:I w (aQ q l k*R)):
  af prog 126 #[.pointer (C (D q 0 o)),.agg #[r B m.page,r B m.size,r B m.frame,r B m.rights]] w (cI (r B ((l.length:Int) - (Tl.drop l m).length)) (aQ q (Tl.drop l m) k*R) w):=by
 obtain⟨A,c,h⟩:=cY h;exact(dropR q A c l k m R w hl.lok hm (Nat.le_trans hl.len (by omega)) h).mono fun _ _ ⟨_,_,a,b,c⟩=>⟨a,bE b,c⟩
theorem tD(q:Nat)(l:List Ln)(k:Ck)(p:Int)(R:ab)(w:N)(hl:Tl.Ok l)(hp:cL p)(h:I w (aQ q l k*R)):
  af prog 117 #[.pointer (C (D q 0 o)),.int .i64 p] w (Pure (r B (Tl.idx l p)) w):=by
 obtain⟨A,c,h⟩:=cY h;exact xf q A c l k p R w hl.lok hp h
def bF(v:a5)(l:List Nat):ab:=bZ 67 1 v l.length (l.map pe)
theorem rG{w:N}{R:ab}{A:Option a6}{n c:Nat}{l:List Nat}(h:I w (bF (.slice A n c) l*R)):n=l.length:=by
 rcases(Has.rowCases (e:=67) (size:=1) h) with ⟨hv,h0,_⟩|⟨g,cap,cur,hv,_⟩
 ·injection hv with a b
  omega
 ·injection hv
theorem kv{w:N}{R:ab}{A:Option a6}{n c:Nat}{l:List Nat}(h:I w (bF (.slice A n c) l*R)){k p:Nat}(hk:l[k]? =C p):
  ∃b,A=C (D b 0 o)∧b<w.heap.size∧w.cell? (D b k o)=C (.pointer (C (D p 0 o))):=by
 obtain rfl:=rG h;obtain⟨b,e,hb,hc,_⟩:=Has.rowGet (e:=67) (size:=1) h (i:=k) (u:=pe p) (by simp[hk]);exact⟨b,e,hb,hc⟩
theorem vR:jh prog 67 (.pointer o) 1 8:=⟨by kernel_rfl,rfl,by omega⟩
def aL:List Nat→List Cr→ab
 |p::ps,c::cs=>aQ p c.l c.k*aL ps cs
 |_,_=>dN True
theorem kJ:∀{ps:List Nat} {cs:List Cr} {k p:Nat} {c:Cr},ps[k]? =C p→cs[k]? =C c→∃Q,aL ps cs=aQ p c.l c.k*Q∧∀c',aL ps (cs.set k c')=aQ p c'.l c'.k*Q
 | [],_,_,_,_,h,_=>by simp at h
 |_::_,[],_,_,_,_,h=>by simp at h
 |q::ps,d::cs,0,p,c,h1,h2=>by
  simp at h1 h2;subst h1;subst h2;exact⟨aL ps cs,rfl,fun c'=>rfl⟩
 |q::ps,d::cs,k+1,p,c,h1,h2=>by
  simp at h1 h2;obtain⟨Q,e1,e2⟩:=kJ h1 h2;refine⟨aQ q d.l d.k*Q,?_,fun c'=> ?_⟩
  ·show aQ q d.l d.k*aL ps cs=_
   rw[e1];ac_rfl
  ·show aQ q d.l d.k*aL ps (cs.set k c')=_
   rw[e2];ac_rfl
theorem kQ:∀(ps:List Nat) (cs:List Cr) (p:Nat) (c:Cr),ps.length=cs.length→aL (ps++[p]) (cs++[c])=aQ p c.l c.k*aL ps cs
 | [],[],p,c,_=>rfl
 | [],_::_,_,_,h=>by simp at h
 |_::_,[],_,_,h=>by simp at h
 |q::ps,d::cs,p,c,h=>by
  show aQ q d.l d.k*aL (ps++[p]) (cs++[c])=_;rw[kQ ps cs p c (by simpa using h)];show _=aQ p c.l c.k*(aQ q d.l d.k*aL ps cs);ac_rfl
structure Rl where
 m:Nat
 A:Option a6
 c:Nat
 ps:List Nat
 G:Option a6
 d:Nat
 gw:Nat
def bI(ws:Nat→Bool):Nat→a5:=fun j=>S (ws j)
def fy(b:Nat)(σ:Sc)(y:Rl)(R:ab):ab:=
 aa b #[.pointer (C (D y.m 0 o)),r B 0,.slice y.A y.ps.length y.c,S σ.busy,.slice y.G σ.gone.length y.d,r B σ.told.page,r B σ.told.size,r B σ.told.frame,r B σ.told.rights,.slice (C (D y.gw 0 o)) y.ps.length y.ps.length] 52*
  (bF (.slice y.A y.ps.length y.c) y.ps*(ao (.slice y.G σ.gone.length y.d) σ.gone*(aa y.gw (bm y.ps.length (bI σ.wait)) 4*(aL y.ps σ.cs*(az y.m σ.s*R)))))
def cq(b:Nat)(σ:Sc):ab:=ex fun y=>dN (y.ps.length=σ.cs.length)*fy b σ y (dN True)
section
variable {w:N} {b:Nat} {σ:Sc} {R:ab}
theorem fQ(h:I w (cq b σ*R)):∃y,y.ps.length=σ.cs.length∧I w (fy b σ y R):=by
 unfold cq at h;obtain⟨y,h⟩:=aH.1 h;rw[aG] at h;obtain⟨hy,h⟩:=cH.1 h;refine⟨y,hy,?_⟩;have h2:I w (dN True*fy b σ y R):=h.eq (by unfold fy;ac_rfl);exact h2.right
theorem fR{y:Rl}(hy:y.ps.length=σ.cs.length)(h:I w (fy b σ y R)):I w (cq b σ*R):=by
 unfold cq;refine aH.2 ⟨y,?_⟩;rw[aG];refine cH.2 ⟨hy,?_⟩;have h2:I w (dN True*fy b σ y R):=cH.2 ⟨trivial,h⟩;exact h2.eq (by unfold fy;ac_rfl)
theorem Has.cells10{v0 v1 v2 v3 v4 v5 v6 v7 v8 v9:a5}{t:TypeId}(h:I w (aa b #[v0,v1,v2,v3,v4,v5,v6,v7,v8,v9] t*R)):
  w.cell? (D b 0 o)=C v0∧w.cell? (D b 1 o)=C v1∧w.cell? (D b 2 o)=C v2∧w.cell? (D b 3 o)=C v3∧w.cell? (D b 4 o)=C v4∧w.cell? (D b 5 o)=C v5∧
   w.cell? (D b 6 o)=C v6∧w.cell? (D b 7 o)=C v7∧w.cell? (D b 8 o)=C v8∧w.cell? (D b 9 o)=C v9:=
 ⟨h.cell 0,h.cell 1,h.cell 2,h.cell 3,h.cell 4,h.cell 5,h.cell 6,h.cell 7,h.cell 8,h.cell 9⟩
end
theorem pY{w:N}{q:Nat}{R:ab}(h:I w (aa q #[.slice o 0 0,S F,r B 0,r B 0,S F,r B 0,r B 0,S F,r vU 0] 66*R)):I w (aQ q [] Ck.zero*R):=by
 have h2:=b5 (e:=129) (size:=5) h;exact bE (A:=o) (c:=0) (h2.eq (by unfold aM cv gk;show _=_;rw[ar];rfl))
theorem tE(q:Nat):∀u∈([.pointer (C (D q 0 o))]:List a5),u.oneCell'=a4:=by
 intro u hu;simp at hu;subst hu;rfl
set_option maxHeartbeats 4000000 in
theorem yh(K n:Nat)(h1:1≤K)(h4:K≤4)(hn:1≤n)(hn2:n≤128)(R:ab)(w:N)(h:I w R):
  af prog 15 #[r B K,r B n] w fun e w'=>∃b,cI (.pointer (C (D b 0 o))) (cq b (U K n)*R) w e w':=by
 have HM:=E (fun R w h=>xD R w (n:Int) h (by omega) (by omega));have hB:=fun w=>lu K (by omega) w;have ht0:(M n).topV =0:=by
  have ht:(M n).top =C 0:=by
   show(if 0<n then C 0 else o)=C 0;rw[if_pos (by omega)]
  unfold Ms.topV;rw[ht];rfl
 have HTK:=E (fun m R w h=>uJ m (M n) R w h (Ms.Ok.new hn2));rw[ht0] at HTK;rw[show((n:Int)).toNat =n from rfl] at HM;have hd:=h.drew;have xd:=(Ext.refl w).drew;have hn:=(h.new (bm K (tc (M K))) 4).drew;have xn:=((Ext.refl w).alloc (.cells (bm K (tc (M K))) 4)).drew;clear h ht0;go_enter func15,ntmps15;go_upto_region 1 with fail;go_cut [5] from 7 to 12 (fun s5 wx=>∃(b m gw:Nat),s5= .pointer (C (D b 0 o))∧I wx (az m (M n)*(aa b #[.pointer (C (D m 0 o)),r B 0,.slice o 0 0,S F,.slice o 0 0,r B 0,r B 0,r B 0,r B 0,.slice (C (D gw 0 o)) K K] 52*(aa gw (bm K (tc (M K))) 4*R)))∧Ext w wx)
 case first=>
  go_region_law (go_simp;go_at_call 56;first
   |((with_reducible refine(HM.out _ _ hd).mono ?_);rintro e w8 ⟨m,rfl,h8,x8⟩;have hz:=h8.new (bm K (tc (M K))) 4;have xz:=(xd.trans x8).alloc (.cells (bm K (tc (M K))) 4))
   |((with_reducible refine(HM.out _ _ hn).mono ?_);rintro e w8 ⟨m,rfl,h8,x8⟩;have hz:=h8.p2;have xz:=xn.trans x8))
  all_goals
   go_wp2_with fail
   go_meet
   case rel=>first
    |exact⟨_,m,w8.heap.size,rfl,(hz.new #[.pointer (C (D m 0 o)),r B 0,.slice o 0 0,S F,.slice o 0 0,r B 0,r B 0,r B 0,r B 0,.slice (C (D w8.heap.size 0 o)) K K] 52).eq (by simp only[J];ac_rfl),xz.alloc _⟩
    |exact⟨_,m,w.heap.size,rfl,(hz.new #[.pointer (C (D m 0 o)),r B 0,.slice o 0 0,S F,.slice o 0 0,r B 0,r B 0,r B 0,r B 0,.slice (C (D w.heap.size 0 o)) K K] 52).eq (by ac_rfl),xz.alloc _⟩
 case rest=>
  obtain⟨b,m,gw,rfl,h2,x2⟩:=hcut;clear hd xd hn xn hB HM;obtain⟨c0,c1,-⟩:=h2.right.cells10;have cl:=h2.right.lt;go_wp2_with fail
  refine(HTK.out m _ _ h2).mono ?_;rintro e w3 ⟨rfl,h3,x3⟩;have f1:=h3.right.free 1;have g1:=h3.right.cell 1;have gl:=h3.right.lt;clear c0 c1 cl HTK;have h4:I _ (aa b #[.pointer (C (D m 0 o)),r B 0,.slice o 0 0,S F,.slice o 0 0,r B 0,r B 0,r B 0,r B 0,.slice (C (D gw 0 o)) K K] 52*(az m (M n).takeS *(aa gw (bm K (tc (M K))) 4*R))):=h3.p2.set 1 (r B 0);have h5:I _ (bF (.slice o 0 0) []*(aa b #[.pointer (C (D m 0 o)),r B 0,.slice o 0 0,S F,.slice o 0 0,r B 0,r B 0,r B 0,r B 0,.slice (C (D gw 0 o)) K K] 52*(aL [] (List.replicate 0 Cr.zero)*(az m (M n).takeS *(aa gw (bm K (tc (M K))) 4*R))))):=
   bb ((cH.2 ⟨trivial,h4⟩).eq (show _=aa b #[.pointer (C (D m 0 o)),r B 0,.slice o 0 0,S F,.slice o 0 0,r B 0,r B 0,r B 0,r B 0,.slice (C (D gw 0 o)) K K] 52*(dN True*(az m (M n).takeS *(aa gw (bm K (tc (M K))) 4*R))) by ac_rfl))
  have x5:=(x2.trans x3).set (D b 1 o) (r B 0);clear h2 x2 h3 x3 h4;go_upto_region 3 with fail;generalize w3.setCell (D b 1 o) (r B 0)=w5 at*
  clear f1 g1 gl;go_wp2_with fail
  go_loopw [6] (fun t wz=>∃(j:Nat) (A:Option a6) (c:Nat) (ps:List Nat),j≤K∧t=r B j∧ps.length=j∧
    I wz (bF (.slice A j c) ps*(aa b #[.pointer (C (D m 0 o)),r B 0,.slice A j c,S F,.slice o 0 0,r B 0,r B 0,r B 0,r B 0,.slice (C (D gw 0 o)) K K] 52*(aL ps (List.replicate j Cr.zero)*(az m (M n).takeS *(aa gw (bm K (tc (M K))) 4*R)))))∧Ext w wz)
   (fun t _=>K - (intOf t).toNat)
  case atStart=>exact⟨0,o,0,[],by omega,rfl,rfl,h5,x5⟩
  case round=>
   clear h5 x5;obtain⟨j,A,c,ps,hj,rfl,hps,hz,hx⟩:=hrel;subst hps;generalize hZ:(az m (M n).takeS *(aa gw (bm K (tc (M K))) 4*R))=Z at*
   by_cases hjn:ps.length<K
   ·have g2:=hz.right.cell 2
    have gl:=hz.right.lt;have h6:=hz.new #[.slice o 0 0,S F,r B 0,r B 0,S F,r B 0,r B 0,S F,r vU 0] 66;have h7:=h6.right.eq (rfl:_=bF (.slice A ps.length c) ps*(aa b #[.pointer (C (D m 0 o)),r B 0,.slice A ps.length c,S F,.slice o 0 0,r B 0,r B 0,r B 0,r B 0,.slice (C (D gw 0 o)) K K] 52*(aL ps (List.replicate ps.length Cr.zero)*Z)));have h8:I _ (bF (.slice A ps.length c) ps*(aa b #[.pointer (C (D m 0 o)),r B 0,.slice A ps.length c,S F,.slice o 0 0,r B 0,r B 0,r B 0,r B 0,.slice (C (D gw 0 o)) K K] 52*(aQ wr.heap.size [] Ck.zero*(aL ps (List.replicate ps.length Cr.zero)*Z)))):=(pY h6).eq (by ac_rfl);have x6:=hx.alloc (.cells #[.slice o 0 0,S F,r B 0,r B 0,S F,r B 0,r B 0,S F,r vU 0] 66);clear h6 h7;have hnw:=eO (wr.alloc (.cells #[.slice o 0 0,S F,r B 0,r B 0,S F,r B 0,r B 0,S F,r vU 0] 66)) (.pointer (C (D wr.heap.size 0 o))) 67;rw[J] at hnw;go_wp2_with(at_builtin;(refine aW rfl _ _ 49 rfl underlying49 vR _ _ _ rfl (h8.alloc _) ⟨wr.heap.size+1,0,o⟩ 1 1 [.pointer (C (D wr.heap.size 0 o))] rfl rfl hnw ?c1 ?c2 ?c3 ?_))
    case c1=>exact tE _
    case c2=>unfold maxLen;omega
    case c3=>omega
    intro v9 w9 h9 x9;obtain⟨A',c',rfl⟩:=bz (e:=67) (size:=1) h9;have y2:=h9.right.cell 2;have yf:=h9.right.free 2;have yl:=h9.right.lt;have h10:I (w9.setCell (D b 2 o) (.slice A' (ps.length+1) c')) (bF (.slice A' (ps.length+1) c') (ps++[wr.heap.size])*(aa b #[.pointer (C (D m 0 o)),r B 0,.slice A' (ps.length+1) c',S F,.slice o 0 0,r B 0,r B 0,r B 0,r B 0,.slice (C (D gw 0 o)) K K] 52*(aL (ps++[wr.heap.size]) (List.replicate (ps.length+1) Cr.zero)*Z))):=by
     have h12:=(h9.p2.set 2 (.slice A' (ps.length+1) c'));have h14:=h12.p2;rw[List.replicate_succ',kQ ps _ wr.heap.size Cr.zero (by simp)];unfold bF;rw[O,List.map_append];exact h14.eq (by show _=bZ 67 1 (.slice A' (ps.length+1) c') (ps.length+1) (ps.map pe++[.pointer (C (D wr.heap.size 0 o))])*(aa b #[.pointer (C (D m 0 o)),r B 0,.slice A' (ps.length+1) c',S F,.slice o 0 0,r B 0,r B 0,r B 0,r B 0,.slice (C (D gw 0 o)) K K] 52*((aQ wr.heap.size [] Ck.zero*_)*Z));ac_rfl)
    have x10:=((x6.alloc (.cells #[.pointer (C (D wr.heap.size 0 o))] 67)).trans x9).set (D b 2 o) (.slice A' (ps.length+1) c');clear h9 h8 hz g2 gl hx x9 x6;go_wp2_with fail
    go_roundw
    case rel=>exact⟨ps.length+1,A',c',ps++[wr.heap.size],by omega,by go_num,by simp,h10,x10⟩
    case measure=>simp[intOf];omega
   ·have hjc:ps.length=K:=by omega
    have hE:I wr (cq b (U K n)*R):=by
     refine fR (y:=⟨m,A,c,ps,o,0,gw⟩) (by simpa [U] using hjc) ?_;unfold fy U;dsimp only;have k1:=(bb (e:=3) (size:=1) hz).eq (show _=aa b #[.pointer (C (D m 0 o)),r B 0,.slice A ps.length c,S F,.slice o 0 0,r B 0,r B 0,r B 0,r B 0,.slice (C (D gw 0 o)) K K] 52*(bF (.slice A ps.length c) ps*(ao (.slice o 0 0) []*(aa gw (bm K (tc (M K))) 4*(aL ps (List.replicate ps.length Cr.zero)*(az m (M n).takeS *R))))) by rw[←hZ];show bZ 3 1 (.slice o 0 0) 0 []*_=_;unfold ao;simp only[List.map_nil,List.length_nil];ac_rfl);rw[←hjc] at k1⊢;exact k1
    clear hjc hZ hz;go_wp2_with fail
    go_ret;exact⟨b,rfl,hE,hx⟩
end Go.Proofs.YtmfheghbgihdmaaGreat
