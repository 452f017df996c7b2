/- Contract of watch.New. -/
import Derived.Test.YtmfheghbgihdmaaGreatScE
import Derived.Test.YtmfheghbgihdmaaGreatSpcA
import Derived.Test.YtmfheghbgihdmaaGreatFrames3
namespace Go.Proofs.YtmfheghbgihdmaaGreat
open Option renaming none→a,some→c
open Go.Value renaming int→d
open Go.IntKind renaming i64→k
open Go.Addr renaming mk→l
open Go.World renaming size_alloc→m
open Tryz
open Go.RowKit
set_option maxRecDepth 100000
theorem vZ:(prog.info? 3).map (fun i=>(i.zero,i.size,i.bytes))=c (c (d k 0),1,8):=by kernel_rfl
theorem lJ(n:Nat)(hn:n≤128)(w:World):(Instr.makeSlice 45 (.int .i64 (n:Int)) (.int .i64 (n:Int))).run prog w= .ok (.slice (c (l w.heap.size 0 a)) n n) (w.alloc (.cells (bn n (fun _=>d k 0)) 3)):=by
 rw[gS (P:=prog) 45 3 (d k 0) 1 8 underlying45 vZ rfl n (by omega) (by omega) w,Nat.mul_one,jO (f:=fun j=>(d k 0).cells[j % 1]!) (g:=fun _=>d k 0) (fun j _=>by
  show(d k 0).cells[j % 1]! =d k 0;rw[Nat.mod_one];rfl)]
theorem lK{w:World}{R:ae}{g n:Nat}(hn:n≤128)(h:Has w (aa g (bn n (fun _=>d k 0)) 3*R)):Has w (am (.slice (c (l g 0 a)) n n) (List.replicate n 0)*R):=by
 unfold am;rw[List.length_replicate];refine Has.rowOf (size:=1) h (by simp) (Nat.le_refl n) (by unfold maxLen;omega) (by rw[n7];omega) ?_;rw[Nat.mul_one];refine List.ext_getElem? fun j=> ?_;rw[List.getElem?_take];split
 ·rename_i hj
  have:=lc (f:=fun _=>d k 0) hj;rw[Array.getElem?_toList,this];simp[hj]
 ·rename_i hj
  simp[hj]
theorem ji(cores n:Int)(hc:cores<1∨4<cores∨n<1∨128<n)(w:World):
  Calls prog 35 #[d k cores,d k n] w (Pure (.tuple #[.pointer a,.agg #[d k 1,d k (-1)]]) w):=by
 have h0:=(aM w).new #[d k 0,d k 0] 27;have x0:=(Ext.refl w).alloc (.cells #[d k 0,d k 0] 27);have HN:=Lib.hid (fun w=>rB cores n hc w);go_enter func35,ntmps35;go_wp2_with fail
 refine(HN.out _).mono ?_;rintro e w2 ⟨rfl,b2⟩;have h2:Has _ (aa w.heap.size #[d k 0,d k 0] 27*(aa w2.heap.size #[d k 1,d k (-1)] 27*a9 w w.heap.size)):=((h0.below b2).new #[d k 1,d k (-1)] 27).eq (by ac_rfl);have x2:=(x0.below b2).alloc (.cells #[d k 1,d k (-1)] 27);clear h0 x0 b2 HN;go_upto_region 2 with fail;generalize w2.alloc _=w3 at*
 generalize w2.heap.size=Y at*
 obtain⟨c0,c1⟩:=h2.cells2;obtain⟨f0,f1⟩:=h2.frees2;have cl:=h2.lt;obtain⟨d0,d1⟩:=h2.right.cells2;have dl:=h2.right.lt;have h3:=h2.set2 (d k 1) (d k (-1));go_upto_region 3 with fail;go_region
 all_goals
  go_wp2_with fail
  refine ao (fun wz=>Has wz (aa w.heap.size #[d k 1,d k (-1)] 27*(aa Y #[d k 1,d k (-1)] 27*a9 w w.heap.size))∧Ext w wz) ⟨by first|(with_reducible exact h3.drew)|(with_reducible exact h3),ai⟩ ?_;rintro wz ⟨hz,xz⟩;exact bodyPost_ret (dS results35 rfl rfl (cF hz)) rfl ⟨rfl,ap hz.right.right xz⟩
theorem qe{w:World}{X:Nat}{va:Array Value}{ta:TypeId}{R:ae}(b g h bk:Nat){sp K:Nat}(hK:K≤4)(hh:Has w (aa X va ta*(aa b #[.pointer (c (l sp 0 a)),.slice (c (l h 0 a)) 1 1,d k 0,.slice (c (l g 0 a)) K K,d k 0,d k 0,d k 0] 82*(aa g (bn K (fun _=>d k 0)) 3*(aa h #[.pointer (c (l bk 0 a))] 150*(bw bk []*R)))))):
  Has w (aa X va ta*(ar b sp [[]] 0 (List.replicate K 0)*R)):=by
 have h1:Has w (aa g (bn K (fun _=>d k 0)) 3*(aa X va ta*(aa b #[.pointer (c (l sp 0 a)),.slice (c (l h 0 a)) 1 1,d k 0,.slice (c (l g 0 a)) K K,d k 0,d k 0,d k 0] 82*(aa h #[.pointer (c (l bk 0 a))] 150*(bw bk []*R))))):=hh.eq (by ac_rfl);have h2:=lK (by omega) h1;have h3:Has w (aa h #[.pointer (c (l bk 0 a))] 150*(am (.slice (c (l g 0 a)) K K) (List.replicate K 0)*(aa X va ta*(aa b #[.pointer (c (l sp 0 a)),.slice (c (l h 0 a)) 1 1,d k 0,.slice (c (l g 0 a)) K K,d k 0,d k 0,d k 0] 82*(bw bk []*R))))):=h2.eq (by ac_rfl);have h4:Has w (dG (.slice (c (l h 0 a)) 1 1) [bk]*(am (.slice (c (l g 0 a)) K K) (List.replicate K 0)*(aa X va ta*(aa b #[.pointer (c (l sp 0 a)),.slice (c (l h 0 a)) 1 1,d k 0,.slice (c (l g 0 a)) K K,d k 0,d k 0,d k 0] 82*(bw bk []*R))))):=
  Has.rowOf (e:=150) (size:=1) h3 (by simp) (Nat.le_refl 1) (by unfold maxLen;omega) rfl rfl
 have h5:=eY (b:=b) (sp:=sp) (H:=[[]]) (f:=0) (since:=List.replicate K 0) (y:=⟨c (l h 0 a),1,[bk],c (l g 0 a),K,0⟩) (R:=aa X va ta*R) rfl (by
  unfold cY;dsimp only;rw[List.length_replicate];show Has w (aa b _ _*(dG _ [bk]*(am _ _*((bw bk []*ei True)*(aa X va ta*R)))));rw[show bw bk []*ei True=bw bk [] from by rw[bo];exact fJ _];exact h4.eq (by ac_rfl))
 exact h5.p2
set_option maxHeartbeats 4000000 in
theorem kO(K n:Nat)(h1:1≤K)(h4:K≤4)(hn:1≤n)(hn2:n≤128)(R:ae)(w:World)(h:Has w R):
  Calls prog 35 #[d k K,d k n] w fun e w'=>∃b sp,cN (.tuple #[.pointer (c (l b 0 a)),.agg #[d k 0,d k 0]]) (ar b sp [[]] 0 (List.replicate K 0)*(ah sp (Sc.new K n)*R)) w e w':=by
 have h0:=h.new #[d k 0,d k 0] 27;have x0:=(Ext.refl w).alloc (.cells #[d k 0,d k 0] 27);have HN:=Lib.hid (fun R w h=>yX K n (by omega) (by omega) (by omega) (by omega) R w h);have HBN:=Lib.hid (fun R w h=>zx R w h);have hmk:=fun w=>lJ K (by omega) w;clear h;go_enter func35,ntmps35;go_wp2_with fail
 refine(HN.out _ _ h0).mono ?_;rintro e w2 ⟨sp,rfl,h2,x2⟩;have h3:Has _ (aa w.heap.size #[d k 0,d k 0] 27*(ah sp (Sc.new K n)*(aa w2.heap.size #[d k 0,d k 0] 27*R))):=(h2.new #[d k 0,d k 0] 27).eq (by ac_rfl);have x3:=(x0.trans x2).alloc (.cells #[d k 0,d k 0] 27);clear h0 x0 h2 x2 HN;go_upto_region 2 with fail;generalize w2.alloc _=w3 at*
 generalize w.heap.size=X at*
 generalize w2.heap.size=Y at*
 obtain⟨c0,c1⟩:=h3.cells2;obtain⟨f0,f1⟩:=h3.frees2;have cl:=h3.lt;obtain⟨d0,d1⟩:=h3.right.right.cells2;have dl:=h3.right.right.lt;go_upto_region 4 with fail;go_cut [4] from 18 to 25 (fun s4 wx=>∃b,s4= .pointer (c (l b 0 a))∧Has wx (aa X #[d k 0,d k 0] 27*(ar b sp [[]] 0 (List.replicate K 0)*(ah sp (Sc.new K n)*(aa Y #[d k 0,d k 0] 27*R))))∧Ext w wx)
 case first=>
  have hd:=h3.drew;have xd:=x3.drew;have hm:=(h3.new (bn K (fun _=>d k 0)) 3).drew;have xm:=(x3.alloc (.cells (bn K (fun _=>d k 0)) 3)).drew;go_region_law (go_simp;go_at_call 81;first
   |((with_reducible refine(HBN.out _ _ hd).mono ?_);rintro e w8 ⟨bk,rfl,h8,x8⟩;have h9:Has w8 (aa X #[d k 0,d k 0] 27*(bw bk []*(ah sp (Sc.new K n)*(aa Y #[d k 0,d k 0] 27*R)))):=h8.p2;have z1:=(((h9.set2 (d k 0) (d k 0)).new #[.pointer (c (l bk 0 a))] 150).new (bn K (fun _=>d k 0)) 3).new #[.pointer (c (l sp 0 a)),.slice (c (l w8.heap.size 0 a)) 1 1,d k 0,.slice (c ⟨(w8.heap.size+1),0,a⟩) K K,d k 0,d k 0,d k 0] 82;have z2:=h8.right;obtain⟨y0,y1⟩:=z2.cells2;obtain⟨g0,g1⟩:=z2.frees2;have yl:=z2.lt;have yl1:X<w8.heap.size+1:=(by omega);have yl2:X<w8.heap.size+1+1:=(by omega);have hz:Has _ (aa X #[d k 0,d k 0] 27*(aa (w8.heap.size+1+1) #[.pointer (c (l sp 0 a)),.slice (c (l w8.heap.size 0 a)) 1 1,d k 0,.slice (c ⟨(w8.heap.size+1),0,a⟩) K K,d k 0,d k 0,d k 0] 82*(aa (w8.heap.size+1) (bn K (fun _=>d k 0)) 3*(aa w8.heap.size #[.pointer (c (l bk 0 a))] 150*(bw bk []*(ah sp (Sc.new K n)*(aa Y #[d k 0,d k 0] 27*R))))))):=z1.eq (by simp only[m,World.size_setCell];ac_rfl);have z3:=(((h9.set2 (d k 0) (d k 0)).new (bn K (fun _=>d k 0)) 3).new #[.pointer (c (l bk 0 a))] 150).new #[.pointer (c (l sp 0 a)),.slice (c ⟨(w8.heap.size+1),0,a⟩) 1 1,d k 0,.slice (c (l w8.heap.size 0 a)) K K,d k 0,d k 0,d k 0] 82;have hy:Has _ (aa X #[d k 0,d k 0] 27*(aa (w8.heap.size+1+1) #[.pointer (c (l sp 0 a)),.slice (c ⟨(w8.heap.size+1),0,a⟩) 1 1,d k 0,.slice (c (l w8.heap.size 0 a)) K K,d k 0,d k 0,d k 0] 82*(aa w8.heap.size (bn K (fun _=>d k 0)) 3*(aa (w8.heap.size+1) #[.pointer (c (l bk 0 a))] 150*(bw bk []*(ah sp (Sc.new K n)*(aa Y #[d k 0,d k 0] 27*R))))))):=z3.eq (by simp only[m,World.size_setCell];ac_rfl);have xy:=(((((xd.trans x8).set (l X 0 a) (d k 0)).set (l X 1 a) (d k 0)).alloc (.cells (bn K (fun _=>d k 0)) 3)).alloc (.cells #[.pointer (c (l bk 0 a))] 150)).alloc (.cells #[.pointer (c (l sp 0 a)),.slice (c ⟨(w8.heap.size+1),0,a⟩) 1 1,d k 0,.slice (c (l w8.heap.size 0 a)) K K,d k 0,d k 0,d k 0] 82);have xz:=(((((xd.trans x8).set (l X 0 a) (d k 0)).set (l X 1 a) (d k 0)).alloc (.cells #[.pointer (c (l bk 0 a))] 150)).alloc (.cells (bn K (fun _=>d k 0)) 3)).alloc (.cells #[.pointer (c (l sp 0 a)),.slice (c (l w8.heap.size 0 a)) 1 1,d k 0,.slice (c ⟨(w8.heap.size+1),0,a⟩) K K,d k 0,d k 0,d k 0] 82))
   |((with_reducible refine(HBN.out _ _ hm).mono ?_);rintro e w8 ⟨bk,rfl,h8,x8⟩;have h9:Has w8 (aa X #[d k 0,d k 0] 27*(aa w3.heap.size (bn K (fun _=>d k 0)) 3*(bw bk []*(ah sp (Sc.new K n)*(aa Y #[d k 0,d k 0] 27*R))))):=h8.eq (by ac_rfl);have z1:=(((h9.set2 (d k 0) (d k 0)).new #[.pointer (c (l bk 0 a))] 150).new #[.pointer (c (l sp 0 a)),.slice (c (l w8.heap.size 0 a)) 1 1,d k 0,.slice (c (l w3.heap.size 0 a)) K K,d k 0,d k 0,d k 0] 82);have z2:=h8.right.right;obtain⟨y0,y1⟩:=z2.cells2;obtain⟨g0,g1⟩:=z2.frees2;have yl:=z2.lt;have yl1:X<w8.heap.size+1:=(by omega);have yl2:X<w8.heap.size+1+1:=(by omega);have hz:Has _ (aa X #[d k 0,d k 0] 27*(aa (w8.heap.size+1) #[.pointer (c (l sp 0 a)),.slice (c (l w8.heap.size 0 a)) 1 1,d k 0,.slice (c (l w3.heap.size 0 a)) K K,d k 0,d k 0,d k 0] 82*(aa w3.heap.size (bn K (fun _=>d k 0)) 3*(aa w8.heap.size #[.pointer (c (l bk 0 a))] 150*(bw bk []*(ah sp (Sc.new K n)*(aa Y #[d k 0,d k 0] 27*R))))))):=z1.eq (by simp only[m,World.size_setCell];ac_rfl);have xz:=((((xm.trans x8).set (l X 0 a) (d k 0)).set (l X 1 a) (d k 0)).alloc (.cells #[.pointer (c (l bk 0 a))] 150)).alloc (.cells #[.pointer (c (l sp 0 a)),.slice (c (l w8.heap.size 0 a)) 1 1,d k 0,.slice (c (l w3.heap.size 0 a)) K K,d k 0,d k 0,d k 0] 82)))
  all_goals
   go_wp2_with fail
   go_meet
   case rel=>first|exact⟨_,rfl,qe _ _ _ _ (by omega) hz,xz⟩|exact⟨_,rfl,qe _ _ _ _ (by omega) hy,xy⟩
 case rest=>
  obtain⟨b,rfl,h5,x5⟩:=hcut;clear h3 x3 c0 c1 f0 f1 cl d0 d1 dl HBN hmk;go_wp2_with fail
  refine ao (fun wz=>Has wz (aa X #[d k 0,d k 0] 27*(ar b sp [[]] 0 (List.replicate K 0)*(ah sp (Sc.new K n)*(aa Y #[d k 0,d k 0] 27*R))))∧Ext w wz) ⟨h5,ai⟩ ?_;rintro wz ⟨hz,xz⟩;exact bodyPost_ret (dS results35 rfl rfl (cF hz)) rfl ⟨b,sp,rfl,(hz.right.eq (show _=aa Y #[d k 0,d k 0] 27*(ar b sp [[]] 0 (List.replicate K 0)*(ah sp (Sc.new K n)*R)) by ac_rfl)).right,xz⟩
end Go.Proofs.YtmfheghbgihdmaaGreat
