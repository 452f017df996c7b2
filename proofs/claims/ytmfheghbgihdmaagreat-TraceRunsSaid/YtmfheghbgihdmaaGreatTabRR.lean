/- Contract of the document's ProtectIn. -/
import Derived.Test.YtmfheghbgihdmaaGreatRefEnt5
import Derived.Test.YtmfheghbgihdmaaGreatCoreR
import Derived.Test.YtmfheghbgihdmaaGreatTblM3
import Derived.Test.YtmfheghbgihdmaaGreatScE
namespace Go.Proofs.YtmfheghbgihdmaaGreat
open Go.IntKind renaming u64→vU
open Go.Value renaming int→f,bool→B
open Go.IntKind renaming i64→l,wrap_i64→S
open Option renaming none→o,some→v
open Bool renaming false→C,true→U
open Go.Lib renaming hid→D
open Go.Addr renaming mk→F
open Go.Proofs.YtmfheghbgihdmaaGreat renaming Has→H,Ext→V,Ms→Z
open Go renaming bodyPost_ret→I,World→T,Calls→W
open List renaming getElem?_eq_some_iff→J,getElem?_eq_getElem→O
open Go.World renaming size_alloc→K
open Int renaming eq_ofNat_of_zero_le→N
open Tryz
open Go.RowKit
set_option maxRecDepth 100000
set_option maxHeartbeats 8000000 in
theorem Ai(q:Nat)(s:Z)(root p ri:Int)(R:ae)(w:T)(hs:s.Ok)(h:H w (aB q s*R)):
  W prog 115 #[.pointer (v (F q 0 o)),f l root,f l p,f l ri] w (cN (.tuple #[(li s root p ri).val,f l (iS s root p ri)]) (aB q (gV s root p ri)*R) w):=by
 have h0:=h.new #[f l 0,f l 0,f l 0,f l 0] 39;have x0:=(Ext.refl w).alloc (.cells #[f l 0,f l 0,f l 0,f l 0] 39);by_cases hri:ri<0∨7<ri
 ·have hc:iS s root p ri=1:=by unfold iS;rw[if_pos hri]
  have hm:li s root p ri=Mp.zero:=by unfold li;rw[if_neg (by rw[hc];decide)]
  have hss:gV s root p ri=s:=by unfold gV;rw[if_neg (by rw[hc];decide)]
  rw[hc,hm,hss];clear hc hm hss h;obtain⟨c0,c1,c2,c3⟩:=h0.cells4;obtain⟨g0,g1,g2,g3⟩:=h0.frees4;have cl:=h0.lt;rcases hri with hri|hri
  ·go_enter func115,ntmps115
   go_wp2_with fail
   refine ao (fun wz=>H wz (aa w.heap.size #[f l 0,f l 0,f l 0,f l 0] 39*(aB q s*R))∧V w wz) ⟨h0,ai⟩ ?_;rintro wz ⟨hz,xz⟩;exact I (ay results115 rfl rfl (aY hz)) rfl ⟨rfl,hz.right,xz⟩
  ·by_cases hr0:ri<0
   ·omega
   go_enter func115,ntmps115;go_wp2_with fail
   refine ao (fun wz=>H wz (aa w.heap.size #[f l 0,f l 0,f l 0,f l 0] 39*(aB q s*R))∧V w wz) ⟨h0,ai⟩ ?_;rintro wz ⟨hz,xz⟩;exact I (ay results115 rfl rfl (aY hz)) rfl ⟨rfl,hz.right,xz⟩
 have hpc:iS s root p ri=bH s root p:=by unfold iS;rw[if_neg hri]
 have hr0:¬ri<0:=by omega
 have hr7:¬7<ri:=by omega
 have HFI:=D (fun R w h=>mK q s root p R w hs h);by_cases hfc:bH s root p=0
 case neg=>
  have hss:gV s root p ri=s:=by unfold gV;rw[if_neg (by rw[hpc];exact hfc)]
  have hm:li s root p ri=Mp.zero:=by unfold li;rw[if_neg (by rw[hpc];exact hfc)]
  rw[hss,hm,hpc];have hn:(bH s root p !=0)=U:=by simpa using hfc
  generalize bH s root p=fc at*
  generalize bR s root p=fm at*
  generalize jg s root p=fe at*
  clear hss hm hpc h hri hfc;go_enter func115,ntmps115;go_wp2_with fail
  refine(HFI.out _ _ h0.p2).mono ?_;rintro e w1 ⟨rfl,b1⟩;have h1:=h0.below b1;have x1:=x0.below b1;clear h0 x0 b1 HFI;have h4:H _ (aa w.heap.size #[f l 0,f l 0,f l 0,f l 0] 39*(aB q s*(aa (w1.heap.size+1) #[B fe.there,B fe.leaf,f l fe.rights,B fe.used,B fe.dirty,f l fe.frame] 70*(aa w1.heap.size #[f l fm.page,f l fm.size,f l fm.frame,f l fm.rights] 39*R)))):=((h1.new #[f l fm.page,f l fm.size,f l fm.frame,f l fm.rights] 39).new #[B fe.there,B fe.leaf,f l fe.rights,B fe.used,B fe.dirty,f l fe.frame] 70).eq (by simp only[K];ac_rfl);have x4:=(x1.alloc (.cells #[f l fm.page,f l fm.size,f l fm.frame,f l fm.rights] 39)).alloc (.cells #[B fe.there,B fe.leaf,f l fe.rights,B fe.used,B fe.dirty,f l fe.frame] 70);clear h1 x1;unfold yO;go_upto_region 4 with fail;generalize (w1.alloc (.cells #[f l fm.page,f l fm.size,f l fm.frame,f l fm.rights] 39)).alloc (.cells #[B fe.there,B fe.leaf,f l fe.rights,B fe.used,B fe.dirty,f l fe.frame] 70)=w3 at*
  generalize w1.heap.size=X2 at*
  generalize w.heap.size=X0 at*
  obtain⟨r0,r1,r2,r3⟩:=h4.cells4;obtain⟨q0,q1,q2,q3⟩:=h4.frees4;have rl:=h4.lt;go_wp2_with fail
  refine ao (fun wz=>H wz (aa X0 #[f l 0,f l 0,f l 0,f l 0] 39*(aB q s*(aa (X2+1) #[B fe.there,B fe.leaf,f l fe.rights,B fe.used,B fe.dirty,f l fe.frame] 70*(aa X2 #[f l fm.page,f l fm.size,f l fm.frame,f l fm.rights] 39*R))))∧V w wz) ⟨h4.set4 _ _ _ _,ai⟩ ?_;rintro wz ⟨hz,xz⟩;exact I (ay results115 rfl rfl (aY hz)) rfl ⟨rfl,hz.right.eq (show _=aa (X2+1) #[B fe.there,B fe.leaf,f l fe.rights,B fe.used,B fe.dirty,f l fe.frame] 70*(aa X2 #[f l fm.page,f l fm.size,f l fm.frame,f l fm.rights] 39*(aB q s*R)) by ac_rfl) |>.right.right,xz⟩
 have hcode:(bv s root p).code =0:=by
  unfold bH at hfc;split at hfc
  ·rename_i hn;exact absurd hfc hn
  ·rename_i hn;simpa using hn
 obtain⟨hp,n,hn,hn3,hl,hu⟩:=fh hcode;obtain⟨t,ht⟩:∃t,(bv s root p).tabs[n]? =v t:=⟨_,O (by omega)⟩;have hht:s.has t=U:=hu t (by obtain⟨hl,e⟩:=J.1 ht;exact e▸List.getElem_mem hl);have hixr:=ic (p:=p) (L:=(bv s root p).lev) hp (by omega) (by omega);obtain⟨j,hj⟩:=N hixr.1;have hj8n:j<8:=by have:=hixr.2;omega
 have hj8:(j:Int)<8:=by omega
 have hfe:jg s root p=(bv s root p).e :=by unfold jg;rw[if_pos hfc]
 have hss:gV s root p ri=s.setW t.toNat j (bx {(jg s root p) with rights:=ri} (bv s root p).lev):=by
  unfold gV;rw[if_pos (by rw[hpc];exact hfc),j0 hn ht,hj,hfe];rfl
 have hm:li s root p ri={bR s root p with rights:=ri}:=by unfold li;rw[if_pos (by rw[hpc];exact hfc)]
 obtain⟨ht0,htn',_⟩:=Ms.has_iff.1 hht;obtain⟨tn,rfl⟩:=N ht0;have htn:tn<s.n:=by omega
 have htnz:(tn:Int)< (s.n:Int):=by omega
 have HWD:=D (fun Y=>jj {(jg s root p) with rights:=ri} (bv s root p).lev Y);dsimp only at HWD;have HI2:=D (fun Y=>eo p (bv s root p).lev Y);rw[hj] at HI2;have HWT:=D (fun R w h=>j6 q s root p R w hs h);rw[hpc,hm,hss,hfc];rw[hfc] at HFI;have HN:=D hn;have HT:=D ht;clear hss hm hpc hri h hcode hu hl hfc hn ht hj hixr hht ht0 htn';generalize bx {(jg s root p) with rights:=ri} (bv s root p).lev =nw at*
 generalize ak {(jg s root p) with rights:=ri} (bv s root p).lev =ff at*
 clear hfe;generalize bR s root p=fm at*
 generalize jg s root p=fe at*
 generalize bv s root p=y at*
 go_enter func115,ntmps115;go_wp2_with fail
 refine(HFI.out _ _ h0.p2).mono ?_;rintro e w1 ⟨rfl,b1⟩;have h1:=h0.below b1;have x1:=x0.below b1;clear h0 x0 b1 HFI;have h4:H _ (aB q s*(aa w.heap.size #[f l 0,f l 0,f l 0,f l 0] 39*(aa (w1.heap.size+1) #[B fe.there,B fe.leaf,f l fe.rights,B fe.used,B fe.dirty,f l fe.frame] 70*(aa w1.heap.size #[f l fm.page,f l fm.size,f l fm.frame,f l fm.rights] 39*R)))):=((h1.new #[f l fm.page,f l fm.size,f l fm.frame,f l fm.rights] 39).new #[B fe.there,B fe.leaf,f l fe.rights,B fe.used,B fe.dirty,f l fe.frame] 70).eq (by simp only[K];ac_rfl);have x4:=(x1.alloc (.cells #[f l fm.page,f l fm.size,f l fm.frame,f l fm.rights] 39)).alloc (.cells #[B fe.there,B fe.leaf,f l fe.rights,B fe.used,B fe.dirty,f l fe.frame] 70);clear h1 x1;unfold yO;go_upto_region 4 with fail;generalize (w1.alloc (.cells #[f l fm.page,f l fm.size,f l fm.frame,f l fm.rights] 39)).alloc (.cells #[B fe.there,B fe.leaf,f l fe.rights,B fe.used,B fe.dirty,f l fe.frame] 70)=w3 at*
 generalize w1.heap.size=X2 at*
 generalize w.heap.size=X0 at*
 go_wp2_with fail
 refine(HWT.out _ _ h4).mono ?_;rintro e w5 hF;obtain⟨A,c,rfl,h5,x5⟩:∃(A:Option Addr) (c:Nat),e= .returned (.tuple #[.agg #[.slice A y.tabs.length c,B y.e.there,B y.e.leaf,f l y.e.rights,B y.e.used,B y.e.dirty,f l y.e.frame,f l y.lev],f l y.code])∧H w5 (am (.slice A y.tabs.length c) y.tabs*a9 w3 w3.heap.size)∧V w3 w5:=hF;have h6:H _ (aa w5.heap.size #[.slice A y.tabs.length c,B y.e.there,B y.e.leaf,f l y.e.rights,B y.e.used,B y.e.dirty,f l y.e.frame,f l y.lev] 146*(am (.slice A y.tabs.length c) y.tabs*(aB q s*(aa X0 #[f l 0,f l 0,f l 0,f l 0] 39*(aa (X2+1) #[B fe.there,B fe.leaf,f l fe.rights,B fe.used,B fe.dirty,f l fe.frame] 70*(aa X2 #[f l fm.page,f l fm.size,f l fm.frame,f l fm.rights] 39*R)))))):=(h4.onto' h5).new #[.slice A y.tabs.length c,B y.e.there,B y.e.leaf,f l y.e.rights,B y.e.used,B y.e.dirty,f l y.e.frame,f l y.lev] 146;have x6:=(x4.trans x5).alloc (.cells #[.slice A y.tabs.length c,B y.e.there,B y.e.leaf,f l y.e.rights,B y.e.used,B y.e.dirty,f l y.e.frame,f l y.lev] 146);clear h4 x4 h5 x5 HWT;go_upto_region 7 with fail;generalize w5.alloc _=w6 at*
 generalize w5.heap.size=X5 at*
 obtain⟨bA,hA1,-,-⟩:=cM h6.right (k:=n) (by have:=HN.out;omega);subst hA1;have h7:H w6 (aa (X2+1) #[B fe.there,B fe.leaf,f l fe.rights,B fe.used,B fe.dirty,f l fe.frame] 70*(aa X2 #[f l fm.page,f l fm.size,f l fm.frame,f l fm.rights] 39*(aB q s*(aa X5 #[.slice (v (F bA 0 o)) y.tabs.length c,B y.e.there,B y.e.leaf,f l y.e.rights,B y.e.used,B y.e.dirty,f l y.e.frame,f l y.lev] 146*(am (.slice (v (F bA 0 o)) y.tabs.length c) y.tabs*(aa X0 #[f l 0,f l 0,f l 0,f l 0] 39*R)))))):=h6.eq (by ac_rfl);obtain⟨e0,e1,e2,e3,e4,e5⟩:=h7.cells6;obtain⟨f0,f1,f2,f3,f4,f5⟩:=h7.frees6;have el:=h7.lt;have m3:=h7.right.cell 3;have g3:=h7.right.free 3;have ml:=h7.right.lt;have nn:=h7.ne;have nn':=nn.symm;have h8:H ((w6.setCell ⟨X2+1,2,o⟩ (f l ri)).setCell (F X2 3 o) (f l ri)) (aa X2 #[f l fm.page,f l fm.size,f l fm.frame,f l ri] 39*(aa (X2+1) #[B fe.there,B fe.leaf,f l ri,B fe.used,B fe.dirty,f l fe.frame] 70*(aB q s*(aa X5 #[.slice (v (F bA 0 o)) y.tabs.length c,B y.e.there,B y.e.leaf,f l y.e.rights,B y.e.used,B y.e.dirty,f l y.e.frame,f l y.lev] 146*(am (.slice (v (F bA 0 o)) y.tabs.length c) y.tabs*(aa X0 #[f l 0,f l 0,f l 0,f l 0] 39*R)))))):=(h7.set 2 (f l ri)).p2.set 3 (f l ri);have x8:=(x6.set ⟨X2+1,2,o⟩ (f l ri)).set (F X2 3 o) (f l ri);go_upto_region 8 with fail;generalize (w6.setCell ⟨X2+1,2,o⟩ (f l ri)).setCell (F X2 3 o) (f l ri)=w8 at*
 clear h6 x6 h7 e0 e1 e2 e3 e4 e5 f0 f1 f2 f3 f4 f5 el m3 g3 ml nn nn';have h9:H w8 (aB q s*(aa X5 #[.slice (v (F bA 0 o)) y.tabs.length c,B y.e.there,B y.e.leaf,f l y.e.rights,B y.e.used,B y.e.dirty,f l y.e.frame,f l y.lev] 146*(am (.slice (v (F bA 0 o)) y.tabs.length c) y.tabs*(aa (X2+1) #[B fe.there,B fe.leaf,f l ri,B fe.used,B fe.dirty,f l fe.frame] 70*(aa X0 #[f l 0,f l 0,f l 0,f l 0] 39*(aa X2 #[f l fm.page,f l fm.size,f l fm.frame,f l ri] 39*R)))))):=h8.eq (by ac_rfl);clear h8;obtain⟨gw,gi,vk,hq⟩:=cC h9;have HK:=D (fun(w':T) (sx:Z) (h:H w' (dn q gw gi vk sx (aa X5 #[.slice (v (F bA 0 o)) y.tabs.length c,B y.e.there,B y.e.leaf,f l y.e.rights,B y.e.used,B y.e.dirty,f l y.e.frame,f l y.lev] 146*(am (.slice (v (F bA 0 o)) y.tabs.length c) y.tabs*(aa (X2+1) #[B fe.there,B fe.leaf,f l ri,B fe.used,B fe.dirty,f l fe.frame] 70*(aa X0 #[f l 0,f l 0,f l 0,f l 0] 39*(aa X2 #[f l fm.page,f l fm.size,f l fm.frame,f l ri] 39*R)))))))=>(by
  have hR:=h.right.r3;obtain⟨b1,e1,_,q1⟩:=cM hR.right (k:=n) (by have:=HN.out;omega);injection e1 with e1;injection e1 with e1
  subst e1;rw[(J.1 HT.out).2] at q1;exact⟨Has.cell h 0,hR.cell 0,hR.cell 7,q1,hR.right.right.cells6⟩:w'.cell? (F q 0 o)=v (.slice (v (F gw 0 o)) sx.n sx.n)∧w'.cell? (F X5 0 o)=v (.slice (v (F bA 0 o)) y.tabs.length c)∧w'.cell? (F X5 7 o)=v (f l y.lev)∧w'.cell? (F bA n o)=v (f l tn)∧(w'.cell? ⟨X2+1,0,o⟩=v (B fe.there)∧w'.cell? ⟨X2+1,1,o⟩=v (B fe.leaf)∧w'.cell? ⟨X2+1,2,o⟩=v (f l ri)∧w'.cell? ⟨X2+1,3,o⟩=v (B fe.used)∧w'.cell? ⟨X2+1,4,o⟩=v (B fe.dirty)∧w'.cell? ⟨X2+1,5,o⟩=v (f l fe.frame))))
 have hlen1:((y.tabs.length:Nat):Int) - 1=(n:Int):=by have:=HN.out;omega
 have hni:(n:Int)<y.tabs.length:=by have:=HN.out;omega
 have hn0:¬((n:Int)<0):=by omega
 have hn00:(0:Int)≤(n:Int):=by omega
 have hwn:IntKind.i64.wrap (n:Int)=(n:Int):=by rw[S];omega
 have hwn2:IntKind.i64.wrap (((y.tabs.length:Nat):Int) - 1)=(n:Int):=by rw[hlen1];exact hwn
 have hq0:=hq.drew;have xq0:=x8.drew;go_cut [] from 45 to 70 (fun wx=>H wx (aB q (s.setW tn j nw)*(aa X5 #[.slice (v (F bA 0 o)) y.tabs.length c,B y.e.there,B y.e.leaf,f l y.e.rights,B y.e.used,B y.e.dirty,f l y.e.frame,f l y.lev] 146*(am (.slice (v (F bA 0 o)) y.tabs.length c) y.tabs*(aa (X2+1) #[B fe.there,B fe.leaf,f l ri,B fe.used,B fe.dirty,f l fe.frame] 70*(aa X0 #[f l 0,f l 0,f l 0,f l 0] 39*(aa X2 #[f l fm.page,f l fm.size,f l fm.frame,f l ri] 39*R))))))∧V w wx)
 case first=>
  go_region_held3 (fun w'=>w'.cell? (F q 0 o)=v (.slice (v (F gw 0 o)) s.n s.n)∧w'.cell? (F X5 0 o)=v (.slice (v (F bA 0 o)) y.tabs.length c)∧w'.cell? (F X5 7 o)=v (f l y.lev)∧w'.cell? (F bA n o)=v (f l tn)∧(w'.cell? ⟨X2+1,0,o⟩=v (B fe.there)∧w'.cell? ⟨X2+1,1,o⟩=v (B fe.leaf)∧w'.cell? ⟨X2+1,2,o⟩=v (f l ri)∧w'.cell? ⟨X2+1,3,o⟩=v (B fe.used)∧w'.cell? ⟨X2+1,4,o⟩=v (B fe.dirty)∧w'.cell? ⟨X2+1,5,o⟩=v (f l fe.frame))) (first|(with_reducible exact HK.out _ s hq0)|(with_reducible exact HK.out _ s hi5)|(with_reducible exact HK.out _ s hw6)|(exact HK.out _ (s.setW tn j nw) (dt (k:=tn) (i:=j) hw6 hj8n nw))|(exact HK.out _ (s.setW tn j nw) (dt (k:=tn) (i:=j) hi5 hj8n nw))|go_keep) (first|(go_at_call 120;(with_reducible refine(HI2.out _).mono ?_);rintro e2 w5 ⟨rfl,b5⟩;first|(have hi5:=hw6.below b5;have xi5:=xw6.below b5;have y0:=co hi5 htn hj8n;have y1:=hi5.right.free (tn*8+j);have y2:=hi5.right.lt)|(have hi5:=hq0.below b5;have xi5:=xq0.below b5))|(go_at_call 124;(with_reducible refine(HWD.out _).mono ?_);rintro e2 w6 ⟨rfl,b6⟩;first|(have hw6:=hi5.below b6;have xw6:=xi5.below b6;have y0:=co hw6 htn hj8n;have y1:=hw6.right.free (tn*8+j);have y2:=hw6.right.lt)|(have hw6:=hq0.below b6;have xw6:=xq0.below b6)))
  all_goals
   go_wp2_with fail
   go_meet
   case rel=>first|exact⟨de (dt (k:=tn) (i:=j) hw6 hj8n nw),xw6.set _ _⟩|exact⟨de (dt (k:=tn) (i:=j) hi5 hj8n nw),xi5.set _ _⟩
 case rest=>
  clear hq hq0 xq0 h9 x8 HK;obtain⟨h10,x10⟩:=hcut;have h11:H wc (aa X0 #[f l 0,f l 0,f l 0,f l 0] 39*(aa X2 #[f l fm.page,f l fm.size,f l fm.frame,f l ri] 39*(aa X5 #[.slice (v (F bA 0 o)) y.tabs.length c,B y.e.there,B y.e.leaf,f l y.e.rights,B y.e.used,B y.e.dirty,f l y.e.frame,f l y.lev] 146*(am (.slice (v (F bA 0 o)) y.tabs.length c) y.tabs*(aa (X2+1) #[B fe.there,B fe.leaf,f l ri,B fe.used,B fe.dirty,f l fe.frame] 70*(aB q (s.setW tn j nw)*R)))))):=h10.eq (by ac_rfl);obtain⟨m0,m1,m2,m3⟩:=h11.right.cells4;have ml:=h11.right.lt;obtain⟨r0,r1,r2,r3⟩:=h11.cells4;obtain⟨q0,q1,q2,q3⟩:=h11.frees4;have rl:=h11.lt;go_wp2_with fail
  refine ao (fun wz=>H wz (aa X0 #[f l fm.page,f l fm.size,f l fm.frame,f l ri] 39*(aa X2 #[f l fm.page,f l fm.size,f l fm.frame,f l ri] 39*(aa X5 #[.slice (v (F bA 0 o)) y.tabs.length c,B y.e.there,B y.e.leaf,f l y.e.rights,B y.e.used,B y.e.dirty,f l y.e.frame,f l y.lev] 146*(am (.slice (v (F bA 0 o)) y.tabs.length c) y.tabs*(aa (X2+1) #[B fe.there,B fe.leaf,f l ri,B fe.used,B fe.dirty,f l fe.frame] 70*(aB q (s.setW tn j nw)*R))))))∧V w wz) ⟨h11.set4 _ _ _ _,ai⟩ ?_;rintro wz ⟨hz,xz⟩;exact I (ay results115 rfl rfl (aY hz)) rfl ⟨rfl,hz.right.right.r3,xz⟩
def pZ(q:Nat)(s:Z)(r p:Int)(R:ae)(w:T)(e:Ending)(w':T):Prop:=
 ∃A n c,cN (.tuple #[(bR s r p).val,.slice A n c,f l (bH s r p)]) (am (.slice A n c) (fA s r p)*(aB q (dr s r p)*R)) w e w'
theorem q9{s:Z}{t:Nat}:(s.wd t 0==0&&(s.wd t 1==0&&(s.wd t 2==0&&(s.wd t 3==0&&(s.wd t 4==0&&(s.wd t 5==0&&(s.wd t 6==0&&s.wd t 7==0)))))))=fz s (t:Int):=by
 unfold fz az;simp[List.range_succ]
theorem sB{p:Int}{tabs:List Int}{k:Nat}{s:Z}(h:k=0∨fz (s.setW (tabs.getD k 0).toNat (au p (3 - k:Nat)).toNat 0) (tabs.getD k 0)=C):ej p tabs k s=(s.setW (tabs.getD k 0).toNat (au p (3 - k:Nat)).toNat 0,[]):=by
 cases k with
 |zero=>rfl
 |succ k=>
  rcases h with h|h
  ·cases h
  ·conv=>lhs;unfold ej
   rw[if_neg (by rw[h];simp)]
theorem sC{p:Int}{tabs:List Int}{k j:Nat}{s:Z}(hk:k=j+1)(h:fz (s.setW (tabs.getD k 0).toNat (au p (3 - k:Nat)).toNat 0) (tabs.getD k 0)=U):
  ej p tabs k s=((ej p tabs j (s.setW (tabs.getD k 0).toNat (au p (3 - k:Nat)).toNat 0)).1,tabs.getD k 0::(ej p tabs j (s.setW (tabs.getD k 0).toNat (au p (3 - k:Nat)).toNat 0)).2):=by
 subst hk;conv=>lhs;unfold ej
 rw[if_pos h]
set_option maxHeartbeats 8000000 in
theorem zT(q:Nat)(s:Z)(root p:Int)(R:ae)(w:T)(hs:s.Ok)(h:H w (aB q s*R)):
  W prog 114 #[.pointer (v (F q 0 o)),f l root,f l p] w (pZ q s root p R w):=by
 have h0:=h.new #[f l 0,f l 0,f l 0,f l 0] 39;have x0:=(Ext.refl w).alloc (.cells #[f l 0,f l 0,f l 0,f l 0] 39);have HFI:=D (fun R w h=>mK q s root p R w hs h);unfold pZ;by_cases hfc:bH s root p=0
 case neg=>
  have hrs:dr s root p=s:=by unfold dr;rw[if_neg hfc]
  have hrg:fA s root p=[]:=by unfold fA;rw[if_neg hfc]
  have hm:bR s root p=Mp.zero:=by unfold bR;rw[if_neg hfc]
  have hn:(bH s root p !=0)=U:=by simpa using hfc
  have HF:=D (And.intro hrs (And.intro hrg hm));generalize bH s root p=fc at*
  generalize dr s root p=rs at*
  generalize fA s root p=rg at*
  generalize bR s root p=fm at*
  generalize jg s root p=fe at*
  clear hrs hrg hm h hfc;go_enter func114,ntmps114;go_wp2_with fail
  refine(HFI.out _ _ h0.p2).mono ?_;rintro e w1 ⟨rfl,b1⟩;have h1:=h0.below b1;have x1:=x0.below b1;clear h0 x0 b1 HFI;have h4:H _ (aa w.heap.size #[f l 0,f l 0,f l 0,f l 0] 39*(aB q s*(aa (w1.heap.size+1) #[B fe.there,B fe.leaf,f l fe.rights,B fe.used,B fe.dirty,f l fe.frame] 70*(aa w1.heap.size #[f l fm.page,f l fm.size,f l fm.frame,f l fm.rights] 39*R)))):=((h1.new #[f l fm.page,f l fm.size,f l fm.frame,f l fm.rights] 39).new #[B fe.there,B fe.leaf,f l fe.rights,B fe.used,B fe.dirty,f l fe.frame] 70).eq (by simp only[K];ac_rfl);have x4:=(x1.alloc (.cells #[f l fm.page,f l fm.size,f l fm.frame,f l fm.rights] 39)).alloc (.cells #[B fe.there,B fe.leaf,f l fe.rights,B fe.used,B fe.dirty,f l fe.frame] 70);clear h1 x1;unfold yO;go_upto_region 2 with fail;generalize (w1.alloc (.cells #[f l fm.page,f l fm.size,f l fm.frame,f l fm.rights] 39)).alloc (.cells #[B fe.there,B fe.leaf,f l fe.rights,B fe.used,B fe.dirty,f l fe.frame] 70)=w3 at*
  generalize w1.heap.size=X2 at*
  generalize w.heap.size=X0 at*
  obtain⟨r0,r1,r2,r3⟩:=h4.cells4;obtain⟨q0,q1,q2,q3⟩:=h4.frees4;have rl:=h4.lt;go_wp2_with fail
  refine ao (fun wz=>H wz (aa X0 #[f l 0,f l 0,f l 0,f l 0] 39*(aB q s*(aa (X2+1) #[B fe.there,B fe.leaf,f l fe.rights,B fe.used,B fe.dirty,f l fe.frame] 70*(aa X2 #[f l fm.page,f l fm.size,f l fm.frame,f l fm.rights] 39*R))))∧V w wz) ⟨h4.set4 _ _ _ _,ai⟩ ?_;rintro wz ⟨hw,xw⟩;have hw2:H wz (aa (X2+1) #[B fe.there,B fe.leaf,f l fe.rights,B fe.used,B fe.dirty,f l fe.frame] 70*(aa X2 #[f l fm.page,f l fm.size,f l fm.frame,f l fm.rights] 39*(aB q s*R))):=hw.right.eq (by ac_rfl);exact I (bm results114 rfl rfl rfl (aY hw)) rfl ⟨o,0,0,by rw[HF.out.2.2];rfl,by rw[HF.out.1,HF.out.2.1];exact Has.rowNil hw2.right.right,xw⟩
 have hcode:(bv s root p).code =0:=by
  unfold bH at hfc;split at hfc
  ·rename_i hn;exact absurd hfc hn
  ·rename_i hn;simpa using hn
 obtain⟨hp,n,hn,hn3,hl,hu⟩:=fh hcode;have hRS:dr s root p=(ej p (bv s root p).tabs n s).1:=by unfold dr;rw[if_pos hfc,hn,Nat.add_sub_cancel]
 have hRG:fA s root p=(ej p (bv s root p).tabs n s).2:=by unfold fA;rw[if_pos hfc,hn,Nat.add_sub_cancel]
 have hTk:∀k,k<n+1→∃t:Nat,(bv s root p).tabs[k]? =v (t:Int)∧(bv s root p).tabs.getD k 0=(t:Int)∧t<s.n:=fun k hk=>by
  have hk':k< (bv s root p).tabs.length :=by omega
  have hh:=hu _ (List.getElem_mem hk');obtain⟨t0,t1,_⟩:=Ms.has_iff.1 hh;obtain⟨t,ht⟩:=N t0;refine⟨t,by rw[O hk',ht],by rw[List.getD_eq_getElem?_getD,O hk',ht];first|done|rfl,by omega⟩
 have HWT:=D (fun R w h=>j6 q s root p R w hs h);rw[hfc] at HFI⊢;have HN:=D hn;have HTK:=D hTk;have HRS:=D hRS;have HRG:=D hRG;clear h hcode hu hl hfc hn hTk hRS hRG;generalize dr s root p=rs at*
 generalize fA s root p=rg at*
 generalize bR s root p=fm at*
 generalize jg s root p=fe at*
 generalize bv s root p=y at*
 go_enter func114,ntmps114;go_wp2_with fail
 refine(HFI.out _ _ h0.p2).mono ?_;rintro e w1 ⟨rfl,b1⟩;have h1:=h0.below b1;have x1:=x0.below b1;clear h0 x0 b1 HFI;have h4:H _ (aB q s*(aa w.heap.size #[f l 0,f l 0,f l 0,f l 0] 39*(aa (w1.heap.size+1) #[B fe.there,B fe.leaf,f l fe.rights,B fe.used,B fe.dirty,f l fe.frame] 70*(aa w1.heap.size #[f l fm.page,f l fm.size,f l fm.frame,f l fm.rights] 39*R)))):=((h1.new #[f l fm.page,f l fm.size,f l fm.frame,f l fm.rights] 39).new #[B fe.there,B fe.leaf,f l fe.rights,B fe.used,B fe.dirty,f l fe.frame] 70).eq (by simp only[K];ac_rfl);have x4:=(x1.alloc (.cells #[f l fm.page,f l fm.size,f l fm.frame,f l fm.rights] 39)).alloc (.cells #[B fe.there,B fe.leaf,f l fe.rights,B fe.used,B fe.dirty,f l fe.frame] 70);clear h1 x1;unfold yO;go_upto_region 2 with fail;generalize (w1.alloc (.cells #[f l fm.page,f l fm.size,f l fm.frame,f l fm.rights] 39)).alloc (.cells #[B fe.there,B fe.leaf,f l fe.rights,B fe.used,B fe.dirty,f l fe.frame] 70)=w3 at*
 generalize w1.heap.size=X2 at*
 generalize w.heap.size=X0 at*
 go_wp2_with fail
 refine(HWT.out _ _ h4).mono ?_;rintro e w5 hF;obtain⟨A,c,rfl,h5,x5⟩:∃(A:Option Addr) (c:Nat),e= .returned (.tuple #[.agg #[.slice A y.tabs.length c,B y.e.there,B y.e.leaf,f l y.e.rights,B y.e.used,B y.e.dirty,f l y.e.frame,f l y.lev],f l y.code])∧H w5 (am (.slice A y.tabs.length c) y.tabs*a9 w3 w3.heap.size)∧V w3 w5:=hF;have h6:H _ (aa w5.heap.size #[.slice A y.tabs.length c,B y.e.there,B y.e.leaf,f l y.e.rights,B y.e.used,B y.e.dirty,f l y.e.frame,f l y.lev] 146*(am (.slice A y.tabs.length c) y.tabs*(aB q s*(aa X0 #[f l 0,f l 0,f l 0,f l 0] 39*(aa (X2+1) #[B fe.there,B fe.leaf,f l fe.rights,B fe.used,B fe.dirty,f l fe.frame] 70*(aa X2 #[f l fm.page,f l fm.size,f l fm.frame,f l fm.rights] 39*R)))))):=(h4.onto' h5).new #[.slice A y.tabs.length c,B y.e.there,B y.e.leaf,f l y.e.rights,B y.e.used,B y.e.dirty,f l y.e.frame,f l y.lev] 146;have x6:=(x4.trans x5).alloc (.cells #[.slice A y.tabs.length c,B y.e.there,B y.e.leaf,f l y.e.rights,B y.e.used,B y.e.dirty,f l y.e.frame,f l y.lev] 146);clear h4 x4 h5 x5 HWT;go_upto_region 6 with fail;generalize w5.alloc _=w6 at*
 generalize w5.heap.size=X5 at*
 obtain⟨bA,hA1,-,-⟩:=cM h6.right (k:=n) (by have:=HN.out;omega);subst hA1;have hlen1:((y.tabs.length:Nat):Int) - 1=(n:Int):=by have:=HN.out;omega
 have k0:=h6.cell 0;have kl:=h6.lt;have HLN:=D hlen1;clear hlen1;go_cut [15] from 35 to 39 (fun s15 wx=>s15=f l n∧wx=w6)
 case first=>
  have hlen1:=HLN.out;go_wp2_with fail
  go_meet
  case rel=>exact⟨by first|rfl|(rw[←hlen1];done)|(rw[←hlen1];go_num),rfl⟩
 case rest=>
 obtain⟨rfl,hwr⟩:=hcut;replace hwr:=hwr.symm;subst hwr;obtain⟨QQ,hQQ⟩:∃Q:ae,Q=(aa (X2+1) #[B fe.there,B fe.leaf,f l fe.rights,B fe.used,B fe.dirty,f l fe.frame] 70*R):=⟨_,rfl⟩;have h7:H w6 (cj 3 1 (.slice o 0 0) 0 (([]:List Int).map (f l))*(aB q s*(aa X5 #[.slice (v (F bA 0 o)) y.tabs.length c,B y.e.there,B y.e.leaf,f l y.e.rights,B y.e.used,B y.e.dirty,f l y.e.frame,f l y.lev] 146*(am (.slice (v (F bA 0 o)) y.tabs.length c) y.tabs*(aa X0 #[f l 0,f l 0,f l 0,f l 0] 39*(aa X2 #[f l fm.page,f l fm.size,f l fm.frame,f l fm.rights] 39*QQ)))))):=by
  rw[hQQ];exact Has.rowNil (h6.eq (by ac_rfl))
 have HQQ:=D hQQ;clear h6 k0 kl hQQ;go_upto_region 7 with fail;go_loopw [14,15] (fun t14 t15 wr=>∃(k:Nat) (σ:Z) (g:List Int) (G:Option Addr) (gc:Nat),k<n+1∧t15=f l (k:Int)∧t14= .slice G g.length gc∧Hid (rs=(ej p y.tabs k σ).1∧rg=g++(ej p y.tabs k σ).2∧σ.n=s.n∧g.length+k≤n)∧H wr (cj 3 1 (.slice G g.length gc) g.length (g.map (f l))*(aB q σ*(aa X5 #[.slice (v (F bA 0 o)) y.tabs.length c,B y.e.there,B y.e.leaf,f l y.e.rights,B y.e.used,B y.e.dirty,f l y.e.frame,f l y.lev] 146*(am (.slice (v (F bA 0 o)) y.tabs.length c) y.tabs*(aa X0 #[f l 0,f l 0,f l 0,f l 0] 39*(aa X2 #[f l fm.page,f l fm.size,f l fm.frame,f l fm.rights] 39*QQ))))))∧V w wr) (fun _ t15 _=>(intOf t15).toNat)
 case atStart=>exact⟨n,s,[],o,0,by omega,rfl,rfl,D ⟨HRS.out,by rw[List.nil_append];exact HRG.out,rfl,by simp⟩,h7,x6⟩
 case round=>
  clear h7 x6 HRS HRG;obtain⟨k,σ,g,G,gc,hk,rfl,rfl,HCU,hr,hx⟩:=hrel;obtain⟨tn,htk,htd,htn0⟩:=HTK.out k hk;have htn:tn<σ.n:=by have:=HCU.out.2.2.1;omega
  have htnz:(tn:Int)< (σ.n:Int):=by omega
  have hixr:=ic (p:=p) (L:=((3 - k:Nat):Int)) hp (by omega) (by omega);obtain⟨j,hj⟩:=N hixr.1;have hj8n:j<8:=by have:=hixr.2;omega
  have hj8:(j:Int)<8:=by omega
  have HI2:=D (fun Y=>eo p ((3 - k:Nat):Int) Y);rw[hj] at HI2;have hσ1:σ.setW (y.tabs.getD k 0).toNat (au p (3 - k:Nat)).toNat 0=σ.setW tn j 0:=by rw[htd,hj];rfl
  have HZ:=D (fun(h:k=0∨fz (σ.setW tn j 0) (tn:Int)=C)=>sB (p:=p) (tabs:=y.tabs) (k:=k) (s:=σ) (by rw[hσ1,htd];exact h));rw[hσ1] at HZ;have HM:=D (fun(i:Nat) (hi:k=i+1) (h:fz (σ.setW tn j 0) (tn:Int)=U)=>sC (p:=p) (tabs:=y.tabs) (k:=k) (j:=i) (s:=σ) hi (by rw[hσ1,htd];exact h));rw[hσ1,htd] at HM;have HTKk:=D htk;have hk0:(0:Int)≤(k:Int):=by omega
  have hkn:¬((k:Int)<0):=by omega
  have hki:(k:Int)<y.tabs.length:=by have:=HN.out;omega
  have h3k:3 - (k:Int)=((3 - k:Nat):Int):=by omega
  have hw3:IntKind.i64.wrap ((3 - k:Nat):Int)=((3 - k:Nat):Int):=by rw[S];omega
  have hm:H _ (aB q σ*(cj 3 1 (.slice G g.length gc) g.length (g.map (f l))*(aa X5 #[.slice (v (F bA 0 o)) y.tabs.length c,B y.e.there,B y.e.leaf,f l y.e.rights,B y.e.used,B y.e.dirty,f l y.e.frame,f l y.lev] 146*(am (.slice (v (F bA 0 o)) y.tabs.length c) y.tabs*(aa X0 #[f l 0,f l 0,f l 0,f l 0] 39*(aa X2 #[f l fm.page,f l fm.size,f l fm.frame,f l fm.rights] 39*QQ)))))):=hr.eq (by ac_rfl);clear htk htd htn0 hixr hj hσ1 hr;obtain⟨gw,gi,vk,hq⟩:=cC hm;have HK:=D (fun(w':T) (sx:Z) (h:H w' (dn q gw gi vk sx (cj 3 1 (.slice G g.length gc) g.length (g.map (f l))*(aa X5 #[.slice (v (F bA 0 o)) y.tabs.length c,B y.e.there,B y.e.leaf,f l y.e.rights,B y.e.used,B y.e.dirty,f l y.e.frame,f l y.lev] 146*(am (.slice (v (F bA 0 o)) y.tabs.length c) y.tabs*(aa X0 #[f l 0,f l 0,f l 0,f l 0] 39*(aa X2 #[f l fm.page,f l fm.size,f l fm.frame,f l fm.rights] 39*QQ)))))))=>(by
   have hR:=h.right.right.r3;obtain⟨b1,e1,_,q1⟩:=cM hR.right (k:=k) (by have:=HN.out;omega);injection e1 with e1;injection e1 with e1
   subst e1;rw[(J.1 HTKk.out).2] at q1;exact⟨Has.cell h 0,hR.cell 0,q1⟩:w'.cell? (F q 0 o)=v (.slice (v (F gw 0 o)) sx.n sx.n)∧w'.cell? (F X5 0 o)=v (.slice (v (F bA 0 o)) y.tabs.length c)∧w'.cell? (F bA k o)=v (f l tn)))
  have hq0:=hq.drew;have xq0:=hx.drew;go_upto_region 9 with fail;go_cut [] from 43 to 58 (fun wx=>H wx (dn q gw gi vk (σ.setW tn j 0) (cj 3 1 (.slice G g.length gc) g.length (g.map (f l))*(aa X5 #[.slice (v (F bA 0 o)) y.tabs.length c,B y.e.there,B y.e.leaf,f l y.e.rights,B y.e.used,B y.e.dirty,f l y.e.frame,f l y.lev] 146*(am (.slice (v (F bA 0 o)) y.tabs.length c) y.tabs*(aa X0 #[f l 0,f l 0,f l 0,f l 0] 39*(aa X2 #[f l fm.page,f l fm.size,f l fm.frame,f l fm.rights] 39*QQ))))))∧V w wx)
  case first=>
   go_region_held3 (fun w'=>w'.cell? (F q 0 o)=v (.slice (v (F gw 0 o)) σ.n σ.n)∧w'.cell? (F X5 0 o)=v (.slice (v (F bA 0 o)) y.tabs.length c)∧w'.cell? (F bA k o)=v (f l tn)) (first|(with_reducible exact HK.out _ σ hq0)|(with_reducible exact HK.out _ σ hw5)|(exact HK.out _ (σ.setW tn j 0) (dt (k:=tn) (i:=j) hw5 hj8n 0))|go_keep) (first|(go_at_call 120;(with_reducible refine(HI2.out _).mono ?_);rintro e2 w5 ⟨rfl,b5⟩;have hw5:=hq0.below b5;have xw5:=xq0.below b5;have y0:=co hw5 htn hj8n;have y1:=hw5.right.free (tn*8+j);have y2:=hw5.right.lt))
   all_goals
    go_wp2_with fail
    go_meet
    case rel=>exact⟨dt (k:=tn) (i:=j) hw5 hj8n 0,xw5.set _ _⟩
  case rest=>
  clear hq hq0 xq0 hm hx HI2 h3k hw3;obtain⟨h9,x9⟩:=hcut;have HZ8:=D (q9 (s:=σ.setW tn j 0) (t:=tn));have htn1:tn< (σ.setW tn j 0).n :=htn;obtain⟨d0,d1,d2⟩:=HK.out _ _ h9;have e0:wc.cell? ⟨gw,tn*8,o⟩=v (f vU ((σ.setW tn j 0).wd tn 0)):=co h9 htn1 (i:=0) (by omega);have e1:=co h9 htn1 (i:=1) (by omega);have e2:=co h9 htn1 (i:=2) (by omega);have e3:=co h9 htn1 (i:=3) (by omega);have e4:=co h9 htn1 (i:=4) (by omega);have e5:=co h9 htn1 (i:=5) (by omega);have e6:=co h9 htn1 (i:=6) (by omega);have e7:=co h9 htn1 (i:=7) (by omega);have HNS:=D (show(σ.setW tn j 0).n =s.n from HCU.out.2.2.1);have htz1:(tn:Int)< ((σ.setW tn j 0).n :Int):=htnz;generalize σ.setW tn j 0=σ1 at*
  have HW:=D (fun(w':T) (h:H w' (dn q gw gi vk σ1 (cj 3 1 (.slice G g.length gc) g.length (g.map (f l))*(aa X5 #[.slice (v (F bA 0 o)) y.tabs.length c,B y.e.there,B y.e.leaf,f l y.e.rights,B y.e.used,B y.e.dirty,f l y.e.frame,f l y.lev] 146*(am (.slice (v (F bA 0 o)) y.tabs.length c) y.tabs*(aa X0 #[f l 0,f l 0,f l 0,f l 0] 39*(aa X2 #[f l fm.page,f l fm.size,f l fm.frame,f l fm.rights] 39*QQ)))))))=>de h);have ql:=h9.lt;have gl:=h9.right.lt;have xl:=h9.right.right.r3.lt;have bl:bA<wc.heap.size:=by
   obtain⟨b1,e1,l1,_⟩:=cM h9.right.right.right.r3 (k:=k) (by have:=HN.out;omega);injection e1 with e1;injection e1 with e1
   rw[e1];exact l1
  generalize σ1.wd tn 0=v0 at*
  generalize σ1.wd tn 1=v1 at*
  generalize σ1.wd tn 2=v2 at*
  generalize σ1.wd tn 3=v3 at*
  generalize σ1.wd tn 4=v4 at*
  generalize σ1.wd tn 5=v5 at*
  generalize σ1.wd tn 6=v6 at*
  generalize σ1.wd tn 7=v7 at*
  have f0:=ab d0;have f1:=ab d1;have f2:=ab d2;have a0:=ab e0;have a1:=ab e1;have a2:=ab e2;have a3:=ab e3;have a4:=ab e4;have a5:=ab e5;have a6:=ab e6;have a7:=ab e7;clear d0 d1 d2 e0 e1 e2 e3 e4 e5 e6 e7 HK;go_upto_region 10 with fail;go_cut [74] from 58 to 75 (fun s74 wx=>s74=B (decide (k=0)|| !fz σ1 (tn:Int))∧H wx (dn q gw gi vk σ1 (cj 3 1 (.slice G g.length gc) g.length (g.map (f l))*(aa X5 #[.slice (v (F bA 0 o)) y.tabs.length c,B y.e.there,B y.e.leaf,f l y.e.rights,B y.e.used,B y.e.dirty,f l y.e.frame,f l y.lev] 146*(am (.slice (v (F bA 0 o)) y.tabs.length c) y.tabs*(aa X0 #[f l 0,f l 0,f l 0,f l 0] 39*(aa X2 #[f l fm.page,f l fm.size,f l fm.frame,f l fm.rights] 39*QQ))))))∧V w wx)
  case first=>
   by_cases hz:k=0
   ·have hkz:((k:Int)==0)=U:=by simpa using hz
    have HKZ:=D hz;clear hz;refine aq (by kernel_rfl) (by kernel_rfl) ?_;repeat(first|go_big_quiet_step (fail)|quiet_step (fail))
    refine wpQuiet_nil ?_;intro _ hw';obtain⟨uq,hw''⟩:=hw';subst hw'';have h10:=h9.via uq;have x10:=x9.below (aA _ uq);generalize ga wc uq=w10 at*
    go_wp2_with fail
    go_meet
    case rel=>exact⟨by simp[HKZ.out],h10,x10⟩
   ·have hkz:((k:Int)==0)=C:=by simpa using hz
    have HKZ:=D hz;clear hz;refine aq (by kernel_rfl) (by kernel_rfl) ?_;repeat(first|go_big_quiet_step (fail)|quiet_step (fail))
    refine wpQuiet_nil ?_;intro _ hw';obtain⟨uq,hw''⟩:=hw';subst hw'';have h10:=h9.via uq;have x10:=x9.below (aA _ uq);generalize ga wc uq=w10 at*
    go_wp2_with fail
    go_meet
    case rel=>exact⟨by rw[←HZ8.out];simp[HKZ.out],h10,x10⟩
  case rest=>
  clear h9 x9 f0 f1 f2 a0 a1 a2 a3 a4 a5 a6 a7 ql gl xl bl HZ8;obtain⟨rfl,h10,x10⟩:=hcut;have h11:=HW.out _ h10;have hz':H _ (aa X0 #[f l 0,f l 0,f l 0,f l 0] 39*(aa X2 #[f l fm.page,f l fm.size,f l fm.frame,f l fm.rights] 39*(cj 3 1 (.slice G g.length gc) g.length (g.map (f l))*(aB q σ1*(aa X5 #[.slice (v (F bA 0 o)) y.tabs.length c,B y.e.there,B y.e.leaf,f l y.e.rights,B y.e.used,B y.e.dirty,f l y.e.frame,f l y.lev] 146*(am (.slice (v (F bA 0 o)) y.tabs.length c) y.tabs*QQ)))))):=h11.eq (by ac_rfl);clear h10 HW;by_cases hstop:k=0∨fz σ1 (tn:Int)=C
  ·have hcut:=HZ.out hstop
   have hF:=HCU.out;rw[hcut] at hF;have HF:=D (show rs=σ1∧rg=g from⟨hF.1,by rw[hF.2.1];simp⟩);have hb:(decide (k=0)|| !fz σ1 (tn:Int))=U:=by rcases hstop with h|h<;>simp[h]
   rw[hb];clear hcut hF hstop hb HCU HZ HM;obtain⟨m0,m1,m2,m3⟩:=hz'.right.cells4;have ml:=hz'.right.lt;obtain⟨r0,r1,r2,r3⟩:=hz'.cells4;obtain⟨q0,q1,q2,q3⟩:=hz'.frees4;have rl:=hz'.lt;go_wp2_with fail
   refine ao (fun wz=>H wz (aa X0 #[f l fm.page,f l fm.size,f l fm.frame,f l fm.rights] 39*(aa X2 #[f l fm.page,f l fm.size,f l fm.frame,f l fm.rights] 39*(cj 3 1 (.slice G g.length gc) g.length (g.map (f l))*(aB q σ1*(aa X5 #[.slice (v (F bA 0 o)) y.tabs.length c,B y.e.there,B y.e.leaf,f l y.e.rights,B y.e.used,B y.e.dirty,f l y.e.frame,f l y.lev] 146*(am (.slice (v (F bA 0 o)) y.tabs.length c) y.tabs*QQ))))))∧V w wz) ⟨hz'.set4 _ _ _ _,ai⟩ ?_;rintro wz ⟨hw,xw⟩;have hw2:H wz (aa X0 #[f l fm.page,f l fm.size,f l fm.frame,f l fm.rights] 39*(aa X2 #[f l fm.page,f l fm.size,f l fm.frame,f l fm.rights] 39*(aa X5 #[.slice (v (F bA 0 o)) y.tabs.length c,B y.e.there,B y.e.leaf,f l y.e.rights,B y.e.used,B y.e.dirty,f l y.e.frame,f l y.lev] 146*(am (.slice (v (F bA 0 o)) y.tabs.length c) y.tabs*(aa (X2+1) #[B fe.there,B fe.leaf,f l fe.rights,B fe.used,B fe.dirty,f l fe.frame] 70*(am (.slice G g.length gc) g*(aB q σ1*R))))))):=by
    have:=hw;rw[HQQ.out] at this;unfold am at this⊢;exact this.eq (by ac_rfl)
   exact I (bm results114 rfl rfl rfl (aY hw)) rfl ⟨G,g.length,gc,rfl,by rw[HF.out.1,HF.out.2];exact hw2.right.right.r3,xw⟩
  ·have hka2:fz σ1 (tn:Int)=U:=by
    cases h:fz σ1 (tn:Int) with
    |true=>rfl
    |false=>exact absurd (.inr h) hstop
   have hka:k≠0∧fz σ1 (tn:Int)=U:=⟨fun h=>hstop (.inl h),hka2⟩;have hb:(decide (k=0)|| !fz σ1 (tn:Int))=C:=by simp[hka.1,hka.2]
   rw[hb];obtain⟨i,hi⟩:∃i,k=i+1:=⟨k - 1,by omega⟩;have hmore:=HM.out i hi hka.2;have hF:=HCU.out;rw[hmore] at hF;have HCU':=D (show rs=(ej p y.tabs i σ1).1∧rg=(g++[(tn:Int)])++(ej p y.tabs i σ1).2∧σ1.n=s.n∧(g++[(tn:Int)]).length +i≤n from⟨hF.1,by rw[hF.2.1];simp,HNS.out,by simp;have:=hF.2.2.2;omega⟩);have hki1:(k:Int) - 1=(i:Int):=by omega
   have hwi:IntKind.i64.wrap (i:Int)=(i:Int):=by rw[S];omega
   have HI:=D hi;have hgl:g.length≤4:=by have:=hF.2.2.2;omega
   clear hmore hF hb HCU HZ HM hka hka2 hstop hi;obtain⟨b1,eb,lb,qb⟩:=cM h11.r3 (k:=k) (by have:=HN.out;omega);injection eb with eb;injection eb with eb
   subst eb;rw[(J.1 HTKk.out).2] at qb;have k0:=h11.right.right.cell 0;have kl:=h11.right.right.lt;have h12:H _ (cj 3 1 (.slice G g.length gc) g.length (g.map (f l))*(aB q σ1*(aa X5 #[.slice (v (F bA 0 o)) y.tabs.length c,B y.e.there,B y.e.leaf,f l y.e.rights,B y.e.used,B y.e.dirty,f l y.e.frame,f l y.lev] 146*(am (.slice (v (F bA 0 o)) y.tabs.length c) y.tabs*(aa X0 #[f l 0,f l 0,f l 0,f l 0] 39*(aa X2 #[f l fm.page,f l fm.size,f l fm.frame,f l fm.rights] 39*QQ)))))):=h11.eq (by ac_rfl);have hrow:=h12.alloc (.cells #[f l (tn:Int)] 3);go_wp2_with(first|(at_builtin;refine aN rfl _ _ 45 rfl underlying45 gF _ _ _ rfl hrow (F _ 0 o) 1 1 [f l (tn:Int)] rfl rfl (eM _ (f l (tn:Int)) 3) ?c1 ?c2 ?c3 ?_))
   case c1=>first|rfl|(intro u hu;simp at hu;subst hu;rfl)
   case c2=>unfold maxLen;omega
   case c3=>omega
   intro v' w14 h14 x14;obtain⟨G',gc',rfl⟩:=h14.rowForm;go_wp2_with fail
   go_roundw
   case rel=>exact⟨i,σ1,g++[(tn:Int)],G',gc',by have:=HI.out;omega,by first|rfl|go_num,by simp,HCU',by simp only[List.length_append,List.length_singleton,List.map_append,List.map_cons,List.map_nil];exact h14,(x10.alloc _).trans x14⟩
   case measure=>have:=HI.out;simp[intOf];omega
theorem oO(ym:Nat)(s:Z)(cs:List Cr)(td:Mp)(wt:Nat→Bool)(gn:List Int)(x:Stp)(hs:s.Ok)(o1:x.kind≠1):
  ∃(cd:Int) (mp:Mp) (g:List Int) (sA:Z),(Sc.change ⟨s,cs,td,wt,C,gn⟩ x=if cd=0 then(Sc.post ⟨s,cs,td,wt,C,gn⟩ sA mp g,.no 0) else(⟨s,cs,td,wt,C,gn⟩,.no cd))∧(cd≠0→sA=s)∧
   (x.kind=2→∀R w,H w (aB ym s*R)→W prog 114 #[.pointer (v (F ym 0 o)),f l 0,f l x.m.page] w
    (fun e w'=>∃A n c,cN (.tuple #[.agg #[f l mp.page,f l mp.size,f l mp.frame,f l mp.rights],.slice A n c,f l cd]) (am (.slice A n c) g*(aB ym sA*R)) w e w'))∧
   (x.kind≠2→g=[]∧∀R w,H w (aB ym s*R)→W prog 115 #[.pointer (v (F ym 0 o)),f l 0,f l x.m.page,f l x.m.rights] w
    (cN (.tuple #[.agg #[f l mp.page,f l mp.size,f l mp.frame,f l mp.rights],f l cd]) (aB ym sA*R) w)):=by
 by_cases o2:x.kind=2
 ·refine⟨bH s 0 x.m.page,bR s 0 x.m.page,fA s 0 x.m.page,dr s 0 x.m.page,?_,fun h=> ?_,fun _ R w h=>zT ym s 0 x.m.page R w hs h,fun h=>absurd o2 h⟩
  ·unfold Sc.change
   rw[if_neg (by simp),if_neg o1,if_pos o2]
  ·unfold dr
   rw[if_neg h]
 ·refine⟨iS s 0 x.m.page x.m.rights,li s 0 x.m.page x.m.rights,[],gV s 0 x.m.page x.m.rights,?_,fun h=> ?_,fun h=>absurd h o2,fun _=>⟨rfl,fun R w h=>Ai ym s 0 x.m.page x.m.rights R w hs h⟩⟩
  ·unfold Sc.change
   rw[if_neg (by simp),if_neg o1,if_neg o2]
  ·unfold gV
   rw[if_neg h]
set_option maxHeartbeats 8000000 in
theorem vG(b:Nat)(σ:Sc)(x:Stp)(hok:σ.Ok)(R:ae)(w:T)(h:H w (bV b σ*R)):
  W prog 65 #[.pointer (v (F b 0 o)),.agg #[f l x.kind,f l x.core,f l x.m.page,f l x.m.size,f l x.m.frame,f l x.m.rights,f l x.a.page,f l x.a.kind,B x.a.user]] w (cN (σ.change x).2.val (bV b (σ.change x).1*R) w):=by
 obtain⟨s,cs,td,wt,bz,gn⟩:=σ;obtain⟨y,hy,h⟩:=gg h;have hso:s.Ok:=hok.s;have HPO:=D (fun(s':Z) (m:Mp) (g:List Int) (G:Option Addr) (gn' gd:Nat) R w h=>yt b ⟨s',cs,td,wt,bz,gn⟩ m g G gn' gd hok.few R w h);have HS:=D (fun(s':Z) (w':T) (R':ae) (h:H w' (fB b ⟨s',cs,td,wt,bz,gn⟩ y R'))=>gh (σ:=⟨s',cs,td,wt,bz,gn⟩) hy h);unfold fB at h HS;dsimp only at*
 have h1:H _ (aB y.m s*(aa b #[.pointer (v (F y.m 0 o)),f l 0,.slice y.A y.ps.length y.c,B bz,.slice y.G gn.length y.d,f l td.page,f l td.size,f l td.frame,f l td.rights,.slice (v (F y.gw 0 o)) y.ps.length y.ps.length] 52*(aa w.heap.size #[f l x.kind,f l x.core,f l x.m.page,f l x.m.size,f l x.m.frame,f l x.m.rights,f l x.a.page,f l x.a.kind,B x.a.user] 43*((bM (.slice y.A y.ps.length y.c) y.ps*(am (.slice y.G gn.length y.d) gn*(aa y.gw (bn y.ps.length (bQ wt)) 4*aO y.ps cs)))*(aa (w.heap.size+1) #[f l 0,B C,f l 0,f l 0,f l 0,B C] 36*R))))):=((h.new #[f l x.kind,f l x.core,f l x.m.page,f l x.m.size,f l x.m.frame,f l x.m.rights,f l x.a.page,f l x.a.kind,B x.a.user] 43).new #[f l 0,B C,f l 0,f l 0,f l 0,B C] 36).eq (by simp only[K];ac_rfl);have x1:=((Ext.refl w).alloc (.cells #[f l x.kind,f l x.core,f l x.m.page,f l x.m.size,f l x.m.frame,f l x.m.rights,f l x.a.page,f l x.a.kind,B x.a.user] 43)).alloc (.cells #[f l 0,B C,f l 0,f l 0,f l 0,B C] 36);have HS2:=D (fun(s':Z) (w':T) (R':ae) (h:H w' (aB y.m s'*(aa b #[.pointer (v (F y.m 0 o)),f l 0,.slice y.A y.ps.length y.c,B bz,.slice y.G gn.length y.d,f l td.page,f l td.size,f l td.frame,f l td.rights,.slice (v (F y.gw 0 o)) y.ps.length y.ps.length] 52*((bM (.slice y.A y.ps.length y.c) y.ps*(am (.slice y.G gn.length y.d) gn*(aa y.gw (bn y.ps.length (bQ wt)) 4*aO y.ps cs)))*R'))))=>HS.out s' w' R' (h.eq (by ac_rfl)));clear h hok hy HS;obtain⟨c0,c1,c2,c3,c4,c5,c6,c7,c8,c9⟩:=h1.right.cells10;have cl:=h1.right.lt;obtain⟨k0,k1,k2,k3,k4,k5,k6,k7,k8⟩:=h1.right.right.cells9;have kl:=h1.right.right.lt;cases bz with
 |true=>
  have e:Sc.change ⟨s,cs,td,wt,U,gn⟩ x=(⟨s,cs,td,wt,U,gn⟩,.no 8):=by unfold Sc.change;rw[if_pos rfl]
  rw[e];have HS1:=D (HS2.out s);clear e HPO HS2 k0 k1 k2 k3 k4 k5 k6 k7 k8 kl;have h2:H _ (aa (w.heap.size+1) #[f l 0,B C,f l 0,f l 0,f l 0,B C] 36*(aB y.m s*(aa b #[.pointer (v (F y.m 0 o)),f l 0,.slice y.A y.ps.length y.c,B U,.slice y.G gn.length y.d,f l td.page,f l td.size,f l td.frame,f l td.rights,.slice (v (F y.gw 0 o)) y.ps.length y.ps.length] 52*(aa w.heap.size #[f l x.kind,f l x.core,f l x.m.page,f l x.m.size,f l x.m.frame,f l x.m.rights,f l x.a.page,f l x.a.kind,B x.a.user] 43*((bM (.slice y.A y.ps.length y.c) y.ps*(am (.slice y.G gn.length y.d) gn*(aa y.gw (bn y.ps.length (bQ wt)) 4*aO y.ps cs)))*R))))):=h1.eq (by ac_rfl);clear h1;go_enter func65,ntmps65;go_upto_region 2 with fail;generalize (w.alloc (.cells #[f l x.kind,f l x.core,f l x.m.page,f l x.m.size,f l x.m.frame,f l x.m.rights,f l x.a.page,f l x.a.kind,B x.a.user] 43)).alloc (.cells #[f l 0,B C,f l 0,f l 0,f l 0,B C] 36)=w1 at*
  generalize w.heap.size=X at*
  generalize X+1=E at*
  clear c0 c1 c2 c3 c4 c5 c6 c7 c8 c9 cl;obtain⟨e0,e1,e2,e3,e4,e5⟩:=h2.cells6;obtain⟨f0,f1,f2,f3,f4,f5⟩:=h2.frees6;have el:=h2.lt;go_wp2_with fail
  refine ao (fun wz=>H wz (aa E #[f l 8,B C,f l 0,f l 0,f l 0,B C] 36*(aB y.m s*(aa b #[.pointer (v (F y.m 0 o)),f l 0,.slice y.A y.ps.length y.c,B U,.slice y.G gn.length y.d,f l td.page,f l td.size,f l td.frame,f l td.rights,.slice (v (F y.gw 0 o)) y.ps.length y.ps.length] 52*(aa X #[f l x.kind,f l x.core,f l x.m.page,f l x.m.size,f l x.m.frame,f l x.m.rights,f l x.a.page,f l x.a.kind,B x.a.user] 43*((bM (.slice y.A y.ps.length y.c) y.ps*(am (.slice y.G gn.length y.d) gn*(aa y.gw (bn y.ps.length (bQ wt)) 4*aO y.ps cs)))*R)))))∧V w wz) ⟨h2.set6 _ _ _ _ _ _,ai⟩ ?_;rintro wz ⟨hz,xz⟩;exact I (aD results65 rfl (aQ hz)) rfl ⟨rfl,(HS1.out _ (aa X #[f l x.kind,f l x.core,f l x.m.page,f l x.m.size,f l x.m.frame,f l x.m.rights,f l x.a.page,f l x.a.kind,B x.a.user] 43*R) (hz.right.eq (by ac_rfl))).p2.right,xz⟩
 |false=>
  have HK:=D (fun(w':T) (X:Nat) (P Q:ae) (h:H w' (P*(aa b #[.pointer (v (F y.m 0 o)),f l 0,.slice y.A y.ps.length y.c,B C,.slice y.G gn.length y.d,f l td.page,f l td.size,f l td.frame,f l td.rights,.slice (v (F y.gw 0 o)) y.ps.length y.ps.length] 52*(aa X #[f l x.kind,f l x.core,f l x.m.page,f l x.m.size,f l x.m.frame,f l x.m.rights,f l x.a.page,f l x.a.kind,B x.a.user] 43*Q))))=>(⟨h.right.cell 0,h.right.cell 1,h.right.right.cell 2,h.right.right.cell 3,h.right.right.cell 4,h.right.right.cell 5⟩:w'.cell? (F b 0 o)=v (.pointer (v (F y.m 0 o)))∧w'.cell? (F b 1 o)=v (f l 0)∧w'.cell? (F X 2 o)=v (f l x.m.page)∧w'.cell? (F X 3 o)=v (f l x.m.size)∧w'.cell? (F X 4 o)=v (f l x.m.frame)∧w'.cell? (F X 5 o)=v (f l x.m.rights)));by_cases o1:x.kind=1
  ·have e:Sc.change ⟨s,cs,td,wt,C,gn⟩ x=(⟨dQ s 0 x.m,cs,td,wt,C,gn⟩,⟨dd s 0 x.m,C,An.zero,decide (dd s 0 x.m=0)⟩):=by unfold Sc.change;rw[if_neg (by simp),if_pos o1]
   rw[e];have HS1:=D (HS2.out (dQ s 0 x.m));have HI:=D (fun R w h=>zA y.m s 0 x.m R w hso h);have o1':(x.kind==1)=U:=by simpa using o1
   clear e HPO HS2 hso o1;generalize dd s 0 x.m=cd at*
   generalize dQ s 0 x.m=sA at*
   have HEV:=D (show Ev.val ⟨cd,C,An.zero,decide (cd=0)⟩=Value.agg #[f l cd,B C,f l 0,f l 0,f l 0,B (cd==0)] from by rw[show decide (cd=0)=(cd==0) from by by_cases h:cd=0<;>simp[h]];rfl);rw[HEV.out];clear HEV;obtain⟨cz,hcz⟩:∃cz,(cd==0)=cz:=⟨_,rfl⟩;rw[hcz];go_enter func65,ntmps65;go_upto_region 4 with fail;generalize (w.alloc (.cells #[f l x.kind,f l x.core,f l x.m.page,f l x.m.size,f l x.m.frame,f l x.m.rights,f l x.a.page,f l x.a.kind,B x.a.user] 43)).alloc (.cells #[f l 0,B C,f l 0,f l 0,f l 0,B C] 36)=w1 at*
   generalize w.heap.size=X at*
   generalize X+1=E at*
   clear c0 c1 c2 c3 c4 c5 c6 c7 c8 c9 k0 k1 k2 k3 k4 k5 k6 k7 k8;have hd:=h1.drew;have xd:=x1.drew;go_cut [5] from 17 to 27 (fun s5 wx=>s5=f l cd∧H wx (aB y.m sA*(aa b #[.pointer (v (F y.m 0 o)),f l 0,.slice y.A y.ps.length y.c,B C,.slice y.G gn.length y.d,f l td.page,f l td.size,f l td.frame,f l td.rights,.slice (v (F y.gw 0 o)) y.ps.length y.ps.length] 52*(aa X #[f l x.kind,f l x.core,f l x.m.page,f l x.m.size,f l x.m.frame,f l x.m.rights,f l x.a.page,f l x.a.kind,B x.a.user] 43*((bM (.slice y.A y.ps.length y.c) y.ps*(am (.slice y.G gn.length y.d) gn*(aa y.gw (bn y.ps.length (bQ wt)) 4*aO y.ps cs)))*(aa E #[f l 0,B C,f l 0,f l 0,f l 0,B C] 36*R)))))∧V w wx)
   case first=>
    clear HS1;go_region_held3 (fun w'=>w'.cell? (F b 0 o)=v (.pointer (v (F y.m 0 o)))∧w'.cell? (F b 1 o)=v (f l 0)∧w'.cell? (F X 2 o)=v (f l x.m.page)∧w'.cell? (F X 3 o)=v (f l x.m.size)∧w'.cell? (F X 4 o)=v (f l x.m.frame)∧w'.cell? (F X 5 o)=v (f l x.m.rights)) (first|(with_reducible exact HK.out _ _ _ _ hd)|(with_reducible exact HK.out _ _ _ _ h5)|go_keep) (first|(go_at_call 113;(with_reducible refine(HI.out _ _ hd).mono ?_);rintro e w5 ⟨rfl,h5,x5⟩))
    all_goals
     go_wp2_with fail
     go_meet
     case rel=>exact⟨rfl,h5,xd.trans x5⟩
   case rest=>
    clear hd xd HI HK cl kl h1 x1;obtain⟨rfl,h2,x2⟩:=hcut;have h3:H _ (aa E #[f l 0,B C,f l 0,f l 0,f l 0,B C] 36*(aB y.m sA*(aa b #[.pointer (v (F y.m 0 o)),f l 0,.slice y.A y.ps.length y.c,B C,.slice y.G gn.length y.d,f l td.page,f l td.size,f l td.frame,f l td.rights,.slice (v (F y.gw 0 o)) y.ps.length y.ps.length] 52*(aa X #[f l x.kind,f l x.core,f l x.m.page,f l x.m.size,f l x.m.frame,f l x.m.rights,f l x.a.page,f l x.a.kind,B x.a.user] 43*((bM (.slice y.A y.ps.length y.c) y.ps*(am (.slice y.G gn.length y.d) gn*(aa y.gw (bn y.ps.length (bQ wt)) 4*aO y.ps cs)))*R))))):=h2.eq (by ac_rfl);obtain⟨e0,e1,e2,e3,e4,e5⟩:=h3.cells6;obtain⟨f0,f1,f2,f3,f4,f5⟩:=h3.frees6;have el:=h3.lt;clear h2;go_wp2_with fail
    refine ao (fun wz=>H wz (aa E #[f l cd,B C,f l 0,f l 0,f l 0,B cz] 36*(aB y.m sA*(aa b #[.pointer (v (F y.m 0 o)),f l 0,.slice y.A y.ps.length y.c,B C,.slice y.G gn.length y.d,f l td.page,f l td.size,f l td.frame,f l td.rights,.slice (v (F y.gw 0 o)) y.ps.length y.ps.length] 52*(aa X #[f l x.kind,f l x.core,f l x.m.page,f l x.m.size,f l x.m.frame,f l x.m.rights,f l x.a.page,f l x.a.kind,B x.a.user] 43*((bM (.slice y.A y.ps.length y.c) y.ps*(am (.slice y.G gn.length y.d) gn*(aa y.gw (bn y.ps.length (bQ wt)) 4*aO y.ps cs)))*R)))))∧V w wz) ⟨h3.set6 _ _ _ _ _ _,ai⟩ ?_;rintro wz ⟨hz,xz⟩;exact I (aD results65 rfl (aQ hz)) rfl ⟨rfl,(HS1.out _ (aa X #[f l x.kind,f l x.core,f l x.m.page,f l x.m.size,f l x.m.frame,f l x.m.rights,f l x.a.page,f l x.a.kind,B x.a.user] 43*R) (hz.right.eq (by ac_rfl))).p2.right,xz⟩
  ·obtain⟨cd,mp,g,sA,e,hsame,HR2,HR3⟩:=oO y.m s cs td wt gn x hso o1
   have HR2:=D HR2;have HR3:=D HR3;have HSM:=D hsame;have hk1:(x.kind==1)=C:=by simpa using o1
   obtain⟨k2b,hk2b⟩:∃z,(x.kind==2)=z:=⟨_,rfl⟩;rw[e];clear e hso o1 hsame;have h2:H _ (aa (w.heap.size+2) #[f l 0,f l 0,f l 0,f l 0] 39*(aB y.m s*(aa b #[.pointer (v (F y.m 0 o)),f l 0,.slice y.A y.ps.length y.c,B C,.slice y.G gn.length y.d,f l td.page,f l td.size,f l td.frame,f l td.rights,.slice (v (F y.gw 0 o)) y.ps.length y.ps.length] 52*(aa w.heap.size #[f l x.kind,f l x.core,f l x.m.page,f l x.m.size,f l x.m.frame,f l x.m.rights,f l x.a.page,f l x.a.kind,B x.a.user] 43*((bM (.slice y.A y.ps.length y.c) y.ps*(am (.slice y.G gn.length y.d) gn*(aa y.gw (bn y.ps.length (bQ wt)) 4*aO y.ps cs)))*(aa (w.heap.size+1) #[f l 0,B C,f l 0,f l 0,f l 0,B C] 36*R)))))):=(h1.new #[f l 0,f l 0,f l 0,f l 0] 39).eq (by simp only[K]);have x2:=x1.alloc (.cells #[f l 0,f l 0,f l 0,f l 0] 39);have HCD:Hid ((if cd=0 then(Sc.post ⟨s,cs,td,wt,C,gn⟩ sA mp g,Ev.no 0) else((⟨s,cs,td,wt,C,gn⟩:Sc),Ev.no cd))=(if cd=0 then Sc.post ⟨s,cs,td,wt,C,gn⟩ sA mp g else(⟨s,cs,td,wt,C,gn⟩:Sc),Ev.no cd)):=D (by split<;>simp_all);rw[HCD.out];clear HCD;obtain⟨σ2,hσ2⟩:∃σ2,(if cd=0 then Sc.post ⟨s,cs,td,wt,C,gn⟩ sA mp g else(⟨s,cs,td,wt,C,gn⟩:Sc))=σ2:=⟨_,rfl⟩;have HSG:=D hσ2;rw[hσ2];unfold Ev.val Ev.no An.zero;dsimp only;clear hσ2;go_enter func65,ntmps65;go_upto_region 7 with fail;generalize ((w.alloc (.cells #[f l x.kind,f l x.core,f l x.m.page,f l x.m.size,f l x.m.frame,f l x.m.rights,f l x.a.page,f l x.a.kind,B x.a.user] 43)).alloc (.cells #[f l 0,B C,f l 0,f l 0,f l 0,B C] 36)).alloc (.cells #[f l 0,f l 0,f l 0,f l 0] 39)=w1 at*
   generalize w.heap.size+2=M at*
   generalize w.heap.size=X at*
   generalize X+1=E at*
   clear c0 c1 c2 c3 c4 c5 c6 c7 c8 c9 k1 k2 k3 k4 k5 k6 k7 k8 h1 x1;clear k0 kl cl;have k0:=h2.r3.cell 0;have kl:=h2.r3.lt;have h3:H _ (aB y.m s*(aa b #[.pointer (v (F y.m 0 o)),f l 0,.slice y.A y.ps.length y.c,B C,.slice y.G gn.length y.d,f l td.page,f l td.size,f l td.frame,f l td.rights,.slice (v (F y.gw 0 o)) y.ps.length y.ps.length] 52*(aa X #[f l x.kind,f l x.core,f l x.m.page,f l x.m.size,f l x.m.frame,f l x.m.rights,f l x.a.page,f l x.a.kind,B x.a.user] 43*((bM (.slice y.A y.ps.length y.c) y.ps*(am (.slice y.G gn.length y.d) gn*(aa y.gw (bn y.ps.length (bQ wt)) 4*aO y.ps cs)))*(aa E #[f l 0,B C,f l 0,f l 0,f l 0,B C] 36*(aa M #[f l 0,f l 0,f l 0,f l 0] 39*R)))))):=h2.eq (by ac_rfl);clear h2;go_upto_if 34 with fail;go_cut [7,8] from 35 to 68 (fun s7 s8 wx=>∃A n c,s7= .slice A n c∧s8=f l cd∧H wx (aa M #[f l mp.page,f l mp.size,f l mp.frame,f l mp.rights] 39*(am (.slice A n c) g*(aB y.m sA*(aa b #[.pointer (v (F y.m 0 o)),f l 0,.slice y.A y.ps.length y.c,B C,.slice y.G gn.length y.d,f l td.page,f l td.size,f l td.frame,f l td.rights,.slice (v (F y.gw 0 o)) y.ps.length y.ps.length] 52*(aa X #[f l x.kind,f l x.core,f l x.m.page,f l x.m.size,f l x.m.frame,f l x.m.rights,f l x.a.page,f l x.a.kind,B x.a.user] 43*((bM (.slice y.A y.ps.length y.c) y.ps*(am (.slice y.G gn.length y.d) gn*(aa y.gw (bn y.ps.length (bQ wt)) 4*aO y.ps cs)))*(aa E #[f l 0,B C,f l 0,f l 0,f l 0,B C] 36*R)))))))∧V w wx)
   case first=>
    clear HPO HS2 HSM HSG;have hd:=h3.drew;have xd:=x2.drew;obtain⟨q0,q1,q2,q3⟩:=(h3.eq (show _=aa M #[f l 0,f l 0,f l 0,f l 0] 39*(aB y.m s*(aa b #[.pointer (v (F y.m 0 o)),f l 0,.slice y.A y.ps.length y.c,B C,.slice y.G gn.length y.d,f l td.page,f l td.size,f l td.frame,f l td.rights,.slice (v (F y.gw 0 o)) y.ps.length y.ps.length] 52*(aa X #[f l x.kind,f l x.core,f l x.m.page,f l x.m.size,f l x.m.frame,f l x.m.rights,f l x.a.page,f l x.a.kind,B x.a.user] 43*((bM (.slice y.A y.ps.length y.c) y.ps*(am (.slice y.G gn.length y.d) gn*(aa y.gw (bn y.ps.length (bQ wt)) 4*aO y.ps cs)))*(aa E #[f l 0,B C,f l 0,f l 0,f l 0,B C] 36*R))))) by ac_rfl)).cells4;cases k2b with
    |true=>
     have o2:x.kind=2:=by simpa using hk2b
     have HR:=D (HR2.out o2);clear HR2 HR3 hk2b o2 k0;go_wp2_with fail
     go_region_held3 (fun w'=>w'.cell? (F b 0 o)=v (.pointer (v (F y.m 0 o)))∧w'.cell? (F b 1 o)=v (f l 0)∧w'.cell? (F X 2 o)=v (f l x.m.page)∧w'.cell? (F X 3 o)=v (f l x.m.size)∧w'.cell? (F X 4 o)=v (f l x.m.frame)∧w'.cell? (F X 5 o)=v (f l x.m.rights)) (first|(with_reducible exact HK.out _ _ _ _ hd)|(with_reducible exact HK.out _ _ _ _ h6)|(with_reducible exact HK.out _ _ _ _ h8)|go_keep) (first|(go_at_call 114;(with_reducible refine(HR.out _ _ hd).mono ?_);rintro e w5 ⟨A,n,c,rfl,h5,x5⟩;have h6:H w5 ((am (.slice A n c) g*aB y.m sA)*(aa b #[.pointer (v (F y.m 0 o)),f l 0,.slice y.A y.ps.length y.c,B C,.slice y.G gn.length y.d,f l td.page,f l td.size,f l td.frame,f l td.rights,.slice (v (F y.gw 0 o)) y.ps.length y.ps.length] 52*(aa X #[f l x.kind,f l x.core,f l x.m.page,f l x.m.size,f l x.m.frame,f l x.m.rights,f l x.a.page,f l x.a.kind,B x.a.user] 43*((bM (.slice y.A y.ps.length y.c) y.ps*(am (.slice y.G gn.length y.d) gn*(aa y.gw (bn y.ps.length (bQ wt)) 4*aO y.ps cs)))*(aa E #[f l 0,B C,f l 0,f l 0,f l 0,B C] 36*(aa M #[f l 0,f l 0,f l 0,f l 0] 39*R)))))):=h5.eq (by ac_rfl);have h7:H w5 (aa M #[f l 0,f l 0,f l 0,f l 0] 39*((am (.slice A n c) g*aB y.m sA)*(aa b #[.pointer (v (F y.m 0 o)),f l 0,.slice y.A y.ps.length y.c,B C,.slice y.G gn.length y.d,f l td.page,f l td.size,f l td.frame,f l td.rights,.slice (v (F y.gw 0 o)) y.ps.length y.ps.length] 52*(aa X #[f l x.kind,f l x.core,f l x.m.page,f l x.m.size,f l x.m.frame,f l x.m.rights,f l x.a.page,f l x.a.kind,B x.a.user] 43*((bM (.slice y.A y.ps.length y.c) y.ps*(am (.slice y.G gn.length y.d) gn*(aa y.gw (bn y.ps.length (bQ wt)) 4*aO y.ps cs)))*(aa E #[f l 0,B C,f l 0,f l 0,f l 0,B C] 36*R)))))):=h5.eq (by ac_rfl);obtain⟨y0,y1,y2,y3⟩:=h7.frees4;obtain⟨z0,z1,z2,z3⟩:=h7.cells4;have zl:=h7.lt;have h8:=(h7.set4 (f l mp.page) (f l mp.size) (f l mp.frame) (f l mp.rights)).right))
     all_goals
      go_wp2_with fail
      go_meet
      case rel=>exact⟨A,n,c,rfl,rfl,(h7.set4 (f l mp.page) (f l mp.size) (f l mp.frame) (f l mp.rights)).eq (by ac_rfl),((((xd.trans x5).set _ _).set _ _).set _ _).set _ _⟩
    |false=>
     have o2:x.kind≠2:=by simpa using hk2b
     obtain⟨hg,hr⟩:=HR3.out o2;have HR:=D hr;subst hg;clear HR2 HR3 hk2b o2 hr k0;go_wp2_with fail
     go_region_held3 (fun w'=>w'.cell? (F b 0 o)=v (.pointer (v (F y.m 0 o)))∧w'.cell? (F b 1 o)=v (f l 0)∧w'.cell? (F X 2 o)=v (f l x.m.page)∧w'.cell? (F X 3 o)=v (f l x.m.size)∧w'.cell? (F X 4 o)=v (f l x.m.frame)∧w'.cell? (F X 5 o)=v (f l x.m.rights)) (first|(with_reducible exact HK.out _ _ _ _ hd)|(with_reducible exact HK.out _ _ _ _ h5)|(with_reducible exact HK.out _ _ _ _ h8)|go_keep) (first|(go_at_call 115;(with_reducible refine(HR.out _ _ hd).mono ?_);rintro e w5 ⟨rfl,h5,x5⟩;have h7:H w5 (aa M #[f l 0,f l 0,f l 0,f l 0] 39*(aB y.m sA*(aa b #[.pointer (v (F y.m 0 o)),f l 0,.slice y.A y.ps.length y.c,B C,.slice y.G gn.length y.d,f l td.page,f l td.size,f l td.frame,f l td.rights,.slice (v (F y.gw 0 o)) y.ps.length y.ps.length] 52*(aa X #[f l x.kind,f l x.core,f l x.m.page,f l x.m.size,f l x.m.frame,f l x.m.rights,f l x.a.page,f l x.a.kind,B x.a.user] 43*((bM (.slice y.A y.ps.length y.c) y.ps*(am (.slice y.G gn.length y.d) gn*(aa y.gw (bn y.ps.length (bQ wt)) 4*aO y.ps cs)))*(aa E #[f l 0,B C,f l 0,f l 0,f l 0,B C] 36*R)))))):=h5.eq (by ac_rfl);obtain⟨y0,y1,y2,y3⟩:=h7.frees4;obtain⟨z0,z1,z2,z3⟩:=h7.cells4;have zl:=h7.lt;have h8:=(h7.set4 (f l mp.page) (f l mp.size) (f l mp.frame) (f l mp.rights)).right))
     all_goals
      go_wp2_with fail
      go_meet
      case rel=>exact⟨o,0,0,rfl,rfl,((Has.rowNil (e:=3) (size:=1) (h7.set4 (f l mp.page) (f l mp.size) (f l mp.frame) (f l mp.rights))).eq (by show cj 3 1 (.slice o 0 0) 0 []*_=_;unfold am;simp only[List.map_nil,List.length_nil];ac_rfl)),((((xd.trans x5).set _ _).set _ _).set _ _).set _ _⟩
   case rest=>
    obtain⟨A,n,c,rfl,rfl,h4,x4⟩:=hcut;clear h3 x2 HR2 HR3 hk2b HK k0 kl;obtain rfl:=dY h4.right;by_cases hcd:cd=0
    ·have e:=HSG.out
     rw[if_pos hcd] at e;have h5:H _ (bV b ⟨sA,cs,td,wt,C,gn⟩*(am (.slice A g.length c) g*(aa M #[f l mp.page,f l mp.size,f l mp.frame,f l mp.rights] 39*(aa X #[f l x.kind,f l x.core,f l x.m.page,f l x.m.size,f l x.m.frame,f l x.m.rights,f l x.a.page,f l x.a.kind,B x.a.user] 43*(aa E #[f l 0,B C,f l 0,f l 0,f l 0,B C] 36*R))))):=HS2.out sA _ _ (h4.eq (by ac_rfl));have HP:=D (fun R w h=>HPO.out sA mp g A g.length c R w h);rw[show Sc.post ⟨sA,cs,td,wt,C,gn⟩ (Sc.s ⟨sA,cs,td,wt,C,gn⟩) mp g=σ2 from e] at HP;subst hcd;obtain⟨m0,m1,m2,m3⟩:=h4.cells4;have ml:=h4.lt;clear h4 HPO HS2 HSM HSG e;go_wp2_with fail
     refine(HP.out _ _ h5).mono ?_;rintro e w6 ⟨rfl,h6,x6⟩;have h7:H w6 (aa E #[f l 0,B C,f l 0,f l 0,f l 0,B C] 36*(bV b σ2*(aa M #[f l mp.page,f l mp.size,f l mp.frame,f l mp.rights] 39*(aa X #[f l x.kind,f l x.core,f l x.m.page,f l x.m.size,f l x.m.frame,f l x.m.rights,f l x.a.page,f l x.a.kind,B x.a.user] 43*R)))):=h6.eq (by ac_rfl);have x7:=x4.trans x6;obtain⟨e0,e1,e2,e3,e4,e5⟩:=h7.cells6;obtain⟨f0,f1,f2,f3,f4,f5⟩:=h7.frees6;have el:=h7.lt;clear h5 h6 x4 x6 HP m0 m1 m2 m3 ml;go_wp2_with fail
     refine ao (fun wz=>H wz (aa E #[f l 0,B C,f l 0,f l 0,f l 0,B C] 36*(bV b σ2*(aa M #[f l mp.page,f l mp.size,f l mp.frame,f l mp.rights] 39*(aa X #[f l x.kind,f l x.core,f l x.m.page,f l x.m.size,f l x.m.frame,f l x.m.rights,f l x.a.page,f l x.a.kind,B x.a.user] 43*R))))∧V w wz) ⟨by first|(with_reducible exact h7)|(with_reducible exact h7.set6 _ _ _ _ _ _),ai⟩ ?_;rintro wz ⟨hz,xz⟩;exact I (aD results65 rfl (aQ hz)) rfl ⟨rfl,(hz.right.eq (show _=aa M #[f l mp.page,f l mp.size,f l mp.frame,f l mp.rights] 39*(aa X #[f l x.kind,f l x.core,f l x.m.page,f l x.m.size,f l x.m.frame,f l x.m.rights,f l x.a.page,f l x.a.kind,B x.a.user] 43*(bV b σ2*R)) by ac_rfl)).right.right,xz⟩
    ·have e:=HSG.out
     rw[if_neg hcd] at e;obtain rfl:=HSM.out hcd;have hcd':(cd==0)=C:=by simpa using hcd
     have h5:H _ (aa E #[f l 0,B C,f l 0,f l 0,f l 0,B C] 36*(bV b ⟨sA,cs,td,wt,C,gn⟩*(am (.slice A g.length c) g*(aa M #[f l mp.page,f l mp.size,f l mp.frame,f l mp.rights] 39*(aa X #[f l x.kind,f l x.core,f l x.m.page,f l x.m.size,f l x.m.frame,f l x.m.rights,f l x.a.page,f l x.a.kind,B x.a.user] 43*R))))):=(HS2.out sA _ (am (.slice A g.length c) g*(aa M #[f l mp.page,f l mp.size,f l mp.frame,f l mp.rights] 39*(aa X #[f l x.kind,f l x.core,f l x.m.page,f l x.m.size,f l x.m.frame,f l x.m.rights,f l x.a.page,f l x.a.kind,B x.a.user] 43*(aa E #[f l 0,B C,f l 0,f l 0,f l 0,B C] 36*R)))) (h4.eq (by ac_rfl))).eq (by ac_rfl);rw[e] at h5;obtain⟨e0,e1,e2,e3,e4,e5⟩:=h5.cells6;obtain⟨f0,f1,f2,f3,f4,f5⟩:=h5.frees6;have el:=h5.lt;clear h4 HPO HS2 HSM HSG e hcd;go_wp2_with fail
     refine ao (fun wz=>H wz (aa E #[f l cd,B C,f l 0,f l 0,f l 0,B C] 36*(bV b σ2*(am (.slice A g.length c) g*(aa M #[f l mp.page,f l mp.size,f l mp.frame,f l mp.rights] 39*(aa X #[f l x.kind,f l x.core,f l x.m.page,f l x.m.size,f l x.m.frame,f l x.m.rights,f l x.a.page,f l x.a.kind,B x.a.user] 43*R)))))∧V w wz) ⟨h5.set6 _ _ _ _ _ _,ai⟩ ?_;rintro wz ⟨hz,xz⟩;exact I (aD results65 rfl (aQ hz)) rfl ⟨rfl,(hz.right.eq (show _=am (.slice A g.length c) g*(aa M #[f l mp.page,f l mp.size,f l mp.frame,f l mp.rights] 39*(aa X #[f l x.kind,f l x.core,f l x.m.page,f l x.m.size,f l x.m.frame,f l x.m.rights,f l x.a.page,f l x.a.kind,B x.a.user] 43*(bV b σ2*R))) by ac_rfl)).r3,xz⟩
end Go.Proofs.YtmfheghbgihdmaaGreat
