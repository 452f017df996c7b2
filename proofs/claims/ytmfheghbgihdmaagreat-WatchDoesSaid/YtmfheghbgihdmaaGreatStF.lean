/- Contract of the document's StartFault. -/
import Derived.Test.YtmfheghbgihdmaaGreatSpcA
import Derived.Test.YtmfheghbgihdmaaGreatMpRow
import Derived.Test.YtmfheghbgihdmaaGreatInsM2
import Derived.Test.YtmfheghbgihdmaaGreatRefEnt5
import Derived.Laws.OwnMore
import Derived.Test.YtmfheghbgihdmaaGreatWchN
import Derived.Test.YtmfheghbgihdmaaGreatRspD
import Derived.Test.YtmfheghbgihdmaaGreatSpcO
namespace Go.Proofs.YtmfheghbgihdmaaGreat
open Go.Value renaming int→g,bool→z
open Go.IntKind renaming i64→j,wrap_i64→J
open Option renaming some→k,none→l
open Go.Lib renaming hid→o
open Go.Addr renaming mk→r
open Go renaming bodyPost_ret→u,World→E,Calls→F
open Go.Proofs.YtmfheghbgihdmaaGreat renaming Has→v,Ext→I,Pure→M
open Int renaming eq_ofNat_of_zero_le→D
open Tryz
open Go.RowKit
set_option maxRecDepth 100000
theorem pS(a b:Int)(w:E):F prog 55 #[g j a,g j b] w (M (.agg #[g j a,g j b]) w):=by
 have H1:=(aT w).new #[g j a,g j b] 27;go_enter func55,ntmps55;go_wp2_with fail
 refine ak (fun wz=>v wz (aa w.heap.size #[g j a,g j b] 27*(bS w w.heap.size))∧I w wz) ⟨by first|(with_reducible exact H1),ah⟩ ?_;rintro wz ⟨hz,xz⟩;exact u (aD results55 rfl (cM hz)) rfl ⟨rfl,aq hz.right xz⟩
theorem l8(C N:Int)(h:C<1∨4<C∨N<1∨128<N)(w:E):F prog 14 #[g j C,g j N] w (M (.agg #[g j 1,g j (-1)]) w):=by
 have h0:=(aT w).new #[g j 0,g j 0] 27;have x0:=(Ext.refl w).alloc (.cells #[g j 0,g j 0] 27);have HF:=o (fun w=>pS 1 (-1) w);by_cases q1:C<1
 ·skip
  go_enter func14,ntmps14;go_wp2_with fail
  refine(HF.out _).mono ?_;rintro e w2 ⟨rfl,b2⟩;have h2:=h0.below b2;have x2:=x0.below b2;obtain⟨f0,f1⟩:=h2.frees2;obtain⟨c0,c1⟩:=h2.cells2;have cl:=h2.lt;go_wp2_with fail
  refine ak (fun wz=>v wz (aa w.heap.size #[g j 1,g j (-1)] 27*(bS w w.heap.size))∧I w wz) ⟨h2.set2 _ _,ah⟩ ?_;rintro wz ⟨hz,xz⟩;exact u (aD results14 rfl (cM hz)) rfl ⟨rfl,aq hz.right xz⟩
 by_cases q2:4<C
 ·skip
  go_enter func14,ntmps14;go_wp2_with fail
  refine(HF.out _).mono ?_;rintro e w2 ⟨rfl,b2⟩;have h2:=h0.below b2;have x2:=x0.below b2;obtain⟨f0,f1⟩:=h2.frees2;obtain⟨c0,c1⟩:=h2.cells2;have cl:=h2.lt;go_wp2_with fail
  refine ak (fun wz=>v wz (aa w.heap.size #[g j 1,g j (-1)] 27*(bS w w.heap.size))∧I w wz) ⟨h2.set2 _ _,ah⟩ ?_;rintro wz ⟨hz,xz⟩;exact u (aD results14 rfl (cM hz)) rfl ⟨rfl,aq hz.right xz⟩
 by_cases q3:N<1
 ·skip
  go_enter func14,ntmps14;go_wp2_with fail
  refine(HF.out _).mono ?_;rintro e w2 ⟨rfl,b2⟩;have h2:=h0.below b2;have x2:=x0.below b2;obtain⟨f0,f1⟩:=h2.frees2;obtain⟨c0,c1⟩:=h2.cells2;have cl:=h2.lt;go_wp2_with fail
  refine ak (fun wz=>v wz (aa w.heap.size #[g j 1,g j (-1)] 27*(bS w w.heap.size))∧I w wz) ⟨h2.set2 _ _,ah⟩ ?_;rintro wz ⟨hz,xz⟩;exact u (aD results14 rfl (cM hz)) rfl ⟨rfl,aq hz.right xz⟩
 have q4:128<N:=by omega
 go_enter func14,ntmps14;go_wp2_with fail
 refine(HF.out _).mono ?_;rintro e w2 ⟨rfl,b2⟩;have h2:=h0.below b2;have x2:=x0.below b2;obtain⟨f0,f1⟩:=h2.frees2;obtain⟨c0,c1⟩:=h2.cells2;have cl:=h2.lt;go_wp2_with fail
 refine ak (fun wz=>v wz (aa w.heap.size #[g j 1,g j (-1)] 27*(bS w w.heap.size))∧I w wz) ⟨h2.set2 _ _,ah⟩ ?_;rintro wz ⟨hz,xz⟩;exact u (aD results14 rfl (cM hz)) rfl ⟨rfl,aq hz.right xz⟩
theorem mG(C N:Int)(h1:¬C<1)(h2:¬4<C)(h3:¬N<1)(h4:¬128<N)(w:E):F prog 14 #[g j C,g j N] w (M (.agg #[g j 0,g j 0]) w):=by
 have h0:=(aT w).new #[g j 0,g j 0] 27;go_enter func14,ntmps14;go_wp2_with fail
 refine ak (fun wz=>v wz (aa w.heap.size #[g j 0,g j 0] 27*(bS w w.heap.size))∧I w wz) ⟨by first|(with_reducible exact h0)|(exact h0.set2 _ _),ah⟩ ?_;rintro wz ⟨hz,xz⟩;exact u (aD results14 rfl (cM hz)) rfl ⟨rfl,aq hz.right xz⟩
section
variable (q:Nat) (s:Ms) (hs:s.Ok)
include hs
end
set_option maxHeartbeats 8000000 in
theorem l9(C N:Int)(B:Option Addr)(m d:Nat)(L:List Stp)(w:E)(_:cL C)(_:cL N)(h2:Arr w B m 9 (L.map Stp.cells))(hLo:∀x∈L,x.ok):
  F prog 6 #[g j C,g j N,.slice B m d] w (M (z true) w):=by
 have hm2:=h2.2.1;have hB:=o h2;have hL:=o (show L.length=m by simpa using h2.1);have hLO:=o hLo;clear h2 hLo;have h0:=aT w;have x0:=Ext.refl w;have HB:=o (fun w=>mA w);have HG:=o (fun w=>l7 B m d 200 w);by_cases hbig:(200:Int)<m
 ·rw[decide_eq_true hbig] at HG
  go_enter func6,ntmps6;go_wp2_with fail
  refine(HB.out _).mono ?_;rintro e w1 ⟨rfl,hb⟩;go_wp2_with fail
  refine(HG.out _).mono ?_;rintro e w2 ⟨rfl,hw⟩;subst hw;go_wp2_with fail
  go_ret;exact⟨rfl,aq (h0.below hb) (x0.below hb)⟩
 rw[decide_eq_false hbig] at HG;by_cases hbad:C<1∨4<C∨N<1∨128<N
 ·have HN:=o (fun w=>rF C N hbad w)
  have HSF:=o (fun w=>l8 C N hbad w);clear hbad;go_enter func6,ntmps6;go_wp2_with fail
  refine(HB.out _).mono ?_;rintro e w1 ⟨rfl,hb⟩;go_wp2_with fail
  refine(HG.out _).mono ?_;rintro e w2 ⟨rfl,hw⟩;subst hw;have h1:=h0.below hb;have x1:=x0.below hb;clear h0 x0 hb;go_wp2_with fail
  refine(HN.out _).mono ?_;rintro e w3 ⟨rfl,hb⟩;have h3:=(h1.below hb).new #[g j 1,g j (-1)] 27;have x3:=(x1.below hb).alloc (.cells #[g j 1,g j (-1)] 27);clear h1 x1 hb;go_upto_region 6 with fail;generalize w3.alloc _=w4 at*
  generalize w3.heap.size=X1 at*
  go_wp2_with fail
  refine(HSF.out _).mono ?_;rintro e w5 ⟨rfl,hb⟩;have h5:v _ (aa X1 #[g j 1,g j (-1)] 27*(aa w5.heap.size #[g j 1,g j (-1)] 27*bS w w.heap.size)):=((h3.below hb).new #[g j 1,g j (-1)] 27).eq (by ac_rfl);have x5:=(x3.below hb).alloc (.cells #[g j 1,g j (-1)] 27);obtain⟨c0,c1⟩:=h5.cells2;have cl:=h5.lt;obtain⟨d0,d1⟩:=h5.right.cells2;have dl:=h5.right.lt;go_wp2_with fail
  go_ret;exact⟨rfl,aq h5.right.right x5⟩
 obtain⟨K,rfl⟩:=D (show 0≤C by omega);obtain⟨n,rfl⟩:=D (show 0≤N by omega);have HN:=o (fun R w h=>tu K n (by omega) (by omega) (by omega) (by omega) R w h);have HNR:=o (fun R w h=>yh K n (by omega) (by omega) (by omega) (by omega) R w h);have HSF:=o (fun w=>mG K n (by omega) (by omega) (by omega) (by omega) w);have HS0:Hid ((Wc.new K n).Ok []∧(Wc.new K n).σ.cs.length=K):=o (by obtain⟨a,_,c⟩:=Safe.new (cores:=K) (n:=n) (by omega) (by omega) (by omega) (by omega);exact⟨Wc.Ok.new (by omega) (by omega) (by omega) (by omega),c⟩);have HNT:=o (fun R w h=>xe R w h);have hm200:=o (show m≤200 by omega);clear hbad hbig;go_enter func6,ntmps6;go_wp2_with fail
 refine(HB.out _).mono ?_;rintro e w1 ⟨rfl,hb⟩;have h1:=h0.below hb;have x1:=x0.below hb;clear h0 x0 hb HB;go_wp2_with fail
 refine(HG.out _).mono ?_;rintro e w2 ⟨rfl,hw⟩;subst hw;clear HG;go_wp2_with fail
 refine(HN.out _ _ h1).mono ?_;rintro e w3 ⟨p,sp,rfl,h3,x3⟩;have h4:v _ (aa w3.heap.size #[g j 0,g j 0] 27*(aZ p sp [[]] 0 (List.replicate K 0)*(aw sp (Sc.new K n)*bS w w.heap.size))):=h3.new #[g j 0,g j 0] 27;have x4:=(x1.trans x3).alloc (.cells #[g j 0,g j 0] 27);clear h1 x1 h3 x3 HN;go_upto_region 6 with fail;generalize w3.alloc _=w4 at*
 generalize w3.heap.size=X1 at*
 go_wp2_with fail
 refine(HSF.out _).mono ?_;rintro e w5 ⟨rfl,hb⟩;have h6:v _ (aa X1 #[g j 0,g j 0] 27*(aa w5.heap.size #[g j 0,g j 0] 27*(aZ p sp [[]] 0 (List.replicate K 0)*(aw sp (Sc.new K n)*bS w w.heap.size)))):=((h4.below hb).new #[g j 0,g j 0] 27).eq (by ac_rfl);have x6:=(x4.below hb).alloc (.cells #[g j 0,g j 0] 27);clear h4 x4 hb HSF;obtain⟨c0,c1⟩:=h6.cells2;have cl:=h6.lt;obtain⟨d0,d1⟩:=h6.right.cells2;have dl:=h6.right.lt;go_upto_region 9 with fail;generalize w5.alloc _=w6 at*
 generalize w5.heap.size=X2 at*
 clear c0 c1 cl d0 d1 dl;go_wp2_with fail
 refine(HNR.out _ _ h6).mono ?_;rintro e w7 ⟨b,rfl,h7,x7⟩;have h8:v w7 (cq b (Sc.new K n)*(aZ p sp [[]] 0 (List.replicate K 0)*(aw sp (Sc.new K n)*(aa X1 #[g j 0,g j 0] 27*(aa X2 #[g j 0,g j 0] 27*bS w w.heap.size))))):=h7.eq (by ac_rfl);have x8:=x6.trans x7;clear h6 x6 h7 x7 HNR;go_wp2_with fail
 refine(HNT.out _ _ h8).mono ?_;rintro e w9 ⟨t,rfl,h9,x9⟩;have h10:v w9 (aZ p sp (Wc.new K n).H (Wc.new K n).f (Wc.new K n).since *(aw sp (Wc.new K n).σ*(cq b (Wc.new K n).σ*(cO t (Wc.new K n).H (Wc.new K n).f *(aa X1 #[g j 0,g j 0] 27*(aa X2 #[g j 0,g j 0] 27*bS w w.heap.size)))))):=h9.eq (show _=aZ p sp [[]] 0 (List.replicate K 0)*(aw sp (Sc.new K n)*(cq b (Sc.new K n)*(cO t [[]] 0*(aa X1 #[g j 0,g j 0] 27*(aa X2 #[g j 0,g j 0] 27*bS w w.heap.size))))) by ac_rfl);have x10:=x8.trans x9;have HL0:Hid ((Wc.new K n).H.length ≤1+0):=o (Nat.le_refl _);clear h8 x8 h9 x9 HNT;go_wp2_with fail
 generalize Wc.new K n=W0 at*
 go_loopw [12] (fun t12 wr=>∃(i:Nat) (W:Wc) (P:List Mp),i≤m∧t12=g j i∧Hid (W.Ok P∧W.σ.cs.length=K)∧Hid (W.H.length≤1+i)∧v wr (aZ p sp W.H W.f W.since*(aw sp W.σ*(cq b W.σ*(cO t W.H W.f*(aa X1 #[g j 0,g j 0] 27*(aa X2 #[g j 0,g j 0] 27*bS w w.heap.size))))))∧I w wr) (fun t12 _=>m - (intOf t12).toNat)
 case atStart=>exact⟨0,W0,[],by omega,rfl,HS0,HL0,h10,x10⟩
 case round=>
  clear h10 x10 HS0 HL0;obtain⟨i,W1,P1,hi,rfl,hS1,hL1,hr,hx⟩:=hrel;by_cases hlt:i<m
  ·have hil:i<L.length:=by have:=hL.out;omega
   obtain⟨b',off,hb,-⟩:=(hB.out.old1 hr.right.right.right.r3 hx).stp hil;subst hb;obtain⟨y,hy⟩:∃y,L[i]=y:=⟨_,rfl⟩;have hyo:y.ok:=by rw[←hy];exact hLO.out _ (List.getElem_mem hil)
   have HD:=o (fun(w':E) (h:v w' (bS w w.heap.size)) (e:I w w')=>(hB.out.old1 h e).stpAt hil hy);clear hy;have hb1:W1.H.length≤999999:=by have:=hL1.out;have:=hm200.out;omega
   have hla:=hS1.out.1.hist.last;have HW:Hid (∀R w,v w (aZ p sp W1.H W1.f W1.since*(aw sp W1.σ*R))→F prog 37 #[.pointer (k (r p 0 l)),.agg #[g j y.kind,g j y.core,g j y.m.page,g j y.m.size,g j y.m.frame,g j y.m.rights,g j y.a.page,g j y.a.kind,z y.a.user]] w
     (cI (.tuple #[(W1.act y).2.val,.agg #[g j 0,g j 0]]) (aZ p sp (W1.act y).1.H (W1.act y).1.f (W1.act y).1.since*(aw sp (W1.act y).1.σ*R)) w)):=o (fun R w h=>yn p sp W1 P1 y hS1.out.1 hyo hb1 R w h)
   have HR:Hid (∀R w,v w (cq b W1.σ*R)→F prog 17 #[.pointer (k (r b 0 l)),.agg #[g j y.kind,g j y.core,g j y.m.page,g j y.m.size,g j y.m.frame,g j y.m.rights,g j y.a.page,g j y.a.kind,z y.a.user]] w
     (cI (W1.act y).2.val (cq b (W1.act y).1.σ*R) w)):=o (fun R w h=>yq b W1.σ y hS1.out.1.safe.ok hyo R w h)
   have HC:Hid (∀R w,v w (cO t W1.H W1.f*R)→F prog 39 #[.pointer (k (r t 0 l)),.agg #[g j y.kind,g j y.core,g j y.m.page,g j y.m.size,g j y.m.frame,g j y.m.rights,g j y.a.page,g j y.a.kind,z y.a.user],(W1.act y).2.val] w
     (cI (.tuple #[]) (cO t (W1.act y).1.H (W1.act y).1.f*R) w)):=o (fun R w h=>tx t W1.H W1.f y (W1.act y).2 (dr W1.σ.s 0) hyo hla (hS1.out.1.hist.ok _ (List.mem_of_getLast? hla)) hb1 R w h)
   have HS2:Hid ((W1.act y).1.Ok (Safe.prevOf W1.σ P1 y)∧(W1.act y).1.σ.cs.length=K):=o ⟨hS1.out.1.act y,(hS1.out.1.safe.n_act y).2.trans hS1.out.2⟩;have HL2:Hid ((W1.act y).1.H.length≤1+(i+1)):=o (by have:=Wc.hist_len W1 y;have:=hL1.out;omega);unfold Ev.val at HW HR HC;clear hS1 hyo hb1 hla hL1;generalize W1.act y=q at*
   generalize Safe.prevOf W1.σ P1 y=P2 at*
   obtain⟨W2,⟨ec,ef,⟨ea,eb,er⟩,ek⟩⟩:=q;obtain⟨yk,yc,ym,ya⟩:=y;dsimp only at*
   have hlt':(i:Int)<m:=by omega
   have hi0:(0:Int)≤i:=by omega
   obtain⟨dl,d0,d1,d2,d3,d4,d5,d6,d7,d8⟩:=HD.out _ hr.right.right.right.r3 hx;go_upto_region 13 with fail;go_wp2_with fail
   refine(HW.out _ _ hr).mono ?_;rintro e w5 ⟨rfl,h5,x5⟩;have h6:v _ (cq b W1.σ*(aZ p sp W2.H W2.f W2.since*(aw sp W2.σ*(aa w5.heap.size #[g j ec,z ef,g j ea,g j eb,g j er,z ek] 36*(aa (w5.heap.size+1) #[g j 0,g j 0] 27*(cO t W1.H W1.f*(aa X1 #[g j 0,g j 0] 27*(aa X2 #[g j 0,g j 0] 27*bS w w.heap.size)))))))):=((h5.new #[g j ec,z ef,g j ea,g j eb,g j er,z ek] 36).new #[g j 0,g j 0] 27).eq (by simp only[World.size_alloc]<;>ac_rfl);have x6:=((hx.trans x5).alloc (.cells #[g j ec,z ef,g j ea,g j eb,g j er,z ek] 36)).alloc (.cells #[g j 0,g j 0] 27);clear hr hx h5 x5 HW dl d0 d1 d2 d3 d4 d5 d6 d7 d8;go_upto_region 14 with fail;generalize (w5.alloc (.cells #[g j ec,z ef,g j ea,g j eb,g j er,z ek] 36)).alloc (.cells #[g j 0,g j 0] 27)=w6 at*
   generalize w5.heap.size+1=FX at*
   generalize w5.heap.size=EX at*
   have HK:=o (fun(w':E) (P1 P2 P3 P4:ab) (h:v w' (P1*(P2*(P3*(aa EX #[g j ec,z ef,g j ea,g j eb,g j er,z ek] 36*(aa FX #[g j 0,g j 0] 27*(P4*(aa X1 #[g j 0,g j 0] 27*(aa X2 #[g j 0,g j 0] 27*bS w w.heap.size))))))))) (e:I w w')=>(by
    obtain⟨a0,a1,a2,a3,a4,a5⟩:=h.r3.cells6;exact⟨⟨a0,a1,a2,a3,a4,a5,h.right.r3.cell 0⟩,(HD.out _ h.right.right.right.right.right.r3 e).2⟩:(w'.cell? (r EX 0 l)=k (g j ec)∧w'.cell? (r EX 1 l)=k (z ef)∧w'.cell? (r EX 2 l)=k (g j ea)∧w'.cell? (r EX 3 l)=k (g j eb)∧w'.cell? (r EX 4 l)=k (g j er)∧w'.cell? (r EX 5 l)=k (z ek)∧w'.cell? (r FX 0 l)=k (g j 0))∧(w'.cell? ⟨b',off+i*9,l⟩=k (g j yk)∧w'.cell? ⟨b',off+i*9+1,l⟩=k (g j yc)∧w'.cell? ⟨b',off+i*9+2,l⟩=k (g j ym.page)∧w'.cell? ⟨b',off+i*9+3,l⟩=k (g j ym.size)∧w'.cell? ⟨b',off+i*9+4,l⟩=k (g j ym.frame)∧w'.cell? ⟨b',off+i*9+5,l⟩=k (g j ym.rights)∧w'.cell? ⟨b',off+i*9+6,l⟩=k (g j ya.page)∧w'.cell? ⟨b',off+i*9+7,l⟩=k (g j ya.kind)∧w'.cell? ⟨b',off+i*9+8,l⟩=k (z ya.user))))
   have dl:=(HD.out _ h6.right.right.right.right.right.r3 x6).1;have el:=h6.r3.lt;have fl:=h6.right.r3.lt;go_cut [70] from 58 to 70 (fun s70 wx=>s70=z false∧v wx (cq b W2.σ*(aZ p sp W2.H W2.f W2.since*(aw sp W2.σ*(aa EX #[g j ec,z ef,g j ea,g j eb,g j er,z ek] 36*(aa FX #[g j 0,g j 0] 27*(cO t W1.H W1.f*(aa X1 #[g j 0,g j 0] 27*(aa X2 #[g j 0,g j 0] 27*bS w w.heap.size))))))))∧I w wx)
   case first=>
    clear HS2 HL2 HC;have hd:=h6.drew;have xd:=x6.drew;go_region_held3 (fun w'=>(w'.cell? (r EX 0 l)=k (g j ec)∧w'.cell? (r EX 1 l)=k (z ef)∧w'.cell? (r EX 2 l)=k (g j ea)∧w'.cell? (r EX 3 l)=k (g j eb)∧w'.cell? (r EX 4 l)=k (g j er)∧w'.cell? (r EX 5 l)=k (z ek)∧w'.cell? (r FX 0 l)=k (g j 0))∧(w'.cell? ⟨b',off+i*9,l⟩=k (g j yk)∧w'.cell? ⟨b',off+i*9+1,l⟩=k (g j yc)∧w'.cell? ⟨b',off+i*9+2,l⟩=k (g j ym.page)∧w'.cell? ⟨b',off+i*9+3,l⟩=k (g j ym.size)∧w'.cell? ⟨b',off+i*9+4,l⟩=k (g j ym.frame)∧w'.cell? ⟨b',off+i*9+5,l⟩=k (g j ym.rights)∧w'.cell? ⟨b',off+i*9+6,l⟩=k (g j ya.page)∧w'.cell? ⟨b',off+i*9+7,l⟩=k (g j ya.kind)∧w'.cell? ⟨b',off+i*9+8,l⟩=k (z ya.user))) (first|(with_reducible exact HK.out _ _ _ _ _ hd xd)|(with_reducible exact HK.out _ _ _ _ _ hL xL)|go_keep)
     (first
      |(go_at_call 17;(with_reducible refine(HR.out _ _ hd).mono ?_);rintro e w7 ⟨rfl,hL,x7⟩;have xL:=xd.trans x7))
    all_goals
     go_wp2_with fail
     go_meet
     case rel=>exact⟨by first|rfl|simp,hL,xL⟩
   case rest=>
    obtain⟨rfl,h7,x7⟩:=hcut;clear h6 x6 HR;have h8:v wc (cO t W1.H W1.f*(aZ p sp W2.H W2.f W2.since*(aw sp W2.σ*(aa EX #[g j ec,z ef,g j ea,g j eb,g j er,z ek] 36*(aa FX #[g j 0,g j 0] 27*(cq b W2.σ*(aa X1 #[g j 0,g j 0] 27*(aa X2 #[g j 0,g j 0] 27*bS w w.heap.size)))))))):=h7.eq (by ac_rfl);clear h7;go_upto_region 16 with fail;have el:=h8.r3.lt;go_cut [] from 71 to 77 (fun wx=>v wx (cO t W2.H W2.f*(aZ p sp W2.H W2.f W2.since*(aw sp W2.σ*(aa EX #[g j ec,z ef,g j ea,g j eb,g j er,z ek] 36*(aa FX #[g j 0,g j 0] 27*(cq b W2.σ*(aa X1 #[g j 0,g j 0] 27*(aa X2 #[g j 0,g j 0] 27*bS w w.heap.size))))))))∧I w wx)
    case first=>
     clear HS2 HL2;have hd:=h8.drew;have xd:=x7.drew;go_region_held3 (fun w'=>(w'.cell? (r EX 0 l)=k (g j ec)∧w'.cell? (r EX 1 l)=k (z ef)∧w'.cell? (r EX 2 l)=k (g j ea)∧w'.cell? (r EX 3 l)=k (g j eb)∧w'.cell? (r EX 4 l)=k (g j er)∧w'.cell? (r EX 5 l)=k (z ek)∧w'.cell? (r FX 0 l)=k (g j 0))∧(w'.cell? ⟨b',off+i*9,l⟩=k (g j yk)∧w'.cell? ⟨b',off+i*9+1,l⟩=k (g j yc)∧w'.cell? ⟨b',off+i*9+2,l⟩=k (g j ym.page)∧w'.cell? ⟨b',off+i*9+3,l⟩=k (g j ym.size)∧w'.cell? ⟨b',off+i*9+4,l⟩=k (g j ym.frame)∧w'.cell? ⟨b',off+i*9+5,l⟩=k (g j ym.rights)∧w'.cell? ⟨b',off+i*9+6,l⟩=k (g j ya.page)∧w'.cell? ⟨b',off+i*9+7,l⟩=k (g j ya.kind)∧w'.cell? ⟨b',off+i*9+8,l⟩=k (z ya.user))) (first|(with_reducible exact HK.out _ _ _ _ _ hd xd)|(with_reducible exact HK.out _ _ _ _ _ hL xL)|go_keep)
      (first
       |(go_at_call 39;(with_reducible refine(HC.out _ _ hd).mono ?_);rintro e w7 ⟨rfl,hL,x7⟩;have xL:=xd.trans x7))
     all_goals
      go_wp2_with fail
      go_meet
      case rel=>exact⟨hL,xL⟩
    case rest=>
     obtain⟨h9,x9⟩:=hcut;clear h8 x7 HC HK el fl dl;go_upto_region 17 with fail;obtain⟨y1,hy1,h10⟩:=iZ h9;have HT1:=o (fun(w':E) (R':ab) (h:v w' (dZ t W2.H W2.f y1 R'))=>gC hy1 h);unfold dZ at h10 HT1;have h11:v wc (cq b W2.σ*(aa t #[.slice y1.A y1.bs.length y1.c,g j W2.f] 87*((fE (.slice y1.A y1.bs.length y1.c) y1.bs*dL y1.bs W2.H)*(aZ p sp W2.H W2.f W2.since*(aw sp W2.σ*(aa EX #[g j ec,z ef,g j ea,g j eb,g j er,z ek] 36*(aa FX #[g j 0,g j 0] 27*(aa X1 #[g j 0,g j 0] 27*(aa X2 #[g j 0,g j 0] 27*bS w w.heap.size))))))))):=h10.eq (by ac_rfl);obtain⟨y2,hy2,h12⟩:=fQ h11;have HR1:=o (fun(w':E) (R':ab) (h:v w' (fy b W2.σ y2 R'))=>fR hy2 h);unfold fy at h12 HR1;have hn1:=HS2.out.1.hist.ne;have HTW:=o (fun R w h=>sG p sp W2.H W2.f W2.since hn1 R w h);have HBU:=o (fun R w h=>wU sp W2.σ R w h);have HFR:=o (fun R w h=>wV sp W2.σ R w h);have HFM:=o (fun R w h=>uI y2.m W2.σ.s R w h HS2.out.1.safe.ok.s);rw[←hy1] at HTW;have hn2:y1.bs.length≤1000:=by have:=HL2.out;have:=hm200.out;omega
     have hn3:1≤y1.bs.length:=by omega
     have hw:IntKind.i64.wrap ((y1.bs.length:Int) - 1)=(y1.bs.length:Int) - 1:=by rw[J];omega
     have h13:v wc (aw sp W2.σ*(aZ p sp W2.H W2.f W2.since*(aa t #[.slice y1.A y1.bs.length y1.c,g j W2.f] 87*(aa b #[.pointer (k (r y2.m 0 l)),g j 0,.slice y2.A y2.ps.length y2.c,z W2.σ.busy,.slice y2.G W2.σ.gone.length y2.d,g j W2.σ.told.page,g j W2.σ.told.size,g j W2.σ.told.frame,g j W2.σ.told.rights,.slice (k (r y2.gw 0 l)) y2.ps.length y2.ps.length] 52*(az y2.m W2.σ.s*((fE (.slice y1.A y1.bs.length y1.c) y1.bs*dL y1.bs W2.H)*((bF (.slice y2.A y2.ps.length y2.c) y2.ps*(ao (.slice y2.G W2.σ.gone.length y2.d) W2.σ.gone*(aa y2.gw (bm y2.ps.length (bI W2.σ.wait)) 4*aL y2.ps W2.σ.cs)))*(aa EX #[g j ec,z ef,g j ea,g j eb,g j er,z ek] 36*(aa FX #[g j 0,g j 0] 27*(aa X1 #[g j 0,g j 0] 27*(aa X2 #[g j 0,g j 0] 27*bS w w.heap.size))))))))))):=h12.eq (by ac_rfl);have HK:=o (fun(w':E) (h:v w' (aw sp W2.σ*(aZ p sp W2.H W2.f W2.since*(aa t #[.slice y1.A y1.bs.length y1.c,g j W2.f] 87*(aa b #[.pointer (k (r y2.m 0 l)),g j 0,.slice y2.A y2.ps.length y2.c,z W2.σ.busy,.slice y2.G W2.σ.gone.length y2.d,g j W2.σ.told.page,g j W2.σ.told.size,g j W2.σ.told.frame,g j W2.σ.told.rights,.slice (k (r y2.gw 0 l)) y2.ps.length y2.ps.length] 52*(az y2.m W2.σ.s*((fE (.slice y1.A y1.bs.length y1.c) y1.bs*dL y1.bs W2.H)*((bF (.slice y2.A y2.ps.length y2.c) y2.ps*(ao (.slice y2.G W2.σ.gone.length y2.d) W2.σ.gone*(aa y2.gw (bm y2.ps.length (bI W2.σ.wait)) 4*aL y2.ps W2.σ.cs)))*(aa EX #[g j ec,z ef,g j ea,g j eb,g j er,z ek] 36*(aa FX #[g j 0,g j 0] 27*(aa X1 #[g j 0,g j 0] 27*(aa X2 #[g j 0,g j 0] 27*bS w w.heap.size))))))))))))=>(⟨(gh h.p2).2,h.right.right.cell 0,h.r3.cell 0,h.r3.cell 3⟩:w'.cell? (r p 0 l)=k (.pointer (k (r sp 0 l)))∧w'.cell? (r t 0 l)=k (.slice y1.A y1.bs.length y1.c)∧w'.cell? (r b 0 l)=k (.pointer (k (r y2.m 0 l)))∧w'.cell? (r b 3 l)=k (z W2.σ.busy)));have HEND:=o (fun(w':E) (h:v w' (aw sp W2.σ*(aZ p sp W2.H W2.f W2.since*(aa t #[.slice y1.A y1.bs.length y1.c,g j W2.f] 87*(aa b #[.pointer (k (r y2.m 0 l)),g j 0,.slice y2.A y2.ps.length y2.c,z W2.σ.busy,.slice y2.G W2.σ.gone.length y2.d,g j W2.σ.told.page,g j W2.σ.told.size,g j W2.σ.told.frame,g j W2.σ.told.rights,.slice (k (r y2.gw 0 l)) y2.ps.length y2.ps.length] 52*(az y2.m W2.σ.s*((fE (.slice y1.A y1.bs.length y1.c) y1.bs*dL y1.bs W2.H)*((bF (.slice y2.A y2.ps.length y2.c) y2.ps*(ao (.slice y2.G W2.σ.gone.length y2.d) W2.σ.gone*(aa y2.gw (bm y2.ps.length (bI W2.σ.wait)) 4*aL y2.ps W2.σ.cs)))*(aa EX #[g j ec,z ef,g j ea,g j eb,g j er,z ek] 36*(aa FX #[g j 0,g j 0] 27*(aa X1 #[g j 0,g j 0] 27*(aa X2 #[g j 0,g j 0] 27*bS w w.heap.size))))))))))))=>(by
      have h1:=HR1.out w' (aa t #[.slice y1.A y1.bs.length y1.c,g j W2.f] 87*((fE (.slice y1.A y1.bs.length y1.c) y1.bs*dL y1.bs W2.H)*(aZ p sp W2.H W2.f W2.since*(aw sp W2.σ*(aa EX #[g j ec,z ef,g j ea,g j eb,g j er,z ek] 36*(aa FX #[g j 0,g j 0] 27*(aa X1 #[g j 0,g j 0] 27*(aa X2 #[g j 0,g j 0] 27*bS w w.heap.size)))))))) (h.eq (by ac_rfl));have h2:=HT1.out w' (aZ p sp W2.H W2.f W2.since*(aw sp W2.σ*(aa EX #[g j ec,z ef,g j ea,g j eb,g j er,z ek] 36*(aa FX #[g j 0,g j 0] 27*(cq b W2.σ*(aa X1 #[g j 0,g j 0] 27*(aa X2 #[g j 0,g j 0] 27*bS w w.heap.size))))))) (h1.eq (by ac_rfl));exact(h2.eq (show _=aa EX #[g j ec,z ef,g j ea,g j eb,g j er,z ek] 36*(aa FX #[g j 0,g j 0] 27*(aZ p sp W2.H W2.f W2.since*(aw sp W2.σ*(cq b W2.σ*(cO t W2.H W2.f*(aa X1 #[g j 0,g j 0] 27*(aa X2 #[g j 0,g j 0] 27*bS w w.heap.size))))))) by ac_rfl)).right.right :v w' (aZ p sp W2.H W2.f W2.since*(aw sp W2.σ*(cq b W2.σ*(cO t W2.H W2.f*(aa X1 #[g j 0,g j 0] 27*(aa X2 #[g j 0,g j 0] 27*bS w w.heap.size))))))))
     have pl:=(gh h13.p2).1;have tl:=h13.right.right.lt;have bl:=h13.r3.lt;have hd:=h13.drew;have xd:=x9.drew;clear h9 h10 h11 h12 h13 x9 hy1 hy2 HT1 HR1 hn1 hn2 hn3;go_region_held3 (fun w'=>w'.cell? (r p 0 l)=k (.pointer (k (r sp 0 l)))∧w'.cell? (r t 0 l)=k (.slice y1.A y1.bs.length y1.c)∧w'.cell? (r b 0 l)=k (.pointer (k (r y2.m 0 l)))∧w'.cell? (r b 3 l)=k (z W2.σ.busy)) (first|(with_reducible exact HK.out _ hd)|(with_reducible exact HK.out _ hL)|go_keep)
      (first
       |(go_at_call 42;(with_reducible refine(HTW.out _ _ hd.p2).mono ?_);rintro e w7 ⟨rfl,rfl⟩)
       |(go_at_call 24;(with_reducible refine(HBU.out _ _ hd).mono ?_);rintro e w7 ⟨rfl,rfl⟩)
       |(go_at_call 25;(with_reducible refine(HFR.out _ _ hd).mono ?_);rintro e w7 ⟨rfl,rfl⟩)
       |(go_at_call 26;(with_reducible refine(HFM.out _ _ (hd.eq (show _=az y2.m W2.σ.s*(aw sp W2.σ*(aZ p sp W2.H W2.f W2.since*(aa t #[.slice y1.A y1.bs.length y1.c,g j W2.f] 87*(aa b #[.pointer (k (r y2.m 0 l)),g j 0,.slice y2.A y2.ps.length y2.c,z W2.σ.busy,.slice y2.G W2.σ.gone.length y2.d,g j W2.σ.told.page,g j W2.σ.told.size,g j W2.σ.told.frame,g j W2.σ.told.rights,.slice (k (r y2.gw 0 l)) y2.ps.length y2.ps.length] 52*((fE (.slice y1.A y1.bs.length y1.c) y1.bs*dL y1.bs W2.H)*((bF (.slice y2.A y2.ps.length y2.c) y2.ps*(ao (.slice y2.G W2.σ.gone.length y2.d) W2.σ.gone*(aa y2.gw (bm y2.ps.length (bI W2.σ.wait)) 4*aL y2.ps W2.σ.cs)))*(aa EX #[g j ec,z ef,g j ea,g j eb,g j er,z ek] 36*(aa FX #[g j 0,g j 0] 27*(aa X1 #[g j 0,g j 0] 27*(aa X2 #[g j 0,g j 0] 27*bS w w.heap.size)))))))))) by ac_rfl))).mono ?_);rintro e w7 ⟨rfl,b7⟩;have hL:=hd.below b7;have xL:=xd.below b7))
     all_goals
      go_wp2_with fail
      go_roundw
      case rel=>exact⟨i+1,W2,P2,by omega,by go_num,HS2,HL2,HEND.out _ hL,xL⟩
      case measure=>simp[intOf];omega
  ·obtain rfl:i=m:=by omega
   go_wp2_with fail
   go_ret;exact⟨rfl,aq hr.right.right.right.r3 hx⟩
end Go.Proofs.YtmfheghbgihdmaaGreat
