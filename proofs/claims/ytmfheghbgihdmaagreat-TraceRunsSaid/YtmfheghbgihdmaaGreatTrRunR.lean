/- The document's Space.Run. -/
import Derived.Test.YtmfheghbgihdmaaGreatRspD
import Derived.Test.YtmfheghbgihdmaaGreatEvR
import Derived.Test.YtmfheghbgihdmaaGreatCoreR
import Derived.Test.YtmfheghbgihdmaaGreatStF
namespace Go.Proofs.YtmfheghbgihdmaaGreat
open Go.Value renaming bool→vB
open Go.Addr renaming mk→aMk
open Go.Lib renaming hid→f
open Go.Value renaming int→g
open Go.IntKind renaming i64→j
open Int renaming eq_ofNat_of_zero_le→k
open Tryz
open Go.RowKit
set_option maxRecDepth 100000
theorem lR:∀(l:List Stp) (σ:Sc) (P:List Mp),Safe σ P→∃Q,Safe (d9 σ l) Q
 | [],_,P,h=>⟨P,h⟩
 |x::l,σ,_,h=>lR l (σ.act x).1 _ (h.act x)
set_option maxHeartbeats 8000000 in
theorem zW(b:Nat)(σ:Sc)(P:List Mp)(hS:Safe σ P)(B:Option Addr)(m d:Nat)(L:List Stp)(w0:World)(h2:Arr w0 B m 9 (L.map Stp.cells))(hLo:∀x∈L,x.ok)(hm:m≤2000)(R:ae)(w:World)
  (h:Has w (bV b σ*(R*a9 w0 w0.heap.size))) (hx0:Ext w0 w):
  Calls prog 46 #[.pointer (some (aMk b 0 none)),.slice B m d] w fun e w'=>∃A c,e= .returned (.slice A m c)∧Has w' (fO (.slice A m c) (cL σ L)*(bV b (d9 σ L)*(R*a9 w0 w0.heap.size)))∧Ext w w':=by
 have hB:=f h2;have hL:=f (show L.length=m by simpa using h2.1);have hLO:=f hLo;have HS:=f hS;have HX:=f hx0;clear h2 hLo hS hx0;have h3:Has w (fO (.slice none (cL σ (L.take 0)).length 0) (cL σ (L.take 0))*(bV b (d9 σ (L.take 0))*(R*a9 w0 w0.heap.size))):=Has.rowNil (e:=36) (size:=6) h;have x3:=Ext.refl w;clear h;go_enter func46,ntmps46;go_wp2_with fail
 go_loopw [5,6] (fun t5 t6 wr=>∃(i:Nat) (A:Option Addr) (c:Nat),i≤m∧t6=g j i∧t5= .slice A (cL σ (L.take i)).length c∧
   Has wr (fO (.slice A (cL σ (L.take i)).length c) (cL σ (L.take i))*(bV b (d9 σ (L.take i))*(R*a9 w0 w0.heap.size)))∧Ext w wr) (fun _ t6 _=>m - (intOf t6).toNat)
 case atStart=>exact⟨0,none,0,by omega,rfl,rfl,h3,x3⟩
 case round=>
  clear h3 x3;obtain⟨i,A,c,hi,rfl,rfl,hr,hx⟩:=hrel;obtain⟨out,hout⟩:∃out,cL σ (L.take i)=out:=⟨_,rfl⟩;rw[hout] at hr⊢;have hol:=f (show out.length=i by rw[←hout,lx,List.length_take,hL.out];omega);replace hout:=f hout;by_cases hlt:i<m
  ·have hil:i<L.length:=by have:=hL.out;omega
   obtain⟨b',off,hb,-⟩:=(hB.out.old1 hr.r3 (HX.out.trans hx)).stp hil;subst hb;obtain⟨y,hy⟩:∃y,L[i]=y:=⟨_,rfl⟩;have hyo:y.ok:=by rw[←hy];exact hLO.out _ (List.getElem_mem hil)
   obtain⟨dl,d0,d1,d2,d3,d4,d5,d6,d7,d8⟩:=(hB.out.old1 hr.r3 (HX.out.trans hx)).stpAt hil hy;obtain⟨Q,hSi⟩:=lR (L.take i) σ P HS.out;have hst:d9 σ (L.take (i+1))=((d9 σ (L.take i)).act y).1:=by rw[kg hil hy,pO]
   have htt:cL σ (L.take (i+1))=out++[((d9 σ (L.take i)).act y).2]:=by rw[kg hil hy,kM,hout.out]
   have HR:Hid (∀R w,Has w (bV b (d9 σ (L.take i))*R)→Calls prog 17 #[.pointer (some (aMk b 0 none)),.agg #[g j y.kind,g j y.core,g j y.m.page,g j y.m.size,g j y.m.frame,g j y.m.rights,g j y.a.page,g j y.a.kind,vB y.a.user]] w
     (cN ((d9 σ (L.take i)).act y).2.val (bV b ((d9 σ (L.take i)).act y).1*R) w)):=f (fun R w h=>Ad b (d9 σ (L.take i)) y hSi.ok hyo R w h)
   unfold Ev.val at HR;clear hSi hyo hy;generalize d9 σ (L.take i)=σ1 at*
   generalize hz:σ1.act y=z at*
   obtain⟨σ2,⟨ec,ef,⟨ea,eb,er⟩,ek⟩⟩:=z;obtain⟨yk,yc,ym,ya⟩:=y;dsimp only at*
   replace hst:=f hst;replace htt:=f htt;have hlt':(i:Int)<m:=by omega
   have hi0:(0:Int)≤i:=by omega
   have h5:Has wr (bV b σ1*(fO (.slice A out.length c) out*(R*a9 w0 w0.heap.size))):=hr.p2;clear hr hz;go_wp2_with fail
   refine(HR.out _ _ h5).mono ?_;rintro e w5 ⟨rfl,h6,x6⟩;have h7:=h6.p2;have x7:=hx.trans x6;clear h5 hx h6 x6 HR dl d0 d1 d2 d3 d4 d5 d6 d7 d8;go_wp2_with(at_builtin;refine aN rfl _ _ 95 rfl underlying95 tu _ _ _ rfl (h7.alloc (.cells #[g j ec,vB ef,g j ea,g j eb,g j er,vB ek] 36)) (aMk w5.heap.size 0 none) 1 1 (⟨ec,ef,⟨ea,eb,er⟩,ek⟩:Ev).cells rfl rfl (dq w5 (⟨ec,ef,⟨ea,eb,er⟩,ek⟩:Ev).cells 36) (wl ⟨ec,ef,⟨ea,eb,er⟩,ek⟩) ?_ ?_ ?_)
   rotate_left;rotate_left
   ·intro v3 w7 h8 x8
    obtain⟨A3,c3,rfl,h9⟩:=nJ h8;have x10:=(x7.alloc (.cells #[g j ec,vB ef,g j ea,g j eb,g j er,vB ek] 36)).trans x8;clear h7 x7 h8 x8;go_wp2_with fail
    go_roundw
    case rel=>exact⟨i+1,A3,c3,by omega,by go_num,by rw[htt.out],by rw[htt.out,hst.out];exact h9,x10⟩
    case measure=>simp[intOf];omega
   ·have:=hol.out;unfold maxLen;omega
   ·have:=hol.out;omega
  ·obtain rfl:i=m:=by omega
   have he:out=cL σ L:=by rw[←hout.out,List.take_of_length_le (by rw[hL.out];exact Nat.le_refl _)]
   rw[hol.out] at hr⊢;rw[he,List.take_of_length_le (by rw[hL.out];exact Nat.le_refl _)] at hr;clear he hout hol;go_wp2_with fail
   go_ret;exact⟨A,c,rfl,hr,hx⟩
set_option maxHeartbeats 8000000 in
theorem nk(C N:Int)(B:Option Addr)(m d:Nat)(L:List Stp)(w:World)(_:cy C)(_:cy N)(h2:Arr w B m 9 (L.map Stp.cells))(hLo:∀x∈L,x.ok):
  Calls prog 7 #[g j C,g j N,.slice B m d] w (Pure (vB true) w):=by
 have hm2:=h2.2.1;have hB:=f h2;have hLO:=f hLo;clear h2 hLo;have h0:=aM w;have x0:=Ext.refl w;have HB:=f (fun w=>jC w);by_cases hbig:(300:Int)<m∧(m:Int)≤2000
 ·obtain⟨q1,q2⟩:=hbig
  go_enter func7,ntmps7;go_wp2_with fail
  refine(HB.out _).mono ?_;rintro e w1 ⟨rfl,hb⟩;go_wp2_with fail
  go_ret;exact⟨rfl,ap (h0.below hb) (x0.below hb)⟩
 by_cases hbad:C<1∨4<C∨N<1∨128<N
 ·have HN:=f (fun w=>rn C N hbad B m d w)
  have HSF:=f (fun w=>jT C N hbad w);clear hbad;go_enter func7,ntmps7;go_wp2_with fail
  refine(HB.out _).mono ?_;rintro e w1 ⟨rfl,hb⟩;have h1:=h0.below hb;have x1:=x0.below hb;clear h0 x0 hb;go_upto_region 3 with fail;go_cut [19] from 12 to 19 (fun s19 wx=>s19=vB false∧wx=w1)
  case first=>
   by_cases q1:(300:Int)<m
   ·have q2:¬((m:Int)≤2000):=fun h=>hbig ⟨q1,h⟩
    clear hbig HN HSF;go_wp2_with fail
    go_meet
    case rel=>exact⟨rfl,rfl⟩
   ·clear hbig HN HSF
    go_wp2_with fail
    go_meet
    case rel=>exact⟨rfl,rfl⟩
  case rest=>
   obtain⟨rfl,hw⟩:=hcut;replace hw:=hw.symm;subst hw;clear hbig;go_wp2_with fail
   refine(HN.out _).mono ?_;rintro e w3 ⟨rfl,hb⟩;have h3:=(h1.below hb).new #[g j 1,g j (-1)] 27;have x3:=(x1.below hb).alloc (.cells #[g j 1,g j (-1)] 27);clear h1 x1 hb;go_upto_region 6 with fail;generalize w3.alloc _=w4 at*
   generalize w3.heap.size=X1 at*
   go_wp2_with fail
   refine(HSF.out _).mono ?_;rintro e w5 ⟨rfl,hb⟩;have h5:Has _ (aa X1 #[g j 1,g j (-1)] 27*(aa w5.heap.size #[g j 1,g j (-1)] 27*a9 w w.heap.size)):=((h3.below hb).new #[g j 1,g j (-1)] 27).eq (by ac_rfl);have x5:=(x3.below hb).alloc (.cells #[g j 1,g j (-1)] 27);obtain⟨c0,c1⟩:=h5.cells2;have cl:=h5.lt;obtain⟨d0,d1⟩:=h5.right.cells2;have dl:=h5.right.lt;go_wp2_with fail
   go_ret;exact⟨rfl,ap h5.right.right x5⟩
 obtain⟨K,rfl⟩:=k (show 0≤C by omega);obtain⟨n,rfl⟩:=k (show 0≤N by omega);have HSF:=f (fun w=>kt K n (by omega) (by omega) (by omega) (by omega) w);by_cases hmany:(2000:Int)<m
 ·have HN:=f (fun w=>rS K n (by omega) (by omega) (by omega) (by omega) B m d hmany w)
  have q1:(300:Int)<m:=by omega
  have q2:¬((m:Int)≤2000):=by omega
  clear hbig hbad;go_enter func7,ntmps7;go_wp2_with fail
  refine(HB.out _).mono ?_;rintro e w1 ⟨rfl,hb⟩;have h1:=h0.below hb;have x1:=x0.below hb;clear h0 x0 hb;go_wp2_with fail
  refine(HN.out _).mono ?_;rintro e w3 ⟨rfl,hb⟩;have h3:=(h1.below hb).new #[g j 10,g j (-1)] 27;have x3:=(x1.below hb).alloc (.cells #[g j 10,g j (-1)] 27);clear h1 x1 hb;go_upto_region 6 with fail;generalize w3.alloc _=w4 at*
  generalize w3.heap.size=X1 at*
  go_wp2_with fail
  refine(HSF.out _).mono ?_;rintro e w5 ⟨rfl,hb⟩;have h5:Has _ (aa w5.heap.size #[g j 0,g j 0] 27*(aa X1 #[g j 10,g j (-1)] 27*a9 w w.heap.size)):=((h3.below hb).new #[g j 0,g j 0] 27);have x5:=(x3.below hb).alloc (.cells #[g j 0,g j 0] 27);clear h3 x3 hb;go_upto_region 7 with fail;generalize w5.alloc _=w6 at*
  generalize w5.heap.size=X2 at*
  obtain⟨c0,c1⟩:=h5.cells2;obtain⟨f0,f1⟩:=h5.frees2;have cl:=h5.lt;go_upto_region 9 with fail;have h7:Has _ (aa X2 #[g j 10,g j (-1)] 27*(aa X1 #[g j 10,g j (-1)] 27*a9 w w.heap.size)):=h5.set2 (g j 10) (g j (-1));have x7:=(x5.set (aMk X2 0 none) (g j 10)).set (aMk X2 1 none) (g j (-1));generalize (w6.setCell (aMk X2 0 none) (g j 10)).setCell (aMk X2 1 none) (g j (-1))=w7 at*
  clear h5 x5 c0 c1 f0 f1 cl;obtain⟨c0,c1⟩:=h7.cells2;have cl:=h7.lt;obtain⟨d0,d1⟩:=h7.right.cells2;have dl:=h7.right.lt;go_wp2_with fail
  go_ret;exact⟨rfl,ap h7.right.right x7⟩
 have hm300:m≤300:=by omega
 have q1:¬(300:Int)<m:=by omega
 have HN:=f (fun w (h2:Arr w B m 9 (L.map Stp.cells))=>vb K n (by omega) (by omega) (by omega) (by omega) B m d L w h2 hLO.out (by omega));have HNR:=f (fun R w h=>yr K n (by omega) (by omega) (by omega) (by omega) R w h);have HRR:=f (fun b R W h hx=>zW b (Sc.new K n) [] (Safe.new (cores:=K) (n:=n) (by omega) (by omega) (by omega) (by omega)).1 B m d L w hB.out hLO.out (by omega) R W h hx);clear hbig hbad hm300;go_enter func7,ntmps7;go_wp2_with fail
 refine(HB.out _).mono ?_;rintro e w1 ⟨rfl,hb⟩;have h1:=h0.below hb;have x1:=x0.below hb;clear h0 x0 hb HB;go_wp2_with fail
 refine(HN.out _ (hB.out.old1 h1 x1)).mono ?_;rintro e w3 ⟨A1,c1,rfl,h3,x3⟩;have h4:=(h1.onto' h3).new #[g j 0,g j 0] 27;have x4:=(x1.trans x3).alloc (.cells #[g j 0,g j 0] 27);clear h1 x1 h3 x3 HN;go_upto_region 6 with fail;generalize w3.alloc _=w4 at*
 generalize w3.heap.size=X1 at*
 go_wp2_with fail
 refine(HSF.out _).mono ?_;rintro e w5 ⟨rfl,hb⟩;have h6:Has _ (aa X1 #[g j 0,g j 0] 27*(aa w5.heap.size #[g j 0,g j 0] 27*(fO (.slice A1 m c1) (cL (Sc.new K n) L)*a9 w w.heap.size))):=((h4.below hb).new #[g j 0,g j 0] 27).eq (by ac_rfl);have x6:=(x4.below hb).alloc (.cells #[g j 0,g j 0] 27);clear h4 x4 hb HSF;go_upto_region 7 with fail;generalize w5.alloc _=w6 at*
 generalize w5.heap.size=X2 at*
 obtain⟨c0,c1'⟩:=h6.cells2;have cl:=h6.lt;obtain⟨d0,d1⟩:=h6.right.cells2;have dl:=h6.right.lt;go_upto_region 13 with fail;clear c0 c1' cl d0 d1 dl;go_wp2_with fail
 refine(HNR.out _ _ h6).mono ?_;rintro e w7 ⟨b,rfl,h7,x7⟩;have h8:Has w7 (bV b (Sc.new K n)*((aa X1 #[g j 0,g j 0] 27*(aa X2 #[g j 0,g j 0] 27*fO (.slice A1 m c1) (cL (Sc.new K n) L)))*a9 w w.heap.size)):=h7.eq (by ac_rfl);have x8:=x6.trans x7;clear h6 x6 h7 x7 HNR;go_wp2_with fail
 refine(HRR.out b _ _ h8 x8).mono ?_;rintro e w9 ⟨A2,c2,rfl,h9,x9⟩;have HSE:=f (ii (cL (Sc.new K n) L) A1 A2 m c1 c2 w9 (iV (h9.eq (show _=fO (.slice A1 m c1) (cL (Sc.new K n) L)*(fO (.slice A2 m c2) (cL (Sc.new K n) L)*(bV b (d9 (Sc.new K n) L)*((aa X1 #[g j 0,g j 0] 27*(aa X2 #[g j 0,g j 0] 27))*a9 w w.heap.size))) by ac_rfl))) (iV h9));have h10:=h9.r3;have x10:=x8.trans x9;clear h8 x8 h9 x9 HRR;go_wp2_with fail
 refine HSE.out.mono ?_;rintro e w11 ⟨rfl,b11⟩;go_wp2_with fail
 go_ret;exact⟨rfl,ap (h10.below b11) (x10.below b11)⟩
end Go.Proofs.YtmfheghbgihdmaaGreat
