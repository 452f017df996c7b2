/- The law WatchNow: the walk. -/
import Derived.Test.YtmfheghbgihdmaaGreatWchB
import Derived.Test.YtmfheghbgihdmaaGreatWchT
import Derived.Test.YtmfheghbgihdmaaGreatTms
import Derived.Test.YtmfheghbgihdmaaGreatSpcO
import Derived.Test.YtmfheghbgihdmaaGreatMpRow
import Derived.Test.YtmfheghbgihdmaaGreatScF
namespace Go.Proofs.YtmfheghbgihdmaaGreat
open Option renaming none→b,some→o
open Go.Value renaming int→j,bool→D
open Go.IntKind renaming i64→l
open Go.Lib renaming hid→r
open Go.Addr renaming mk→u
open Int renaming eq_ofNat_of_zero_le→E
open Bool renaming true→F,false→I
open Go renaming World→J,Calls→M
open Tryz
open Go.RowKit
set_option maxRecDepth 100000
set_option maxHeartbeats 20000000 in
theorem nD(C N:Int)(B:Option Addr)(m d:Nat)(L:List Stp)(w:J)(_:cy C)(_:cy N)(h2:Arr w B m 9 (L.map Stp.cells))(hLo:∀x∈L,x.ok):
  M prog 5 #[j l C,j l N,.slice B m d] w (Pure (D F) w):=by
 have hm2:=h2.2.1;have hB:=r h2;have hL:=r (show L.length=m by simpa using h2.1);have hLO:=r hLo;clear h2 hLo;have h0:=aM w;have x0:=Ext.refl w;have HB:=r (fun w=>fY w);have HG:=r (fun w=>eP B m d 300 w);by_cases hbig:(300:Int)<m
 ·rw[decide_eq_true hbig] at HG
  go_enter func5,ntmps5;go_wp2_with fail
  refine(HB.out _).mono ?_;rintro e w1 ⟨rfl,hb⟩;go_wp2_with fail
  refine(HG.out _).mono ?_;rintro e w2 ⟨rfl,hw⟩;subst hw;go_wp2_with fail
  go_ret;exact⟨rfl,ap (h0.below hb) (x0.below hb)⟩
 rw[decide_eq_false hbig] at HG;by_cases hbad:C<1∨4<C∨N<1∨128<N
 ·have HN:=r (fun w=>ji C N hbad w)
  clear hbad;go_enter func5,ntmps5;go_wp2_with fail
  refine(HB.out _).mono ?_;rintro e w1 ⟨rfl,hb⟩;go_wp2_with fail
  refine(HG.out _).mono ?_;rintro e w2 ⟨rfl,hw⟩;subst hw;have h1:=h0.below hb;have x1:=x0.below hb;clear h0 x0 hb;go_wp2_with fail
  refine(HN.out _).mono ?_;rintro e w3 ⟨rfl,hb⟩;have h3:=(h1.below hb).new #[j l 1,j l (-1)] 27;have x3:=(x1.below hb).alloc (.cells #[j l 1,j l (-1)] 27);clear h1 x1 hb;go_upto_region 6 with fail;generalize w3.alloc _=w4 at*
  generalize w3.heap.size=X1 at*
  obtain⟨c0,c1⟩:=h3.cells2;have cl:=h3.lt;go_wp2_with fail
  go_ret;exact⟨rfl,ap h3.right x3⟩
 obtain⟨K,rfl⟩:=E (show 0≤C by omega);obtain⟨n,rfl⟩:=E (show 0≤N by omega);have HN:=r (fun R w h=>kO K n (by omega) (by omega) (by omega) (by omega) R w h);have HS0:Hid ((Wc.new K n).Ok []∧(Wc.new K n).σ.cs.length=K):=r (by obtain⟨a,_,c⟩:=Safe.new (cores:=K) (n:=n) (by omega) (by omega) (by omega) (by omega);exact⟨Wc.Ok.new (by omega) (by omega) (by omega) (by omega),c⟩);have HNT:=r (fun R w h=>uN R w h);have hm300:=r (show m≤300 by omega);have hK4:K≤4:=by omega
 have hmk:=fun w=>lJ K (by omega) w;clear hbad hbig;go_enter func5,ntmps5;go_wp2_with fail
 refine(HB.out _).mono ?_;rintro e w1 ⟨rfl,hb⟩;have h1:=h0.below hb;have x1:=x0.below hb;clear h0 x0 hb HB;go_wp2_with fail
 refine(HG.out _).mono ?_;rintro e w2 ⟨rfl,hw⟩;subst hw;clear HG;go_wp2_with fail
 refine(HN.out _ _ h1).mono ?_;rintro e w3 ⟨p,sp,rfl,h3,x3⟩;have h4:Has _ (aa w3.heap.size #[j l 0,j l 0] 27*(ar p sp [[]] 0 (List.replicate K 0)*(ah sp (Sc.new K n)*a9 w w.heap.size))):=h3.new #[j l 0,j l 0] 27;have x4:=(x1.trans x3).alloc (.cells #[j l 0,j l 0] 27);clear h1 x1 h3 x3 HN;go_upto_region 6 with fail;generalize w3.alloc _=w4 at*
 generalize w3.heap.size=X1 at*
 obtain⟨c0,c1⟩:=h4.cells2;have cl:=h4.lt;go_wp2_with fail
 refine(HNT.out _ _ h4).mono ?_;rintro e w5 ⟨t,rfl,h5,x5⟩;have x6:=(x4.trans x5).alloc (.cells (bn K (fun _=>j l 0)) 3);have h6:=lK (by omega) (h5.new (bn K (fun _=>j l 0)) 3);clear h4 x4 h5 x5 HNT c0 c1 cl;go_upto_region 10 with fail;generalize w5.alloc (.cells (bn K (fun _=>j l 0)) 3)=w6 at*
 generalize w5.heap.size=g at*
 have h10:Has w6 (ar p sp (Wc.new K n).H (Wc.new K n).f (Wc.new K n).since *(ah sp (Wc.new K n).σ*(aV t (Wc.new K n).H (Wc.new K n).f *(am (.slice (o (u g 0 b)) K K) (List.replicate K 0)*(aa X1 #[j l 0,j l 0] 27*a9 w w.heap.size))))):=h6.eq (show _=ar p sp [[]] 0 (List.replicate K 0)*(ah sp (Sc.new K n)*(aV t [[]] 0*(am (.slice (o (u g 0 b)) K K) (List.replicate K 0)*(aa X1 #[j l 0,j l 0] 27*a9 w w.heap.size)))) by ac_rfl);have HL0:Hid ((Wc.new K n).H.length ≤1+0):=r (Nat.le_refl _);clear h6 hmk;go_wp2_with fail
 generalize Wc.new K n=W0 at*
 have hG0:Hid ((List.replicate K (0:Int)).length =K):=r List.length_replicate;generalize List.replicate K (0:Int)=G0 at*
 go_loopw [11] (fun t11 wr=>∃(i:Nat) (W:Wc) (P:List Mp) (G:List Int),i≤m∧t11=j l i∧Hid (W.Ok P∧W.σ.cs.length=K)∧Hid (W.H.length≤1+i)∧Hid (G.length=K)∧Has wr (ar p sp W.H W.f W.since*(ah sp W.σ*(aV t W.H W.f*(am (.slice (o (u g 0 b)) K K) G*(aa X1 #[j l 0,j l 0] 27*a9 w w.heap.size)))))∧Ext w wr) (fun t11 _=>m - (intOf t11).toNat)
 case atStart=>exact⟨0,W0,[],G0,by omega,rfl,HS0,HL0,hG0,h10,x6⟩
 case round=>
  clear h10 x6 HS0 HL0 hG0;obtain⟨i,W1,P1,G,hi,rfl,hS1,hL1,hLen,hr,hx⟩:=hrel;by_cases hlt:i<m
  ·have hil:i<L.length:=by have:=hL.out;omega
   obtain⟨b',off,hb,-⟩:=(hB.out.old1 hr.right.right.r3 hx).stp hil;subst hb;obtain⟨y,hy⟩:∃y,L[i]=y:=⟨_,rfl⟩;have hyo:y.ok:=by rw[←hy];exact hLO.out _ (List.getElem_mem hil)
   have HD:=r (fun(w':J) (h:Has w' (a9 w w.heap.size)) (e:Ext w w')=>(hB.out.old1 h e).stpAt hil hy);clear hy;have hb1:W1.H.length≤999999:=by have:=hL1.out;have:=hm300.out;omega
   have hla:=hS1.out.1.hist.last;have HON:=r (fun R w h=>zR sp W1.σ R w h y.core);have HOK:=r hS1.out.1.hist.ok;have HB1:=r hb1;have HBU:=r (fun R w h=>wD sp W1.σ R w h);have HFR:Hid ((W1.act y).2.fin=F→(y.kind=4∨y.kind=5)∧0≤y.core∧y.core<K∧(W1.act y).2.code=0∧(Bk.ans (bE W1.σ.s 0) (lV W1.σ y)=(W1.act y).2.an∨(y.kind=4∧W1.σ.busy=F))):=r (fun hf=>by
    have h1:=hS1.out.1.safe.fin_right y hf;rw[hS1.out.2] at h1;refine⟨h1.1,h1.2.1,h1.2.2.1,h1.2.2.2.1,?_⟩;rcases h1.2.2.2.2.2.2 with h2|h2
    ·exact .inl h2
    ·exact .inr ⟨h2.1,h2.2.1⟩)
   have hok1:=r (hS1.out.1.hist.ok _ (List.mem_of_getLast? hla));have HIN:Hid (4≤y.kind→(W1.act y).2.code=0→0≤y.core∧y.core<K):=r (fun h hc=>by
    have h1:=qR (σ:=W1.σ) (x:=y) h hc;rw[hS1.out.2] at h1;exact h1)
   have HLA:Hid (lV W1.σ y=if y.kind=4 then y.a else W1.σ.acc y.core):=r rfl;have hai:cy y.a.page∧cy (W1.σ.acc y.core).page :=⟨hyo.2.2.2.1,oM hS1.out.1.safe.ok y.core⟩;have HW:Hid (∀R w,Has w (ar p sp W1.H W1.f W1.since*(ah sp W1.σ*R))→M prog 37 #[.pointer (o (u p 0 b)),.agg #[j l y.kind,j l y.core,j l y.m.page,j l y.m.size,j l y.m.frame,j l y.m.rights,j l y.a.page,j l y.a.kind,D y.a.user]] w
     (cN (.tuple #[(W1.act y).2.val,.agg #[j l 0,j l 0]]) (ar p sp (W1.act y).1.H (W1.act y).1.f (W1.act y).1.since*(ah sp (W1.act y).1.σ*R)) w)):=r (fun R w h=>ye p sp W1 P1 y hS1.out.1 hyo hb1 R w h)
   have HC:Hid (∀R w,Has w (aV t W1.H W1.f*R)→M prog 39 #[.pointer (o (u t 0 b)),.agg #[j l y.kind,j l y.core,j l y.m.page,j l y.m.size,j l y.m.frame,j l y.m.rights,j l y.a.page,j l y.a.kind,D y.a.user],(W1.act y).2.val] w
     (cN (.tuple #[]) (aV t (W1.act y).1.H (W1.act y).1.f*R) w)):=r (fun R w h=>nj t W1.H W1.f y (W1.act y).2 (bE W1.σ.s 0) hyo hla (hS1.out.1.hist.ok _ (List.mem_of_getLast? hla)) hb1 R w h)
   have HS2:Hid ((W1.act y).1.Ok (Safe.prevOf W1.σ P1 y)∧(W1.act y).1.σ.cs.length=K):=r ⟨hS1.out.1.act y,(hS1.out.1.safe.n_act y).2.trans hS1.out.2⟩;have HL2:Hid ((W1.act y).1.H.length≤1+(i+1)):=r (by have:=Wc.hist_len W1 y;have:=hL1.out;omega);unfold Ev.val at HW HC;obtain⟨k2,hk2,hkL,-⟩:=mT hla;replace hk2:=r hk2;replace hkL:=r hkL;clear hS1 hyo hb1 hla hL1;generalize W1.act y=z at*
   generalize Safe.prevOf W1.σ P1 y=P2 at*
   generalize lV W1.σ y=la at*
   obtain⟨W2,⟨ec,ef,⟨ea,eb,er⟩,ek⟩⟩:=z;obtain⟨yk,yc,ym,ya⟩:=y;dsimp only at*
   generalize W1.σ.acc yc=ac at*
   generalize W1.σ.on yc=on1 at*
   obtain⟨bz,hbz⟩:∃z,W1.σ.busy=z:=⟨_,rfl⟩;rw[hbz] at HBU HFR;clear hbz;generalize bE W1.σ.s 0=MM at*
   have hlt':(i:Int)<m:=by omega
   have hi0:(0:Int)≤i:=by omega
   obtain⟨dl,d0,d1,d2,d3,d4,d5,d6,d7,d8⟩:=HD.out _ hr.right.right.r3 hx;have pl:=(ct hr).1;have pc:=(ct hr).2;go_upto_region 14 with fail;go_wp2_with fail
   refine(HON.out _ _ hr.p2).mono ?_;rintro e w3 ⟨rfl,b3⟩;have h3:Has _ (ar p sp W1.H W1.f W1.since*(ah sp W1.σ*(aa w3.heap.size #[j l ac.page,j l ac.kind,D ac.user] 41*(aV t W1.H W1.f*(am (.slice (o (u g 0 b)) K K) G*(aa X1 #[j l 0,j l 0] 27*a9 w w.heap.size)))))):=((hr.below b3).new #[j l ac.page,j l ac.kind,D ac.user] 41).eq (by ac_rfl);have x3:=(hx.below b3).alloc (.cells #[j l ac.page,j l ac.kind,D ac.user] 41);clear hr hx b3 HON dl d0 d1 d2 d3 d4 d5 d6 d7 d8 pl pc;go_upto_region 15 with fail;generalize w3.alloc _=w4 at*
   generalize w3.heap.size=XA at*
   have pl:=(ct h3).1;have pc:=(ct h3).2;obtain⟨dl,d0,d1,d2,d3,d4,d5,d6,d7,d8⟩:=HD.out _ h3.right.right.right.r3 x3;go_wp2_with fail
   refine(HBU.out _ _ h3.p2).mono ?_;rintro e w4' ⟨rfl,hw⟩;replace hw:=hw.symm;subst hw;clear HBU;go_wp2_with fail
   refine(HW.out _ _ h3).mono ?_;rintro e w5 ⟨rfl,h5,x5⟩;have h6:Has _ (aa w5.heap.size #[j l ec,D ef,j l ea,j l eb,j l er,D ek] 36*(aa (w5.heap.size+1) #[j l 0,j l 0] 27*(aa XA #[j l ac.page,j l ac.kind,D ac.user] 41*(aV t W1.H W1.f*(am (.slice (o (u g 0 b)) K K) G*(ar p sp W2.H W2.f W2.since*(ah sp W2.σ*(aa X1 #[j l 0,j l 0] 27*a9 w w.heap.size)))))))):=((h5.new #[j l ec,D ef,j l ea,j l eb,j l er,D ek] 36).new #[j l 0,j l 0] 27).eq (by simp only[World.size_alloc]<;>ac_rfl);have x6:=((x3.trans x5).alloc (.cells #[j l ec,D ef,j l ea,j l eb,j l er,D ek] 36)).alloc (.cells #[j l 0,j l 0] 27);clear h3 x3 h5 x5 HW pl pc dl d0 d1 d2 d3 d4 d5 d6 d7 d8;go_upto_region 17 with fail;generalize (w5.alloc (.cells #[j l ec,D ef,j l ea,j l eb,j l er,D ek] 36)).alloc (.cells #[j l 0,j l 0] 27)=w6 at*
   generalize w5.heap.size+1=FX at*
   generalize w5.heap.size=EX at*
   obtain⟨dl,d0,d1,d2,d3,d4,d5,d6,d7,d8⟩:=HD.out _ h6.right.right.right.right.right.r3 x6;obtain⟨e0,e1,e2,e3,e4,e5⟩:=h6.cells6;have el:=h6.lt;obtain⟨cd,hcd⟩:∃z,decide (yk=4∧ec=0)=z:=⟨_,rfl⟩;obtain⟨a2,ha2⟩:∃z,(if yk=4∧ec=0 then ya else ac)=z:=⟨_,rfl⟩;have HA2:=r (show ef=F→la=a2 from fun hf=>by
    obtain⟨q1,_,_,q4,_⟩:=HFR.out hf;rw[HLA.out,←ha2];by_cases q:yk=4
    ·rw[if_pos q,if_pos ⟨q,q4⟩]
    ·rw[if_neg q,if_neg (fun h=>q h.1)])
   have hai2:cy a2.page:=by
    rw[←ha2];split
    ·exact hai.1
    ·exact hai.2
   have HAI:=r hai2;replace ha2:=r ha2;obtain⟨G2,hG2⟩:∃z,(if yk=4∧ec=0 then G.set yc.toNat (if bz=F then -1 else(W1.H.length:Int)) else G)=z:=⟨_,rfl⟩;have hLen2:Hid (G2.length=K):=r (by
    rw[←hG2];split
    ·rw[List.length_set];exact hLen.out
    ·exact hLen.out)
   have HG2:Hid (ef=F→yk=4→bz=F→∀(h:yc.toNat<G2.length),G2[yc.toNat]= -1):=r (fun hf h4 hb h=>by
    obtain⟨_,_,_,q4,_⟩:=HFR.out hf;have e1:G2=G.set yc.toNat (-1):=by rw[←hG2,if_pos ⟨h4,q4⟩,if_pos hb]
    rw[List.getElem_of_eq e1 h];exact List.getElem_set_self ..)
   replace hG2:=r hG2;clear hai hai2 HLA;go_cut [78] from 68 to 78 (fun s78 wx=>s78=D cd∧wx=w6)
   case first=>
    clear HC HS2 HL2 HD HFR HIN HA2 h6 ha2 hG2 HG2;by_cases q4:yk=4
    ·subst q4
     by_cases q0:ec=0
     ·subst q0
      obtain rfl:cd=F:=by rw[←hcd];rfl
      clear hcd;go_wp2_with fail
      go_meet
      case rel=>exact⟨rfl,rfl⟩
     ·obtain rfl:cd=I:=by rw[←hcd];exact decide_eq_false (fun h=>q0 h.2)
      have q0':(ec==0)=I:=by simpa using q0
      clear hcd q0;go_wp2_with fail
      go_meet
      case rel=>exact⟨rfl,rfl⟩
    ·obtain rfl:cd=I:=by rw[←hcd];exact decide_eq_false (fun h=>q4 h.1)
     have q4':(yk==4)=I:=by simpa using q4
     clear hcd q4;go_wp2_with fail
     go_meet
     case rel=>exact⟨rfl,rfl⟩
   case rest=>
    obtain⟨rfl,hw⟩:=hcut;replace hw:=hw.symm;subst hw;go_upto_if 78 with fail;go_cut [] from 79 to 95 (fun wx=>Has wx (aa EX #[j l ec,D ef,j l ea,j l eb,j l er,D ek] 36*(aa XA #[j l a2.page,j l a2.kind,D a2.user] 41*(aV t W1.H W1.f*(am (.slice (o (u g 0 b)) K K) G2*(ar p sp W2.H W2.f W2.since*(ah sp W2.σ*(aa X1 #[j l 0,j l 0] 27*a9 w w.heap.size)))))))∧Ext w wx)
    case first=>
     clear HC HS2 HL2 HFR HA2 HG2;have h7:Has w6 (aa XA #[j l ac.page,j l ac.kind,D ac.user] 41*(aa EX #[j l ec,D ef,j l ea,j l eb,j l er,D ek] 36*(aV t W1.H W1.f*(am (.slice (o (u g 0 b)) K K) G*(ar p sp W2.H W2.f W2.since*(ah sp W2.σ*(aa X1 #[j l 0,j l 0] 27*a9 w w.heap.size))))))):=(h6.eq (show _=aa FX #[j l 0,j l 0] 27*(aa XA #[j l ac.page,j l ac.kind,D ac.user] 41*(aa EX #[j l ec,D ef,j l ea,j l eb,j l er,D ek] 36*(aV t W1.H W1.f*(am (.slice (o (u g 0 b)) K K) G*(ar p sp W2.H W2.f W2.since*(ah sp W2.σ*(aa X1 #[j l 0,j l 0] 27*a9 w w.heap.size))))))) by ac_rfl)).right;cases cd with
     |false=>
      have hn:=of_decide_eq_false hcd;have e1':G2=G:=by rw[←hG2.out,if_neg hn]
      have e2':a2=ac:=by rw[←ha2.out,if_neg hn]
      have hE:Has w6 (aa EX #[j l ec,D ef,j l ea,j l eb,j l er,D ek] 36*(aa XA #[j l a2.page,j l a2.kind,D a2.user] 41*(aV t W1.H W1.f*(am (.slice (o (u g 0 b)) K K) G2*(ar p sp W2.H W2.f W2.since*(ah sp W2.σ*(aa X1 #[j l 0,j l 0] 27*a9 w w.heap.size))))))):=by
       rw[e1',e2'];exact h7.p2
      clear HIN HD ha2 hG2 hn e1' e2' h6 h7;go_wp2_with fail
      go_meet
      case rel=>exact⟨hE,x6⟩
     |true=>
      obtain⟨rfl,rfl⟩:=of_decide_eq_true hcd;obtain⟨q0,q1⟩:=HIN.out (by omega) rfl;have e1':G2=G.set yc.toNat (if bz=F then -1 else(W1.H.length:Int)):=by rw[←hG2.out,if_pos ⟨rfl,rfl⟩]
      have e2':a2=ya:=by rw[←ha2.out,if_pos ⟨rfl,rfl⟩]
      obtain⟨k,rfl⟩:=E q0;have hkK:k<G.length:=by rw[hLen.out];omega
      have hkK':(k:Int)<K:=by omega
      have hk0:¬(k:Int)<0:=by omega
      rw[Int.toNat_natCast] at e1';replace e1':=r e1';replace e2':=r e2';clear HIN HD ha2 hG2 hcd h6 q0 q1;obtain⟨g0,g1,g2⟩:=h7.frees3;obtain⟨s0,s1,s2⟩:=h7.cells3;have gl:=h7.lt;go_upto_region 19 with fail;have h8:=h7.set3 (j l ya.page) (j l ya.kind) (D ya.user);have x8:=((x6.set (u XA 0 b) (j l ya.page)).set (u XA 1 b) (j l ya.kind)).set (u XA 2 b) (D ya.user);clear d0 d1 d2 d3 d4 d5 d6 d7 d8 dl e0 e1 e2 e3 e4 e5 el g0 g1 g2 s0 s1 s2 gl h7 x6;generalize ((w6.setCell (u XA 0 b) (j l ya.page)).setCell (u XA 1 b) (j l ya.kind)).setCell (u XA 2 b) (D ya.user)=w8 at*
      obtain⟨y1,hy1,h9⟩:=dK (h8.eq (show _=aV t W1.H W1.f*(am (.slice (o (u g 0 b)) K K) G*(aa XA #[j l ya.page,j l ya.kind,D ya.user] 41*(aa EX #[j l 0,D ef,j l ea,j l eb,j l er,D ek] 36*(ar p sp W2.H W2.f W2.since*(ah sp W2.σ*(aa X1 #[j l 0,j l 0] 27*a9 w w.heap.size)))))) by ac_rfl));have HT1:=r (fun(w':J) (R':ae) (h:Has w' (bt t W1.H W1.f y1 R'))=>dz hy1 h);have t0:=(show Has w8 (aa t #[.slice y1.A y1.bs.length y1.c,j l W1.f] 87*_) from h9).cell 0;rw[hy1] at t0;have tl:=(show Has w8 (aa t #[.slice y1.A y1.bs.length y1.c,j l W1.f] 87*_) from h9).lt;have h10:Has w8 (am (.slice (o (u g 0 b)) G.length K) G*bt t W1.H W1.f y1 (aa XA #[j l ya.page,j l ya.kind,D ya.user] 41*(aa EX #[j l 0,D ef,j l ea,j l eb,j l er,D ek] 36*(ar p sp W2.H W2.f W2.since*(ah sp W2.σ*(aa X1 #[j l 0,j l 0] 27*a9 w w.heap.size)))))):=h9.eq (by unfold bt;rw[hLen.out];ac_rfl);obtain⟨g',hg',gl,gc,gf,hset⟩:=jS (o (u g 0 b)) h10 hkK (W1.H.length:Int);injection hg' with hg'
      injection hg' with hg'
      subst hg';have x9:=x8.set (u g k b) (j l W1.H.length);clear h8 h9 h10 x8 hy1;cases bz with
      |false=>
       have hE:Has (w8.setCell (u g k b) (j l W1.H.length)) (aa EX #[j l 0,D ef,j l ea,j l eb,j l er,D ek] 36*(aa XA #[j l a2.page,j l a2.kind,D a2.user] 41*(aV t W1.H W1.f*(am (.slice (o (u g 0 b)) K K) G2*(ar p sp W2.H W2.f W2.since*(ah sp W2.σ*(aa X1 #[j l 0,j l 0] 27*a9 w w.heap.size))))))):=by
        have h11:=HT1.out _ (am (.slice (o (u g 0 b)) K K) (G.set k (W1.H.length:Int))*(aa XA #[j l ya.page,j l ya.kind,D ya.user] 41*(aa EX #[j l 0,D ef,j l ea,j l eb,j l er,D ek] 36*(ar p sp W2.H W2.f W2.since*(ah sp W2.σ*(aa X1 #[j l 0,j l 0] 27*a9 w w.heap.size)))))) (hset.eq (by rw[hLen.out];unfold bt;ac_rfl));rw[e2'.out,e1'.out];exact h11.eq (by rw[if_neg (by simp)];ac_rfl)
       clear hset HT1 e1' e2';go_wp2_with fail
       go_meet
       case rel=>exact⟨hE,x9⟩
      |true=>
       go_upto_region 20 with fail;generalize w8.setCell (u g k b) (j l W1.H.length)=w9 at*
       have h12:Has w9 (am (.slice (o (u g 0 b)) (G.set k (W1.H.length:Int)).length K) (G.set k (W1.H.length:Int))*bt t W1.H W1.f y1 (aa XA #[j l ya.page,j l ya.kind,D ya.user] 41*(aa EX #[j l 0,D ef,j l ea,j l eb,j l er,D ek] 36*(ar p sp W2.H W2.f W2.since*(ah sp W2.σ*(aa X1 #[j l 0,j l 0] 27*a9 w w.heap.size)))))):=hset.eq (by rw[List.length_set]);clear t0 tl gl gc gf hset;obtain⟨g',hg',gl,gc,gf,hset⟩:=jS (o (u g 0 b)) h12 (show k< (G.set k (W1.H.length:Int)).length by rw[List.length_set];exact hkK) (-1:Int);injection hg' with hg'
       injection hg' with hg'
       subst hg';have x10:=x9.set (u g k b) (j l (-1));have hE:Has (w9.setCell (u g k b) (j l (-1))) (aa EX #[j l 0,D ef,j l ea,j l eb,j l er,D ek] 36*(aa XA #[j l a2.page,j l a2.kind,D a2.user] 41*(aV t W1.H W1.f*(am (.slice (o (u g 0 b)) K K) G2*(ar p sp W2.H W2.f W2.since*(ah sp W2.σ*(aa X1 #[j l 0,j l 0] 27*a9 w w.heap.size))))))):=by
        rw[List.set_set,List.length_set] at hset;have h11:=HT1.out _ (am (.slice (o (u g 0 b)) K K) (G.set k (-1:Int))*(aa XA #[j l ya.page,j l ya.kind,D ya.user] 41*(aa EX #[j l 0,D ef,j l ea,j l eb,j l er,D ek] 36*(ar p sp W2.H W2.f W2.since*(ah sp W2.σ*(aa X1 #[j l 0,j l 0] 27*a9 w w.heap.size)))))) (hset.eq (by rw[hLen.out];unfold bt;ac_rfl));rw[e2'.out,e1'.out];exact h11.eq (by rw[if_pos rfl];ac_rfl)
       clear hset h12 HT1 e1' e2';go_wp2_with fail
       go_meet
       case rel=>exact⟨hE,x10⟩
    case rest=>
     obtain⟨h7,x7⟩:=hcut;clear h6 x6 d0 d1 d2 d3 d4 d5 d6 d7 d8 dl e0 e1 e2 e3 e4 e5 el hcd HIN hG2;go_upto_region 22 with fail;go_cut [127] from 96 to 127 (fun s127 wx=>s127=D I∧Has wx (aV t W1.H W1.f*(ar p sp W2.H W2.f W2.since*(ah sp W2.σ*(aa EX #[j l ec,D ef,j l ea,j l eb,j l er,D ek] 36*(am (.slice (o (u g 0 b)) K K) G2*(aa X1 #[j l 0,j l 0] 27*a9 w w.heap.size))))))∧Ext w wx)
     case first=>
      clear HC HS2 HL2 HD;have hd:=h7.drew;have xd:=x7.drew;cases ef with
      |false=>
       as_aux_lemma=>
       have cE:=hd.cell 1;have hE:Has wc.drew (aV t W1.H W1.f*(ar p sp W2.H W2.f W2.since*(ah sp W2.σ*(aa EX #[j l ec,D I,j l ea,j l eb,j l er,D ek] 36*(am (.slice (o (u g 0 b)) K K) G2*(aa X1 #[j l 0,j l 0] 27*a9 w w.heap.size)))))):=(hd.eq (show _=aa XA #[j l a2.page,j l a2.kind,D a2.user] 41*(aV t W1.H W1.f*(ar p sp W2.H W2.f W2.since*(ah sp W2.σ*(aa EX #[j l ec,D I,j l ea,j l eb,j l er,D ek] 36*(am (.slice (o (u g 0 b)) K K) G2*(aa X1 #[j l 0,j l 0] 27*a9 w w.heap.size)))))) by ac_rfl)).right;clear hd h7 x7 HFR HA2 HG2;refine wp_region_held_drew (S:=fun w'=>w'.cell? (u EX 1 b)=o (D I)) (by kernel_rfl) cE (fun hHeld=> ?_);refine wpAnyH_take (i:=0) (v:= ?_) rfl (by kernel_rfl) (by kernel_rfl) (by kernel_rfl) (fun _ _ _ h=>h) (Or.inl ⟨by kernel_rfl,?_⟩) hHeld ?_;rotate_left;focus (intro wS hSw;(try dsimp only at hSw);go_simp;first|done|with_reducible rfl)
       try go_simp
       refine wpAnyH_take (i:=1) (v:= ?_) rfl (by kernel_rfl) (by kernel_rfl) (by kernel_rfl) (fun _ _ _ h=>h) (Or.inl ⟨by kernel_rfl,?_⟩) hHeld ?_;rotate_left;focus (intro wS hSw;(try dsimp only at hSw);go_simp;first|done|with_reducible rfl)
       try go_simp
       refine wpAnyH_take (i:=2) (v:= ?_) rfl (by kernel_rfl) (by kernel_rfl) (by kernel_rfl) (fun _ _ _ h=>h) (Or.inl ⟨by kernel_rfl,?_⟩) hHeld ?_;rotate_left;focus (intro wS hSw;(try dsimp only at hSw);go_simp;first|done|with_reducible rfl)
       try go_simp
       refine wpAnyH_take (i:=3) rfl (by kernel_rfl) (by kernel_rfl) (by kernel_rfl) (fun _ _ _ h=>h) (Or.inr ⟨by kernel_rfl,rfl⟩) hHeld ?_;try go_simp
       refine wpAnyH_take (i:=4) rfl (by kernel_rfl) (by kernel_rfl) (by kernel_rfl) (fun _ _ _ h=>h) (Or.inr ⟨by kernel_rfl,rfl⟩) hHeld ?_;try go_simp
       refine wpAnyH_take (i:=5) (v:= ?_) rfl (by kernel_rfl) (by kernel_rfl) (by kernel_rfl) (fun _ _ _ h=>h) (Or.inl ⟨by kernel_rfl,?_⟩) hHeld ?_;rotate_left;focus (intro wS hSw;(try dsimp only at hSw);go_simp;first|done|with_reducible rfl)
       try go_simp
       refine wpAnyH_take (i:=6) (v:= ?_) rfl (by kernel_rfl) (by kernel_rfl) (by kernel_rfl) (fun _ _ _ h=>h) (Or.inl ⟨by kernel_rfl,?_⟩) hHeld ?_;rotate_left;focus (intro wS hSw;(try dsimp only at hSw);go_simp;first|done|with_reducible rfl)
       try go_simp
       refine wpAnyH_take (i:=7) rfl (by kernel_rfl) (by kernel_rfl) (by kernel_rfl) (fun _ _ _ h=>h) (Or.inr ⟨by kernel_rfl,rfl⟩) hHeld ?_;try go_simp
       refine wpAnyH_take (i:=8) rfl (by kernel_rfl) (by kernel_rfl) (by kernel_rfl) (fun _ _ _ h=>h) (Or.inr ⟨by kernel_rfl,rfl⟩) hHeld ?_;try go_simp
       refine wpAnyH_take (i:=9) rfl (by kernel_rfl) (by kernel_rfl) (by kernel_rfl) (fun _ _ _ h=>h) (Or.inr ⟨by kernel_rfl,rfl⟩) hHeld ?_;try go_simp
       refine wpAnyH_take (i:=10) (v:= ?_) rfl (by kernel_rfl) (by kernel_rfl) (by kernel_rfl) (fun _ _ _ h=>h) (Or.inl ⟨by kernel_rfl,?_⟩) hHeld ?_;rotate_left;focus (intro wS hSw;(try dsimp only at hSw);go_simp;first|done|with_reducible rfl)
       try go_simp
       refine wpAnyH_take (i:=11) (v:= ?_) rfl (by kernel_rfl) (by kernel_rfl) (by kernel_rfl) (fun _ _ _ h=>h) (Or.inl ⟨by kernel_rfl,?_⟩) hHeld ?_;rotate_left;focus (intro wS hSw;(try dsimp only at hSw);go_simp;first|done|with_reducible rfl)
       try go_simp
       refine wpAnyH_take (i:=12) rfl (by kernel_rfl) (by kernel_rfl) (by kernel_rfl) (fun _ _ _ h=>h) (Or.inr ⟨by kernel_rfl,rfl⟩) hHeld ?_;try go_simp
       refine wpAnyH_take (i:=13) rfl (by kernel_rfl) (by kernel_rfl) (by kernel_rfl) (fun _ _ _ h=>h) (Or.inr ⟨by kernel_rfl,rfl⟩) hHeld ?_;try go_simp
       refine wpAnyH_take (i:=14) rfl (by kernel_rfl) (by kernel_rfl) (by kernel_rfl) (fun _ _ _ h=>h) (Or.inr ⟨by kernel_rfl,rfl⟩) hHeld ?_;try go_simp
       refine wpAnyH_take (i:=15) rfl (by kernel_rfl) (by kernel_rfl) (by kernel_rfl) (fun _ _ _ h=>h) (Or.inr ⟨by kernel_rfl,rfl⟩) hHeld ?_;try go_simp
       refine wpAnyH_take (i:=16) rfl (by kernel_rfl) (by kernel_rfl) (by kernel_rfl) (fun _ _ _ h=>h) (Or.inr ⟨by kernel_rfl,rfl⟩) hHeld ?_;try go_simp
       refine wpAnyH_take (i:=17) rfl (by kernel_rfl) (by kernel_rfl) (by kernel_rfl) (fun _ _ _ h=>h) (Or.inr ⟨by kernel_rfl,rfl⟩) hHeld ?_;try go_simp
       refine wpAnyH_take (i:=18) rfl (by kernel_rfl) (by kernel_rfl) (by kernel_rfl) (fun _ _ _ h=>h) (Or.inr ⟨by kernel_rfl,rfl⟩) hHeld ?_;try go_simp
       refine wpAnyH_take (i:=19) rfl (by kernel_rfl) (by kernel_rfl) (by kernel_rfl) (fun _ _ _ h=>h) (Or.inr ⟨by kernel_rfl,rfl⟩) hHeld ?_;try go_simp
       refine wpAnyH_take (i:=20) rfl (by kernel_rfl) (by kernel_rfl) (by kernel_rfl) (fun _ _ _ h=>h) (Or.inr ⟨by kernel_rfl,rfl⟩) hHeld ?_;try go_simp
       refine wpAnyH_take (i:=21) rfl (by kernel_rfl) (by kernel_rfl) (by kernel_rfl) (fun _ _ _ h=>h) (Or.inr ⟨by kernel_rfl,rfl⟩) hHeld ?_;try go_simp
       refine wpAnyH_take (i:=22) (v:= ?_) rfl (by kernel_rfl) (by kernel_rfl) (by kernel_rfl) (fun _ _ _ h=>h) (Or.inl ⟨by kernel_rfl,?_⟩) hHeld ?_;rotate_left;focus (intro wS hSw;(try dsimp only at hSw);go_simp;first|done|with_reducible rfl)
       try go_simp
       refine wpAnyH_take (i:=23) (v:= ?_) rfl (by kernel_rfl) (by kernel_rfl) (by kernel_rfl) (fun _ _ _ h=>h) (Or.inl ⟨by kernel_rfl,?_⟩) hHeld ?_;rotate_left;focus (intro wS hSw;(try dsimp only at hSw);go_simp;first|done|with_reducible rfl)
       try go_simp
       refine wpAnyH_take (i:=24) rfl (by kernel_rfl) (by kernel_rfl) (by kernel_rfl) (fun _ _ _ h=>h) (Or.inr ⟨by kernel_rfl,rfl⟩) hHeld ?_;try go_simp
       refine wpAnyH_take (i:=25) rfl (by kernel_rfl) (by kernel_rfl) (by kernel_rfl) (fun _ _ _ h=>h) (Or.inr ⟨by kernel_rfl,rfl⟩) hHeld ?_;try go_simp
       refine wpAnyH_take (i:=26) rfl (by kernel_rfl) (by kernel_rfl) (by kernel_rfl) (fun _ _ _ h=>h) (Or.inr ⟨by kernel_rfl,rfl⟩) hHeld ?_;try go_simp
       refine wpAnyH_take (i:=27) rfl (by kernel_rfl) (by kernel_rfl) (by kernel_rfl) (fun _ _ _ h=>h) (Or.inr ⟨by kernel_rfl,rfl⟩) hHeld ?_;try go_simp
       refine wpAnyH_take (i:=28) rfl (by kernel_rfl) (by kernel_rfl) (by kernel_rfl) (fun _ _ _ h=>h) (Or.inr ⟨by kernel_rfl,rfl⟩) hHeld ?_;try go_simp
       refine wpAnyH_take (i:=29) rfl (by kernel_rfl) (by kernel_rfl) (by kernel_rfl) (fun _ _ _ h=>h) (Or.inr ⟨by kernel_rfl,rfl⟩) hHeld ?_;try go_simp
       refine wpAnyH_take (i:=30) rfl (by kernel_rfl) (by kernel_rfl) (by kernel_rfl) (fun _ _ _ h=>h) (Or.inr ⟨by kernel_rfl,rfl⟩) hHeld ?_;try go_simp
       refine wpAnyH_take (i:=31) (v:= ?_) rfl (by kernel_rfl) (by kernel_rfl) (by kernel_rfl) (fun _ _ _ h=>h) (Or.inl ⟨by kernel_rfl,?_⟩) hHeld ?_;rotate_left;focus (intro wS hSw;(try dsimp only at hSw);go_simp;first|done|with_reducible rfl)
       try go_simp
       refine wpAnyH_done (by kernel_rfl) ?_ _;go_wp2_with fail
       go_meet
       case rel=>exact⟨by first|rfl|simp,hE,xd⟩
      |true=>
       obtain⟨q5,q0,q1,q2,q6⟩:=HFR.out rfl;subst q2;obtain⟨k,rfl⟩:=E q0;have hkK:k<G2.length:=by rw[hLen2.out];omega
       have hkK':(k:Int)<K:=by omega
       have hk0:¬(k:Int)<0:=by omega
       have hk0':(0:Int)≤k:=by omega
       obtain⟨v,hv⟩:∃v,G2[k]=v:=⟨_,rfl⟩;have HB2:Hid (yk=4→bz=F→v= -1):=r (fun h4 hb=>hv.symm.trans (HG2.out rfl h4 hb hkK));obtain⟨y1,hy1,h9⟩:=dK (hd.eq (show _=aV t W1.H W1.f*(aa EX #[j l 0,D F,j l ea,j l eb,j l er,D ek] 36*(aa XA #[j l a2.page,j l a2.kind,D a2.user] 41*(am (.slice (o (u g 0 b)) K K) G2*(ar p sp W2.H W2.f W2.since*(ah sp W2.σ*(aa X1 #[j l 0,j l 0] 27*a9 w w.heap.size)))))) by ac_rfl));have HT1:=r (fun(w':J) (R':ae) (h:Has w' (bt t W1.H W1.f y1 R'))=>dz hy1 h);have HK:=r (fun(w':J) (h:Has w' (bt t W1.H W1.f y1 (aa EX #[j l 0,D F,j l ea,j l eb,j l er,D ek] 36*(aa XA #[j l a2.page,j l a2.kind,D a2.user] 41*(am (.slice (o (u g 0 b)) K K) G2*(ar p sp W2.H W2.f W2.since*(ah sp W2.σ*(aa X1 #[j l 0,j l 0] 27*a9 w w.heap.size))))))))=>(by
        unfold bt at h;have t0:=h.cell 0;rw[hy1] at t0;have h1:=h.r3;obtain⟨u0,u1,u2,u3,u4,u5⟩:=h1.cells6;obtain⟨u6,u7,u8⟩:=h1.right.cells3;obtain⟨gb,hg,gl,gc⟩:=cM h1.right.right hkK;injection hg with hg
        injection hg with hg
        subst hg;rw[hv] at gc;exact⟨u1,u2,u3,u4,u6,u7,u8,gc,t0⟩:w'.cell? (u EX 1 b)=o (D F)∧w'.cell? (u EX 2 b)=o (j l ea)∧w'.cell? (u EX 3 b)=o (j l eb)∧w'.cell? (u EX 4 b)=o (j l er)∧w'.cell? (u XA 0 b)=o (j l a2.page)∧w'.cell? (u XA 1 b)=o (j l a2.kind)∧w'.cell? (u XA 2 b)=o (D a2.user)∧w'.cell? (u g k b)=o (j l v)∧w'.cell? (u t 0 b)=o (.slice y1.A W1.H.length y1.c)))
       have gl:g<wc.drew.heap.size:=by
        unfold bt at h9;obtain⟨gb,hg,gl,gc⟩:=cM h9.right.right.r3 hkK;injection hg with hg
        injection hg with hg
        subst hg;exact gl
       have xal:=hd.right.lt;have exl:=hd.lt;have tl:t<wc.drew.heap.size:=by unfold bt at h9;exact h9.lt
       have hHn:W1.H.length≤1000000:=by have:=HB1.out;omega
       by_cases hvn:v=W1.H.length
       ·as_aux_lemma=>
        have hans:Bk.ans MM a2=⟨ea,eb,er⟩:=by
         rw[←HA2.out rfl];rcases q6 with q6|⟨q6,q7⟩
         ·exact q6
         ·have:=HB2.out q6 q7
          omega
        obtain⟨p2,hp2⟩:∃p2,y1.bs[k2]? =o p2:=⟨y1.bs[k2]'(by have:=hk2.out;omega),List.getElem?_eq_getElem (by have:=hk2.out;omega)⟩;have HNW:=r (fun R w h=>zk t W1.H W1.f y1 p2 k2 hk2.out hy1 hp2 R w h);obtain⟨Q,hQ⟩:=jM hp2 hkL.out;have HAP:=r (fun(w':J) (R':ae) (h:Has w' (bt t W1.H W1.f y1 R'))=>(by
         unfold bt at h;rw[hQ] at h;have h1:=ry p2 MM a2 _ _ hok1.out HAI.out (h.eq (show _=be p2 MM*(R'*(Q*(aa t #[.slice y1.A y1.bs.length y1.c,j l W1.f] 87*ey (.slice y1.A y1.bs.length y1.c) y1.bs))) by ac_rfl));rw[hans] at h1;exact h1:M prog 41 #[.pointer (o (u p2 0 b)),.agg #[j l a2.page,j l a2.kind,D a2.user]] w' (Pure (.agg #[j l ea,j l eb,j l er]) w')))
        subst hvn;clear hd h7 x7 HFR HA2 HG2 hy1 q0 q1 q5 q6 HB2 hv hQ hp2 hans;go_region_held3 (fun w'=>w'.cell? (u EX 1 b)=o (D F)∧w'.cell? (u EX 2 b)=o (j l ea)∧w'.cell? (u EX 3 b)=o (j l eb)∧w'.cell? (u EX 4 b)=o (j l er)∧w'.cell? (u XA 0 b)=o (j l a2.page)∧w'.cell? (u XA 1 b)=o (j l a2.kind)∧w'.cell? (u XA 2 b)=o (D a2.user)∧w'.cell? (u g k b)=o (j l (W1.H.length:Nat))∧w'.cell? (u t 0 b)=o (.slice y1.A W1.H.length y1.c)) (first|(with_reducible exact HK.out _ h9)|(with_reducible exact HK.out _ hP)|(with_reducible exact HK.out _ hF)|go_keep)
         (first
          |(go_at_call 40;(with_reducible refine(HNW.out _ _ h9).mono ?_);rintro e w9 ⟨rfl,b9⟩;have hP:=h9.below b9;have xP:=xd.below b9)
          |(go_at_call 41;(with_reducible refine(HAP.out _ _ hP).mono ?_);rintro e w10 ⟨rfl,b10⟩;have hF:=hP.below b10;have xF:=xP.below b10))
        all_goals
         go_wp2_with fail
         go_meet
         case rel=>exact⟨by first|rfl|simp,((HT1.out _ _ hF).eq (show _=aa XA #[j l a2.page,j l a2.kind,D a2.user] 41*(aV t W1.H W1.f*(ar p sp W2.H W2.f W2.since*(ah sp W2.σ*(aa EX #[j l 0,D F,j l ea,j l eb,j l er,D ek] 36*(am (.slice (o (u g 0 b)) K K) G2*(aa X1 #[j l 0,j l 0] 27*a9 w w.heap.size)))))) by ac_rfl)).right,xF⟩
       ·as_aux_lemma=>
        have hvn':(v==(W1.H.length:Int))=I:=by simpa using hvn
        have hE:=((HT1.out _ _ h9).eq (show _=aa XA #[j l a2.page,j l a2.kind,D a2.user] 41*(aV t W1.H W1.f*(ar p sp W2.H W2.f W2.since*(ah sp W2.σ*(aa EX #[j l 0,D F,j l ea,j l eb,j l er,D ek] 36*(am (.slice (o (u g 0 b)) K K) G2*(aa X1 #[j l 0,j l 0] 27*a9 w w.heap.size)))))) by ac_rfl)).right;have hS:=HK.out _ h9;clear hd h7 x7 HFR HA2 HG2 hy1 q0 q1 q5 q6 HB2 hv hvn HK HT1 h9;refine wp_region_held_drew (S:=fun w'=>w'.cell? (u EX 1 b)=o (D F)∧w'.cell? (u EX 2 b)=o (j l ea)∧w'.cell? (u EX 3 b)=o (j l eb)∧w'.cell? (u EX 4 b)=o (j l er)∧w'.cell? (u XA 0 b)=o (j l a2.page)∧w'.cell? (u XA 1 b)=o (j l a2.kind)∧w'.cell? (u XA 2 b)=o (D a2.user)∧w'.cell? (u g k b)=o (j l v)∧w'.cell? (u t 0 b)=o (.slice y1.A W1.H.length y1.c)) (by kernel_rfl) hS (fun hHeld=> ?_);refine wpAnyH_take (i:=0) (v:= ?_) rfl (by kernel_rfl) (by kernel_rfl) (by kernel_rfl) (fun _ _ _ h=>h) (Or.inl ⟨by kernel_rfl,?_⟩) hHeld ?_;rotate_left;focus (intro wS hSw;(try dsimp only at hSw);go_simp;first|done|with_reducible rfl)
        try go_simp
        refine wpAnyH_take (i:=1) (v:= ?_) rfl (by kernel_rfl) (by kernel_rfl) (by kernel_rfl) (fun _ _ _ h=>h) (Or.inl ⟨by kernel_rfl,?_⟩) hHeld ?_;rotate_left;focus (intro wS hSw;(try dsimp only at hSw);go_simp;first|done|with_reducible rfl)
        try go_simp
        refine wpAnyH_take (i:=2) (v:= ?_) rfl (by kernel_rfl) (by kernel_rfl) (by kernel_rfl) (fun _ _ _ h=>h) (Or.inl ⟨by kernel_rfl,?_⟩) hHeld ?_;rotate_left;focus (intro wS hSw;(try dsimp only at hSw);go_simp;first|done|with_reducible rfl)
        try go_simp
        refine wpAnyH_take (i:=3) (v:= ?_) rfl (by kernel_rfl) (by kernel_rfl) (by kernel_rfl) (fun _ _ _ h=>h) (Or.inl ⟨by kernel_rfl,?_⟩) hHeld ?_;rotate_left;focus (intro wS hSw;(try dsimp only at hSw);go_simp;first|done|with_reducible rfl)
        try go_simp
        refine wpAnyH_take (i:=4) (v:= ?_) rfl (by kernel_rfl) (by kernel_rfl) (by kernel_rfl) (fun _ _ _ h=>h) (Or.inl ⟨by kernel_rfl,?_⟩) hHeld ?_;rotate_left;focus (intro wS hSw;(try dsimp only at hSw);go_simp;first|done|with_reducible rfl)
        try go_simp
        refine wpAnyH_take (i:=5) (v:= ?_) rfl (by kernel_rfl) (by kernel_rfl) (by kernel_rfl) (fun _ _ _ h=>h) (Or.inl ⟨by kernel_rfl,?_⟩) hHeld ?_;rotate_left;focus (intro wS hSw;(try dsimp only at hSw);go_simp;first|done|with_reducible rfl)
        try go_simp
        refine wpAnyH_take (i:=6) (v:= ?_) rfl (by kernel_rfl) (by kernel_rfl) (by kernel_rfl) (fun _ _ _ h=>h) (Or.inl ⟨by kernel_rfl,?_⟩) hHeld ?_;rotate_left;focus (intro wS hSw;(try dsimp only at hSw);go_simp;first|done|with_reducible rfl)
        try go_simp
        refine wpAnyH_take (i:=7) (v:= ?_) rfl (by kernel_rfl) (by kernel_rfl) (by kernel_rfl) (fun _ _ _ h=>h) (Or.inl ⟨by kernel_rfl,?_⟩) hHeld ?_;rotate_left;focus (intro wS hSw;(try dsimp only at hSw);go_simp;first|done|with_reducible rfl)
        try go_simp
        refine wpAnyH_take (i:=8) (v:= ?_) rfl (by kernel_rfl) (by kernel_rfl) (by kernel_rfl) (fun _ _ _ h=>h) (Or.inl ⟨by kernel_rfl,?_⟩) hHeld ?_;rotate_left;focus (intro wS hSw;(try dsimp only at hSw);go_simp;first|done|with_reducible rfl)
        try go_simp
        refine wpAnyH_take (i:=9) (v:= ?_) rfl (by kernel_rfl) (by kernel_rfl) (by kernel_rfl) (fun _ _ _ h=>h) (Or.inl ⟨by kernel_rfl,?_⟩) hHeld ?_;rotate_left;focus (intro wS hSw;(try dsimp only at hSw);go_simp;first|done|with_reducible rfl)
        try go_simp
        refine wpAnyH_take (i:=10) (v:= ?_) rfl (by kernel_rfl) (by kernel_rfl) (by kernel_rfl) (fun _ _ _ h=>h) (Or.inl ⟨by kernel_rfl,?_⟩) hHeld ?_;rotate_left;focus (intro wS hSw;(try dsimp only at hSw);go_simp;first|done|with_reducible rfl)
        try go_simp
        refine wpAnyH_take (i:=11) (v:= ?_) rfl (by kernel_rfl) (by kernel_rfl) (by kernel_rfl) (fun _ _ _ h=>h) (Or.inl ⟨by kernel_rfl,?_⟩) hHeld ?_;rotate_left;focus (intro wS hSw;(try dsimp only at hSw);go_simp;first|done|with_reducible rfl)
        try go_simp
        refine wpAnyH_take (i:=12) (v:= ?_) rfl (by kernel_rfl) (by kernel_rfl) (by kernel_rfl) (fun _ _ _ h=>h) (Or.inl ⟨by kernel_rfl,?_⟩) hHeld ?_;rotate_left;focus (intro wS hSw;(try dsimp only at hSw);go_simp;first|done|with_reducible rfl)
        try go_simp
        refine wpAnyH_take (i:=13) (v:= ?_) rfl (by kernel_rfl) (by kernel_rfl) (by kernel_rfl) (fun _ _ _ h=>h) (Or.inl ⟨by kernel_rfl,?_⟩) hHeld ?_;rotate_left;focus (intro wS hSw;(try dsimp only at hSw);go_simp;first|done|with_reducible rfl)
        try go_simp
        refine wpAnyH_take (i:=14) (v:= ?_) rfl (by kernel_rfl) (by kernel_rfl) (by kernel_rfl) (fun _ _ _ h=>h) (Or.inl ⟨by kernel_rfl,?_⟩) hHeld ?_;rotate_left;focus (intro wS hSw;(try dsimp only at hSw);go_simp;first|done|with_reducible rfl)
        try go_simp
        refine wpAnyH_take (i:=15) (v:= ?_) rfl (by kernel_rfl) (by kernel_rfl) (by kernel_rfl) (fun _ _ _ h=>h) (Or.inl ⟨by kernel_rfl,?_⟩) hHeld ?_;rotate_left;focus (intro wS hSw;(try dsimp only at hSw);go_simp;first|done|with_reducible rfl)
        try go_simp
        refine wpAnyH_take (i:=16) (v:= ?_) rfl (by kernel_rfl) (by kernel_rfl) (by kernel_rfl) (fun _ _ _ h=>h) (Or.inl ⟨by kernel_rfl,?_⟩) hHeld ?_;rotate_left;focus (intro wS hSw;(try dsimp only at hSw);go_simp;first|done|with_reducible rfl)
        try go_simp
        refine wpAnyH_take (i:=17) (v:= ?_) rfl (by kernel_rfl) (by kernel_rfl) (by kernel_rfl) (fun _ _ _ h=>h) (Or.inl ⟨by kernel_rfl,?_⟩) hHeld ?_;rotate_left;focus (intro wS hSw;(try dsimp only at hSw);go_simp;first|done|with_reducible rfl)
        try go_simp
        refine wpAnyH_take (i:=18) (v:= ?_) rfl (by kernel_rfl) (by kernel_rfl) (by kernel_rfl) (fun _ _ _ h=>h) (Or.inl ⟨by kernel_rfl,?_⟩) hHeld ?_;rotate_left;focus (intro wS hSw;(try dsimp only at hSw);go_simp;first|done|with_reducible rfl)
        try go_simp
        refine wpAnyH_take (i:=19) (v:= ?_) rfl (by kernel_rfl) (by kernel_rfl) (by kernel_rfl) (fun _ _ _ h=>h) (Or.inl ⟨by kernel_rfl,?_⟩) hHeld ?_;rotate_left;focus (intro wS hSw;(try dsimp only at hSw);go_simp;first|done|with_reducible rfl)
        try go_simp
        refine wpAnyH_take (i:=20) (v:= ?_) rfl (by kernel_rfl) (by kernel_rfl) (by kernel_rfl) (fun _ _ _ h=>h) (Or.inl ⟨by kernel_rfl,?_⟩) hHeld ?_;rotate_left;focus (intro wS hSw;(try dsimp only at hSw);go_simp;first|done|with_reducible rfl)
        try go_simp
        refine wpAnyH_take (i:=21) (v:= ?_) rfl (by kernel_rfl) (by kernel_rfl) (by kernel_rfl) (fun _ _ _ h=>h) (Or.inl ⟨by kernel_rfl,?_⟩) hHeld ?_;rotate_left;focus (intro wS hSw;(try dsimp only at hSw);go_simp;first|done|with_reducible rfl)
        try go_simp
        refine wpAnyH_take (i:=22) (v:= ?_) rfl (by kernel_rfl) (by kernel_rfl) (by kernel_rfl) (fun _ _ _ h=>h) (Or.inl ⟨by kernel_rfl,?_⟩) hHeld ?_;rotate_left;focus (intro wS hSw;(try dsimp only at hSw);go_simp;first|done|with_reducible rfl)
        try go_simp
        refine wpAnyH_take (i:=23) (v:= ?_) rfl (by kernel_rfl) (by kernel_rfl) (by kernel_rfl) (fun _ _ _ h=>h) (Or.inl ⟨by kernel_rfl,?_⟩) hHeld ?_;rotate_left;focus (intro wS hSw;(try dsimp only at hSw);go_simp;first|done|with_reducible rfl)
        try go_simp
        refine wpAnyH_take (i:=24) rfl (by kernel_rfl) (by kernel_rfl) (by kernel_rfl) (fun _ _ _ h=>h) (Or.inr ⟨by kernel_rfl,rfl⟩) hHeld ?_;try go_simp
        refine wpAnyH_take (i:=25) rfl (by kernel_rfl) (by kernel_rfl) (by kernel_rfl) (fun _ _ _ h=>h) (Or.inr ⟨by kernel_rfl,rfl⟩) hHeld ?_;try go_simp
        refine wpAnyH_take (i:=26) rfl (by kernel_rfl) (by kernel_rfl) (by kernel_rfl) (fun _ _ _ h=>h) (Or.inr ⟨by kernel_rfl,rfl⟩) hHeld ?_;try go_simp
        refine wpAnyH_take (i:=27) rfl (by kernel_rfl) (by kernel_rfl) (by kernel_rfl) (fun _ _ _ h=>h) (Or.inr ⟨by kernel_rfl,rfl⟩) hHeld ?_;try go_simp
        refine wpAnyH_take (i:=28) rfl (by kernel_rfl) (by kernel_rfl) (by kernel_rfl) (fun _ _ _ h=>h) (Or.inr ⟨by kernel_rfl,rfl⟩) hHeld ?_;try go_simp
        refine wpAnyH_take (i:=29) rfl (by kernel_rfl) (by kernel_rfl) (by kernel_rfl) (fun _ _ _ h=>h) (Or.inr ⟨by kernel_rfl,rfl⟩) hHeld ?_;try go_simp
        refine wpAnyH_take (i:=30) rfl (by kernel_rfl) (by kernel_rfl) (by kernel_rfl) (fun _ _ _ h=>h) (Or.inr ⟨by kernel_rfl,rfl⟩) hHeld ?_;try go_simp
        refine wpAnyH_take (i:=31) (v:= ?_) rfl (by kernel_rfl) (by kernel_rfl) (by kernel_rfl) (fun _ _ _ h=>h) (Or.inl ⟨by kernel_rfl,?_⟩) hHeld ?_;rotate_left;focus (intro wS hSw;(try dsimp only at hSw);go_simp;first|done|with_reducible rfl)
        try go_simp
        refine wpAnyH_done (by kernel_rfl) ?_ _;go_wp2_with fail
        go_meet
        case rel=>exact⟨by first|rfl|simp,hE,xd⟩
     case rest=>
      obtain⟨rfl,h8,x8⟩:=hcut;clear h7 x7 HFR HA2 HAI HOK HB1 hLen ha2 HG2;have HK:=r (fun(w':J) (P1 P2 P3 P4:ae) (h:Has w' (P1*(P2*(P3*(aa EX #[j l ec,D ef,j l ea,j l eb,j l er,D ek] 36*(P4*(aa X1 #[j l 0,j l 0] 27*a9 w w.heap.size))))))) (e:Ext w w')=>(⟨h.r3.cells6,(HD.out _ h.right.right.right.r3 e).2⟩:(w'.cell? (u EX 0 b)=o (j l ec)∧w'.cell? (u EX 1 b)=o (D ef)∧w'.cell? (u EX 2 b)=o (j l ea)∧w'.cell? (u EX 3 b)=o (j l eb)∧w'.cell? (u EX 4 b)=o (j l er)∧w'.cell? (u EX 5 b)=o (D ek))∧(w'.cell? ⟨b',off+i*9,b⟩=o (j l yk)∧w'.cell? ⟨b',off+i*9+1,b⟩=o (j l yc)∧w'.cell? ⟨b',off+i*9+2,b⟩=o (j l ym.page)∧w'.cell? ⟨b',off+i*9+3,b⟩=o (j l ym.size)∧w'.cell? ⟨b',off+i*9+4,b⟩=o (j l ym.frame)∧w'.cell? ⟨b',off+i*9+5,b⟩=o (j l ym.rights)∧w'.cell? ⟨b',off+i*9+6,b⟩=o (j l ya.page)∧w'.cell? ⟨b',off+i*9+7,b⟩=o (j l ya.kind)∧w'.cell? ⟨b',off+i*9+8,b⟩=o (D ya.user))));have dl:=(HD.out _ h8.right.right.right.r3 x8).1;have el:=h8.r3.lt;go_upto_region 24 with fail;have hd:=h8.drew;have xd:=x8.drew;go_region_held3 (fun w'=>(w'.cell? (u EX 0 b)=o (j l ec)∧w'.cell? (u EX 1 b)=o (D ef)∧w'.cell? (u EX 2 b)=o (j l ea)∧w'.cell? (u EX 3 b)=o (j l eb)∧w'.cell? (u EX 4 b)=o (j l er)∧w'.cell? (u EX 5 b)=o (D ek))∧(w'.cell? ⟨b',off+i*9,b⟩=o (j l yk)∧w'.cell? ⟨b',off+i*9+1,b⟩=o (j l yc)∧w'.cell? ⟨b',off+i*9+2,b⟩=o (j l ym.page)∧w'.cell? ⟨b',off+i*9+3,b⟩=o (j l ym.size)∧w'.cell? ⟨b',off+i*9+4,b⟩=o (j l ym.frame)∧w'.cell? ⟨b',off+i*9+5,b⟩=o (j l ym.rights)∧w'.cell? ⟨b',off+i*9+6,b⟩=o (j l ya.page)∧w'.cell? ⟨b',off+i*9+7,b⟩=o (j l ya.kind)∧w'.cell? ⟨b',off+i*9+8,b⟩=o (D ya.user))) (first|(with_reducible exact HK.out _ _ _ _ _ hd xd)|(with_reducible exact HK.out _ _ _ _ _ hP xP)|go_keep)
       (first
        |(go_at_call 39;(with_reducible refine(HC.out _ _ hd).mono ?_);rintro e w7 ⟨rfl,hP,x7⟩;have xP:=xd.trans x7))
      all_goals
       go_wp2_with fail
       go_roundw
       case rel=>exact⟨i+1,W2,P2,G2,by omega,by go_num,HS2,HL2,hLen2,(hP.eq (show _=aa EX #[j l ec,D ef,j l ea,j l eb,j l er,D ek] 36*(ar p sp W2.H W2.f W2.since*(ah sp W2.σ*(aV t W2.H W2.f*(am (.slice (o (u g 0 b)) K K) G2*(aa X1 #[j l 0,j l 0] 27*a9 w w.heap.size))))) by ac_rfl)).right,xP⟩
       case measure=>simp[intOf];omega
  ·obtain rfl:i=m:=by omega
   go_wp2_with fail
   go_ret;exact⟨rfl,ap hr.right.right.r3 hx⟩
end Go.Proofs.YtmfheghbgihdmaaGreat
