/- The law WatchTimes: the walk. -/
import Derived.Test.YtmfheghbgihdmaaGreatWchB
import Derived.Test.YtmfheghbgihdmaaGreatWchT
import Derived.Test.YtmfheghbgihdmaaGreatTms
import Derived.Test.YtmfheghbgihdmaaGreatSpcO
import Derived.Test.YtmfheghbgihdmaaGreatMpRow
import Derived.Test.YtmfheghbgihdmaaGreatScF
namespace Go.Proofs.YtmfheghbgihdmaaGreat
open Go.Value renaming int→b,bool→E
open Go.IntKind renaming i64→j
open Option renaming none→l,some→r
open Go.Lib renaming hid→o
open Go.Addr renaming mk→u
open Int renaming eq_ofNat_of_zero_le→D
open Go.Proofs.YtmfheghbgihdmaaGreat renaming Has→F,Ext→T,dl→U
open List renaming getElem?_eq_getElem→G
open Bool renaming true→I,false→M
open Go renaming World→J,Calls→O
open Tryz
open Go.RowKit
set_option maxRecDepth 100000
set_option maxHeartbeats 20000000 in
theorem l5(C N:Int)(B:Option Addr)(m d:Nat)(L:List Stp)(w:J)(_:cy C)(_:cy N)(h2:Arr w B m 9 (L.map Stp.cells))(hLo:∀x∈L,x.ok):
  O prog 4 #[b j C,b j N,.slice B m d] w (Pure (E I) w):=by
 have hm2:=h2.2.1;have hB:=o h2;have hL:=o (show L.length=m by simpa using h2.1);have hLO:=o hLo;clear h2 hLo;have h0:=aM w;have x0:=Ext.refl w;have HB:=o (fun w=>fY w);have HG:=o (fun w=>eP B m d 300 w);by_cases hbig:(300:Int)<m
 ·rw[decide_eq_true hbig] at HG
  go_enter func4,ntmps4;go_wp2_with fail
  refine(HB.out _).mono ?_;rintro e w1 ⟨rfl,hb⟩;go_wp2_with fail
  refine(HG.out _).mono ?_;rintro e w2 ⟨rfl,hw⟩;subst hw;go_wp2_with fail
  go_ret;exact⟨rfl,ap (h0.below hb) (x0.below hb)⟩
 rw[decide_eq_false hbig] at HG;by_cases hbad:C<1∨4<C∨N<1∨128<N
 ·have HN:=o (fun w=>ji C N hbad w)
  clear hbad;go_enter func4,ntmps4;go_wp2_with fail
  refine(HB.out _).mono ?_;rintro e w1 ⟨rfl,hb⟩;go_wp2_with fail
  refine(HG.out _).mono ?_;rintro e w2 ⟨rfl,hw⟩;subst hw;have h1:=h0.below hb;have x1:=x0.below hb;clear h0 x0 hb;go_wp2_with fail
  refine(HN.out _).mono ?_;rintro e w3 ⟨rfl,hb⟩;have h3:=(h1.below hb).new #[b j 1,b j (-1)] 27;have x3:=(x1.below hb).alloc (.cells #[b j 1,b j (-1)] 27);clear h1 x1 hb;go_upto_region 6 with fail;generalize w3.alloc _=w4 at*
  generalize w3.heap.size=X1 at*
  obtain⟨c0,c1⟩:=h3.cells2;have cl:=h3.lt;go_wp2_with fail
  go_ret;exact⟨rfl,ap h3.right x3⟩
 obtain⟨K,rfl⟩:=D (show 0≤C by omega);obtain⟨n,rfl⟩:=D (show 0≤N by omega);have HN:=o (fun R w h=>kO K n (by omega) (by omega) (by omega) (by omega) R w h);have HS0:Hid ((Wc.new K n).Ok []∧(Wc.new K n).σ.cs.length=K):=o (by obtain⟨a,_,c⟩:=Safe.new (cores:=K) (n:=n) (by omega) (by omega) (by omega) (by omega);exact⟨Wc.Ok.new (by omega) (by omega) (by omega) (by omega),c⟩);have HNT:=o (fun R w h=>uN R w h);have hm300:=o (show m≤300 by omega);have hK4:K≤4:=by omega
 have hmk:=fun w=>lJ K (by omega) w;clear hbad hbig;go_enter func4,ntmps4;go_wp2_with fail
 refine(HB.out _).mono ?_;rintro e w1 ⟨rfl,hb⟩;have h1:=h0.below hb;have x1:=x0.below hb;clear h0 x0 hb HB;go_wp2_with fail
 refine(HG.out _).mono ?_;rintro e w2 ⟨rfl,hw⟩;subst hw;clear HG;go_wp2_with fail
 refine(HN.out _ _ h1).mono ?_;rintro e w3 ⟨p,sp,rfl,h3,x3⟩;have h4:F _ (aa w3.heap.size #[b j 0,b j 0] 27*(ar p sp [[]] 0 (List.replicate K 0)*(ah sp (Sc.new K n)*a9 w w.heap.size))):=h3.new #[b j 0,b j 0] 27;have x4:=(x1.trans x3).alloc (.cells #[b j 0,b j 0] 27);clear h1 x1 h3 x3 HN;go_upto_region 6 with fail;generalize w3.alloc _=w4 at*
 generalize w3.heap.size=X1 at*
 obtain⟨c0,c1⟩:=h4.cells2;have cl:=h4.lt;go_wp2_with fail
 refine(HNT.out _ _ h4).mono ?_;rintro e w5 ⟨t,rfl,h5,x5⟩;have x6:=(x4.trans x5).alloc (.cells (bn K (fun _=>b j 0)) 3);have h6:=lK (by omega) (h5.new (bn K (fun _=>b j 0)) 3);clear h4 x4 h5 x5 HNT c0 c1 cl;go_upto_region 10 with fail;generalize w5.alloc (.cells (bn K (fun _=>b j 0)) 3)=w6 at*
 generalize w5.heap.size=g at*
 have h10:F w6 (ar p sp (Wc.new K n).H (Wc.new K n).f (Wc.new K n).since *(ah sp (Wc.new K n).σ*(aV t (Wc.new K n).H (Wc.new K n).f *(am (.slice (r (u g 0 l)) K K) (Wc.new K n).since *(aa X1 #[b j 0,b j 0] 27*a9 w w.heap.size))))):=h6.eq (show _=ar p sp [[]] 0 (List.replicate K 0)*(ah sp (Sc.new K n)*(aV t [[]] 0*(am (.slice (r (u g 0 l)) K K) (List.replicate K 0)*(aa X1 #[b j 0,b j 0] 27*a9 w w.heap.size)))) by ac_rfl);have HL0:Hid ((Wc.new K n).H.length ≤1+0):=o (Nat.le_refl _);clear h6 hmk;go_wp2_with fail
 generalize Wc.new K n=W0 at*
 go_loopw [11] (fun t11 wr=>∃(i:Nat) (W:Wc) (P:List Mp),i≤m∧t11=b j i∧Hid (W.Ok P∧W.σ.cs.length=K)∧Hid (W.H.length≤1+i)∧F wr (ar p sp W.H W.f W.since*(ah sp W.σ*(aV t W.H W.f*(am (.slice (r (u g 0 l)) K K) W.since*(aa X1 #[b j 0,b j 0] 27*a9 w w.heap.size)))))∧T w wr) (fun t11 _=>m - (intOf t11).toNat)
 case atStart=>exact⟨0,W0,[],by omega,rfl,HS0,HL0,h10,x6⟩
 case round=>
  clear h10 x6 HS0 HL0;obtain⟨i,W1,P1,hi,rfl,hS1,hL1,hr,hx⟩:=hrel;by_cases hlt:i<m
  ·have hil:i<L.length:=by have:=hL.out;omega
   obtain⟨b',off,hb,-⟩:=(hB.out.old1 hr.right.right.r3 hx).stp hil;subst hb;obtain⟨y,hy⟩:∃y,L[i]=y:=⟨_,rfl⟩;have hyo:y.ok:=by rw[←hy];exact hLO.out _ (List.getElem_mem hil)
   have HD:=o (fun(w':J) (h:F w' (a9 w w.heap.size)) (e:T w w')=>(hB.out.old1 h e).stpAt hil hy);clear hy;have hb1:W1.H.length≤999999:=by have:=hL1.out;have:=hm300.out;omega
   have hla:=hS1.out.1.hist.last;have HON:=o (fun R w h=>zR sp W1.σ R w h y.core);have HOK:=o hS1.out.1.hist.ok;have HB1:=o hb1;have hLen:Hid (W1.since.length=K):=o (hS1.out.1.len.trans hS1.out.2);have HRT:Hid ((W1.act y).2.fin=I→0≤(W1.act y).1.since.getD y.core.toNat 0∧(W1.act y).1.since.getD y.core.toNat 0≤W1.f∧pM W1.H ((W1.act y).1.since.getD y.core.toNat 0).toNat (lV W1.σ y) (W1.act y).2.an=I):=o (hS1.out.1.right y);have HFR:Hid ((W1.act y).2.fin=I→(y.kind=4∨y.kind=5)∧0≤y.core∧y.core<K∧(W1.act y).2.code=0):=o (fun hf=>by
    have h1:=hS1.out.1.safe.fin_right y hf;rw[hS1.out.2] at h1;exact⟨h1.1,h1.2.1,h1.2.2.1,h1.2.2.2.1⟩)
   have HSI:Hid ((W1.act y).1.since=if(W1.act y).2.code=0∧y.kind=4 then W1.since.set y.core.toNat W1.f else W1.since):=o rfl;have HIN:Hid (4≤y.kind→(W1.act y).2.code=0→0≤y.core∧y.core<K):=o (fun h hc=>by
    have h1:=qR (σ:=W1.σ) (x:=y) h hc;rw[hS1.out.2] at h1;exact h1)
   have HLA:Hid (lV W1.σ y=if y.kind=4 then y.a else W1.σ.acc y.core):=o rfl;have hai:cy y.a.page∧cy (W1.σ.acc y.core).page :=⟨hyo.2.2.2.1,oM hS1.out.1.safe.ok y.core⟩;have HW:Hid (∀R w,F w (ar p sp W1.H W1.f W1.since*(ah sp W1.σ*R))→O prog 37 #[.pointer (r (u p 0 l)),.agg #[b j y.kind,b j y.core,b j y.m.page,b j y.m.size,b j y.m.frame,b j y.m.rights,b j y.a.page,b j y.a.kind,E y.a.user]] w
     (cN (.tuple #[(W1.act y).2.val,.agg #[b j 0,b j 0]]) (ar p sp (W1.act y).1.H (W1.act y).1.f (W1.act y).1.since*(ah sp (W1.act y).1.σ*R)) w)):=o (fun R w h=>ye p sp W1 P1 y hS1.out.1 hyo hb1 R w h)
   have HC:Hid (∀R w,F w (aV t W1.H W1.f*R)→O prog 39 #[.pointer (r (u t 0 l)),.agg #[b j y.kind,b j y.core,b j y.m.page,b j y.m.size,b j y.m.frame,b j y.m.rights,b j y.a.page,b j y.a.kind,E y.a.user],(W1.act y).2.val] w
     (cN (.tuple #[]) (aV t (W1.act y).1.H (W1.act y).1.f*R) w)):=o (fun R w h=>nj t W1.H W1.f y (W1.act y).2 (bE W1.σ.s 0) hyo hla (hS1.out.1.hist.ok _ (List.mem_of_getLast? hla)) hb1 R w h)
   have HS2:Hid ((W1.act y).1.Ok (Safe.prevOf W1.σ P1 y)∧(W1.act y).1.σ.cs.length=K):=o ⟨hS1.out.1.act y,(hS1.out.1.safe.n_act y).2.trans hS1.out.2⟩;have HL2:Hid ((W1.act y).1.H.length≤1+(i+1)):=o (by have:=Wc.hist_len W1 y;have:=hL1.out;omega);unfold Ev.val at HW HC;clear hS1 hyo hb1 hla hL1;generalize W1.act y=z at*
   generalize Safe.prevOf W1.σ P1 y=P2 at*
   generalize lV W1.σ y=la at*
   obtain⟨W2,⟨ec,ef,⟨ea,eb,er⟩,ek⟩⟩:=z;obtain⟨yk,yc,ym,ya⟩:=y;dsimp only at*
   generalize W1.σ.acc yc=ac at*
   generalize W1.σ.on yc=on1 at*
   have hlt':(i:Int)<m:=by omega
   have hi0:(0:Int)≤i:=by omega
   obtain⟨U,d0,d1,d2,d3,d4,d5,d6,d7,d8⟩:=HD.out _ hr.right.right.r3 hx;have pl:=(ct hr).1;have pc:=(ct hr).2;go_upto_region 14 with fail;go_wp2_with fail
   refine(HON.out _ _ hr.p2).mono ?_;rintro e w3 ⟨rfl,b3⟩;have h3:F _ (ar p sp W1.H W1.f W1.since*(ah sp W1.σ*(aa w3.heap.size #[b j ac.page,b j ac.kind,E ac.user] 41*(aV t W1.H W1.f*(am (.slice (r (u g 0 l)) K K) W1.since*(aa X1 #[b j 0,b j 0] 27*a9 w w.heap.size)))))):=((hr.below b3).new #[b j ac.page,b j ac.kind,E ac.user] 41).eq (by ac_rfl);have x3:=(hx.below b3).alloc (.cells #[b j ac.page,b j ac.kind,E ac.user] 41);clear hr hx b3 HON U d0 d1 d2 d3 d4 d5 d6 d7 d8 pl pc;go_upto_region 15 with fail;generalize w3.alloc _=w4 at*
   generalize w3.heap.size=XA at*
   obtain⟨U,d0,d1,d2,d3,d4,d5,d6,d7,d8⟩:=HD.out _ h3.right.right.right.r3 x3;go_wp2_with fail
   refine(HW.out _ _ h3).mono ?_;rintro e w5 ⟨rfl,h5,x5⟩;have h6:F _ (aa w5.heap.size #[b j ec,E ef,b j ea,b j eb,b j er,E ek] 36*(aa (w5.heap.size+1) #[b j 0,b j 0] 27*(aa XA #[b j ac.page,b j ac.kind,E ac.user] 41*(aV t W1.H W1.f*(am (.slice (r (u g 0 l)) K K) W1.since*(ar p sp W2.H W2.f W2.since*(ah sp W2.σ*(aa X1 #[b j 0,b j 0] 27*a9 w w.heap.size)))))))):=((h5.new #[b j ec,E ef,b j ea,b j eb,b j er,E ek] 36).new #[b j 0,b j 0] 27).eq (by simp only[World.size_alloc]<;>ac_rfl);have x6:=((x3.trans x5).alloc (.cells #[b j ec,E ef,b j ea,b j eb,b j er,E ek] 36)).alloc (.cells #[b j 0,b j 0] 27);clear h3 x3 h5 x5 HW U d0 d1 d2 d3 d4 d5 d6 d7 d8;go_upto_region 16 with fail;generalize (w5.alloc (.cells #[b j ec,E ef,b j ea,b j eb,b j er,E ek] 36)).alloc (.cells #[b j 0,b j 0] 27)=w6 at*
   generalize w5.heap.size+1=FX at*
   generalize w5.heap.size=EX at*
   obtain⟨U,d0,d1,d2,d3,d4,d5,d6,d7,d8⟩:=HD.out _ h6.right.right.right.right.right.r3 x6;obtain⟨e0,e1,e2,e3,e4,e5⟩:=h6.cells6;have el:=h6.lt;have f0:=h6.right.cell 0;have fl:=h6.right.lt;go_upto_region 18 with fail;obtain⟨cd,hcd⟩:∃z,decide (yk=4∧ec=0)=z:=⟨_,rfl⟩;obtain⟨a2,ha2⟩:∃z,(if yk=4∧ec=0 then ya else ac)=z:=⟨_,rfl⟩;have HA2:=o (show ef=I→la=a2 from fun hf=>by
    obtain⟨q1,_,_,q4⟩:=HFR.out hf;rw[HLA.out,←ha2];by_cases q:yk=4
    ·rw[if_pos q,if_pos ⟨q,q4⟩]
    ·rw[if_neg q,if_neg (fun h=>q h.1)])
   have hai2:cy a2.page:=by
    rw[←ha2];split
    ·exact hai.1
    ·exact hai.2
   have HAI:=o hai2;replace ha2:=o ha2;clear hai hai2 HLA;go_cut [75] from 65 to 75 (fun s75 wx=>s75=E cd∧wx=w6)
   case first=>
    clear HC HS2 HL2 HD HRT HFR HSI HIN HA2 h6 ha2;by_cases q4:yk=4
    ·subst q4
     by_cases q0:ec=0
     ·subst q0
      obtain rfl:cd=I:=by rw[←hcd];rfl
      clear hcd;go_wp2_with fail
      go_meet
      case rel=>exact⟨rfl,rfl⟩
     ·obtain rfl:cd=M:=by rw[←hcd];exact decide_eq_false (fun h=>q0 h.2)
      have q0':(ec==0)=M:=by simpa using q0
      clear hcd q0;go_wp2_with fail
      go_meet
      case rel=>exact⟨rfl,rfl⟩
    ·obtain rfl:cd=M:=by rw[←hcd];exact decide_eq_false (fun h=>q4 h.1)
     have q4':(yk==4)=M:=by simpa using q4
     clear hcd q4;go_wp2_with fail
     go_meet
     case rel=>exact⟨rfl,rfl⟩
   case rest=>
    obtain⟨rfl,hw⟩:=hcut;replace hw:=hw.symm;subst hw;clear f0 fl;go_upto_if 75 with fail;go_cut [] from 76 to 87 (fun wx=>F wx (aa EX #[b j ec,E ef,b j ea,b j eb,b j er,E ek] 36*(aa XA #[b j a2.page,b j a2.kind,E a2.user] 41*(aV t W1.H W1.f*(am (.slice (r (u g 0 l)) K K) W2.since*(ar p sp W2.H W2.f W2.since*(ah sp W2.σ*(aa X1 #[b j 0,b j 0] 27*a9 w w.heap.size)))))))∧T w wx)
    case first=>
     clear HC HS2 HL2 HRT HFR HA2;have h7:F w6 (aa XA #[b j ac.page,b j ac.kind,E ac.user] 41*(aa EX #[b j ec,E ef,b j ea,b j eb,b j er,E ek] 36*(aV t W1.H W1.f*(am (.slice (r (u g 0 l)) K K) W1.since*(ar p sp W2.H W2.f W2.since*(ah sp W2.σ*(aa X1 #[b j 0,b j 0] 27*a9 w w.heap.size))))))):=(h6.eq (show _=aa FX #[b j 0,b j 0] 27*(aa XA #[b j ac.page,b j ac.kind,E ac.user] 41*(aa EX #[b j ec,E ef,b j ea,b j eb,b j er,E ek] 36*(aV t W1.H W1.f*(am (.slice (r (u g 0 l)) K K) W1.since*(ar p sp W2.H W2.f W2.since*(ah sp W2.σ*(aa X1 #[b j 0,b j 0] 27*a9 w w.heap.size))))))) by ac_rfl)).right;cases cd with
     |false=>
      have hn:=of_decide_eq_false hcd;have e1':W2.since=W1.since:=by rw[HSI.out,if_neg (fun h=>hn ⟨h.2,h.1⟩)]
      have e2':a2=ac:=by rw[←ha2.out,if_neg hn]
      have hE:F w6 (aa EX #[b j ec,E ef,b j ea,b j eb,b j er,E ek] 36*(aa XA #[b j a2.page,b j a2.kind,E a2.user] 41*(aV t W1.H W1.f*(am (.slice (r (u g 0 l)) K K) W2.since*(ar p sp W2.H W2.f W2.since*(ah sp W2.σ*(aa X1 #[b j 0,b j 0] 27*a9 w w.heap.size))))))):=by
       rw[e1',e2'];rw[e1'] at h7;exact h7.p2
      clear HSI HIN HD ha2 hn e1' e2' h6 h7;go_wp2_with fail
      go_meet
      case rel=>exact⟨hE,x6⟩
     |true=>
      obtain⟨rfl,rfl⟩:=of_decide_eq_true hcd;obtain⟨q0,q1⟩:=HIN.out (by omega) rfl;have e1':W2.since=W1.since.set yc.toNat W1.f:=by rw[HSI.out,if_pos ⟨rfl,rfl⟩]
      have e2':a2=ya:=by rw[←ha2.out,if_pos ⟨rfl,rfl⟩]
      obtain⟨k,rfl⟩:=D q0;have hkK:k<W1.since.length:=by rw[hLen.out];omega
      have hkK':(k:Int)<K:=by omega
      have hk0:¬(k:Int)<0:=by omega
      rw[Int.toNat_natCast] at e1';replace e1':=o e1';replace e2':=o e2';clear HSI HIN HD ha2 hcd h6 q0 q1;obtain⟨g0,g1,g2⟩:=h7.frees3;obtain⟨s0,s1,s2⟩:=h7.cells3;have gl:=h7.lt;go_upto_region 20 with fail;have h8:=h7.set3 (b j ya.page) (b j ya.kind) (E ya.user);have x8:=((x6.set (u XA 0 l) (b j ya.page)).set (u XA 1 l) (b j ya.kind)).set (u XA 2 l) (E ya.user);clear d0 d1 d2 d3 d4 d5 d6 d7 d8 U e0 e1 e2 e3 e4 e5 el g0 g1 g2 s0 s1 s2 gl h7 x6;generalize ((w6.setCell (u XA 0 l) (b j ya.page)).setCell (u XA 1 l) (b j ya.kind)).setCell (u XA 2 l) (E ya.user)=w8 at*
      obtain⟨y1,hy1,h9⟩:=dK (h8.eq (show _=aV t W1.H W1.f*(am (.slice (r (u g 0 l)) K K) W1.since*(aa XA #[b j ya.page,b j ya.kind,E ya.user] 41*(aa EX #[b j 0,E ef,b j ea,b j eb,b j er,E ek] 36*(ar p sp W2.H W2.f W2.since*(ah sp W2.σ*(aa X1 #[b j 0,b j 0] 27*a9 w w.heap.size)))))) by ac_rfl));have HT1:=o (fun(w':J) (R':ae) (h:F w' (bt t W1.H W1.f y1 R'))=>dz hy1 h);have t1:=(show F w8 (aa t #[.slice y1.A y1.bs.length y1.c,b j W1.f] 87*_) from h9).cell 1;have tl:=(show F w8 (aa t #[.slice y1.A y1.bs.length y1.c,b j W1.f] 87*_) from h9).lt;have h10:F w8 (am (.slice (r (u g 0 l)) W1.since.length K) W1.since*bt t W1.H W1.f y1 (aa XA #[b j ya.page,b j ya.kind,E ya.user] 41*(aa EX #[b j 0,E ef,b j ea,b j eb,b j er,E ek] 36*(ar p sp W2.H W2.f W2.since*(ah sp W2.σ*(aa X1 #[b j 0,b j 0] 27*a9 w w.heap.size)))))):=h9.eq (by unfold bt;rw[hLen.out];ac_rfl);obtain⟨g',hg',gl,gc,gf,hset⟩:=jS (r (u g 0 l)) h10 hkK (W1.f:Int);injection hg' with hg'
      injection hg' with hg'
      subst hg';have x9:=x8.set (u g k l) (b j W1.f);have hE:F (w8.setCell (u g k l) (b j W1.f)) (aa EX #[b j 0,E ef,b j ea,b j eb,b j er,E ek] 36*(aa XA #[b j a2.page,b j a2.kind,E a2.user] 41*(aV t W1.H W1.f*(am (.slice (r (u g 0 l)) K K) W2.since*(ar p sp W2.H W2.f W2.since*(ah sp W2.σ*(aa X1 #[b j 0,b j 0] 27*a9 w w.heap.size))))))):=by
       have h11:=HT1.out _ (am (.slice (r (u g 0 l)) K K) (W1.since.set k W1.f)*(aa XA #[b j ya.page,b j ya.kind,E ya.user] 41*(aa EX #[b j 0,E ef,b j ea,b j eb,b j er,E ek] 36*(ar p sp W2.H W2.f W2.since*(ah sp W2.σ*(aa X1 #[b j 0,b j 0] 27*a9 w w.heap.size)))))) (hset.eq (by rw[hLen.out];unfold bt;ac_rfl));rw[e2'.out,←e1'.out] at*
       exact h11.eq (by ac_rfl)
      clear hset h8 h9 h10 x8 HT1 e1' e2';go_wp2_with fail
      go_meet
      case rel=>exact⟨hE,x9⟩
    case rest=>
     obtain⟨h7,x7⟩:=hcut;clear h6 x6 d0 d1 d2 d3 d4 d5 d6 d7 d8 U e0 e1 e2 e3 e4 e5 el hcd HSI HIN;go_upto_region 21 with fail;go_cut [115] from 88 to 115 (fun s115 wx=>s115=E M∧F wx (aV t W1.H W1.f*(ar p sp W2.H W2.f W2.since*(ah sp W2.σ*(aa EX #[b j ec,E ef,b j ea,b j eb,b j er,E ek] 36*(am (.slice (r (u g 0 l)) K K) W2.since*(aa X1 #[b j 0,b j 0] 27*a9 w w.heap.size))))))∧T w wx)
     case first=>
      have HS2L:Hid (W2.since.length=K):=o (HS2.out.1.len.trans HS2.out.2);clear HC HS2 HL2 HD;have hd:=h7.drew;have xd:=x7.drew;cases ef with
      |false=>
       have cE:=hd.cell 1;have hE:F wc.drew (aV t W1.H W1.f*(ar p sp W2.H W2.f W2.since*(ah sp W2.σ*(aa EX #[b j ec,E M,b j ea,b j eb,b j er,E ek] 36*(am (.slice (r (u g 0 l)) K K) W2.since*(aa X1 #[b j 0,b j 0] 27*a9 w w.heap.size)))))):=(hd.eq (show _=aa XA #[b j a2.page,b j a2.kind,E a2.user] 41*(aV t W1.H W1.f*(ar p sp W2.H W2.f W2.since*(ah sp W2.σ*(aa EX #[b j ec,E M,b j ea,b j eb,b j er,E ek] 36*(am (.slice (r (u g 0 l)) K K) W2.since*(aa X1 #[b j 0,b j 0] 27*a9 w w.heap.size)))))) by ac_rfl)).right;clear hd h7 x7 HRT HFR HA2;refine wp_region_held_drew (S:=fun w'=>w'.cell? (u EX 1 l)=r (E M)) (by kernel_rfl) cE (fun hHeld=> ?_);refine wpAnyH_take (i:=0) (v:= ?_) rfl (by kernel_rfl) (by kernel_rfl) (by kernel_rfl) (fun _ _ _ h=>h) (Or.inl ⟨by kernel_rfl,?_⟩) hHeld ?_;rotate_left;focus (intro wS hSw;(try dsimp only at hSw);go_simp;first|done|with_reducible rfl)
       try go_simp
       refine wpAnyH_take (i:=1) (v:= ?_) rfl (by kernel_rfl) (by kernel_rfl) (by kernel_rfl) (fun _ _ _ h=>h) (Or.inl ⟨by kernel_rfl,?_⟩) hHeld ?_;rotate_left;focus (intro wS hSw;(try dsimp only at hSw);go_simp;first|done|with_reducible rfl)
       try go_simp
       refine wpAnyH_take (i:=2) (v:= ?_) rfl (by kernel_rfl) (by kernel_rfl) (by kernel_rfl) (fun _ _ _ h=>h) (Or.inl ⟨by kernel_rfl,?_⟩) hHeld ?_;rotate_left;focus (intro wS hSw;(try dsimp only at hSw);go_simp;first|done|with_reducible rfl)
       try go_simp
       refine wpAnyH_take (i:=3) rfl (by kernel_rfl) (by kernel_rfl) (by kernel_rfl) (fun _ _ _ h=>h) (Or.inr ⟨by kernel_rfl,rfl⟩) hHeld ?_;try go_simp
       refine wpAnyH_take (i:=4) rfl (by kernel_rfl) (by kernel_rfl) (by kernel_rfl) (fun _ _ _ h=>h) (Or.inr ⟨by kernel_rfl,rfl⟩) hHeld ?_;try go_simp
       refine wpAnyH_take (i:=5) rfl (by kernel_rfl) (by kernel_rfl) (by kernel_rfl) (fun _ _ _ h=>h) (Or.inr ⟨by kernel_rfl,rfl⟩) hHeld ?_;try go_simp
       refine wpAnyH_take (i:=6) rfl (by kernel_rfl) (by kernel_rfl) (by kernel_rfl) (fun _ _ _ h=>h) (Or.inr ⟨by kernel_rfl,rfl⟩) hHeld ?_;try go_simp
       refine wpAnyH_take (i:=7) rfl (by kernel_rfl) (by kernel_rfl) (by kernel_rfl) (fun _ _ _ h=>h) (Or.inr ⟨by kernel_rfl,rfl⟩) hHeld ?_;try go_simp
       refine wpAnyH_take (i:=8) rfl (by kernel_rfl) (by kernel_rfl) (by kernel_rfl) (fun _ _ _ h=>h) (Or.inr ⟨by kernel_rfl,rfl⟩) hHeld ?_;try go_simp
       refine wpAnyH_take (i:=9) rfl (by kernel_rfl) (by kernel_rfl) (by kernel_rfl) (fun _ _ _ h=>h) (Or.inr ⟨by kernel_rfl,rfl⟩) hHeld ?_;try go_simp
       refine wpAnyH_take (i:=10) rfl (by kernel_rfl) (by kernel_rfl) (by kernel_rfl) (fun _ _ _ h=>h) (Or.inr ⟨by kernel_rfl,rfl⟩) hHeld ?_;try go_simp
       refine wpAnyH_take (i:=11) rfl (by kernel_rfl) (by kernel_rfl) (by kernel_rfl) (fun _ _ _ h=>h) (Or.inr ⟨by kernel_rfl,rfl⟩) hHeld ?_;try go_simp
       refine wpAnyH_take (i:=12) rfl (by kernel_rfl) (by kernel_rfl) (by kernel_rfl) (fun _ _ _ h=>h) (Or.inr ⟨by kernel_rfl,rfl⟩) hHeld ?_;try go_simp
       refine wpAnyH_take (i:=13) rfl (by kernel_rfl) (by kernel_rfl) (by kernel_rfl) (fun _ _ _ h=>h) (Or.inr ⟨by kernel_rfl,rfl⟩) hHeld ?_;try go_simp
       refine wpAnyH_take (i:=14) rfl (by kernel_rfl) (by kernel_rfl) (by kernel_rfl) (fun _ _ _ h=>h) (Or.inr ⟨by kernel_rfl,rfl⟩) hHeld ?_;try go_simp
       refine wpAnyH_take (i:=15) rfl (by kernel_rfl) (by kernel_rfl) (by kernel_rfl) (fun _ _ _ h=>h) (Or.inr ⟨by kernel_rfl,rfl⟩) hHeld ?_;try go_simp
       refine wpAnyH_take (i:=16) rfl (by kernel_rfl) (by kernel_rfl) (by kernel_rfl) (fun _ _ _ h=>h) (Or.inr ⟨by kernel_rfl,rfl⟩) hHeld ?_;try go_simp
       refine wpAnyH_take (i:=17) rfl (by kernel_rfl) (by kernel_rfl) (by kernel_rfl) (fun _ _ _ h=>h) (Or.inr ⟨by kernel_rfl,rfl⟩) hHeld ?_;try go_simp
       refine wpAnyH_take (i:=18) rfl (by kernel_rfl) (by kernel_rfl) (by kernel_rfl) (fun _ _ _ h=>h) (Or.inr ⟨by kernel_rfl,rfl⟩) hHeld ?_;try go_simp
       refine wpAnyH_take (i:=19) rfl (by kernel_rfl) (by kernel_rfl) (by kernel_rfl) (fun _ _ _ h=>h) (Or.inr ⟨by kernel_rfl,rfl⟩) hHeld ?_;try go_simp
       refine wpAnyH_take (i:=20) rfl (by kernel_rfl) (by kernel_rfl) (by kernel_rfl) (fun _ _ _ h=>h) (Or.inr ⟨by kernel_rfl,rfl⟩) hHeld ?_;try go_simp
       refine wpAnyH_take (i:=21) rfl (by kernel_rfl) (by kernel_rfl) (by kernel_rfl) (fun _ _ _ h=>h) (Or.inr ⟨by kernel_rfl,rfl⟩) hHeld ?_;try go_simp
       refine wpAnyH_take (i:=22) rfl (by kernel_rfl) (by kernel_rfl) (by kernel_rfl) (fun _ _ _ h=>h) (Or.inr ⟨by kernel_rfl,rfl⟩) hHeld ?_;try go_simp
       refine wpAnyH_take (i:=23) rfl (by kernel_rfl) (by kernel_rfl) (by kernel_rfl) (fun _ _ _ h=>h) (Or.inr ⟨by kernel_rfl,rfl⟩) hHeld ?_;try go_simp
       refine wpAnyH_take (i:=24) rfl (by kernel_rfl) (by kernel_rfl) (by kernel_rfl) (fun _ _ _ h=>h) (Or.inr ⟨by kernel_rfl,rfl⟩) hHeld ?_;try go_simp
       refine wpAnyH_take (i:=25) rfl (by kernel_rfl) (by kernel_rfl) (by kernel_rfl) (fun _ _ _ h=>h) (Or.inr ⟨by kernel_rfl,rfl⟩) hHeld ?_;try go_simp
       refine wpAnyH_take (i:=26) rfl (by kernel_rfl) (by kernel_rfl) (by kernel_rfl) (fun _ _ _ h=>h) (Or.inr ⟨by kernel_rfl,rfl⟩) hHeld ?_;try go_simp
       refine wpAnyH_take (i:=27) (v:= ?_) rfl (by kernel_rfl) (by kernel_rfl) (by kernel_rfl) (fun _ _ _ h=>h) (Or.inl ⟨by kernel_rfl,?_⟩) hHeld ?_;rotate_left;focus (intro wS hSw;(try dsimp only at hSw);go_simp;first|done|with_reducible rfl)
       try go_simp
       refine wpAnyH_done (by kernel_rfl) ?_ _;go_wp2_with fail
       go_meet
       case rel=>exact⟨by first|rfl|simp,hE,xd⟩
      |true=>
       obtain⟨_,q0,q1,q2⟩:=HFR.out rfl;obtain⟨r0,r1,r2⟩:=HRT.out rfl;subst q2;obtain⟨k,rfl⟩:=D q0;have hkK:k<W2.since.length:=by rw[HS2L.out];omega
       have hkK':(k:Int)<K:=by omega
       have hkK2:¬((K:Int)≤k):=by omega
       have hk0:¬(k:Int)<0:=by omega
       rw[Int.toNat_natCast,List.getD_eq_getElem?_getD,G hkK] at r0 r1 r2;obtain⟨s0,hs0⟩:=D (show 0≤W2.since[k] from r0);rw[show(r W2.since[k]).getD 0=W2.since[k] from rfl,hs0] at r1 r2;rw[Int.toNat_natCast,HA2.out rfl] at r2;obtain⟨y1,hy1,h9⟩:=dK (hd.eq (show _=aV t W1.H W1.f*(aa EX #[b j 0,E I,b j ea,b j eb,b j er,E ek] 36*(aa XA #[b j a2.page,b j a2.kind,E a2.user] 41*(am (.slice (r (u g 0 l)) K K) W2.since*(ar p sp W2.H W2.f W2.since*(ah sp W2.σ*(aa X1 #[b j 0,b j 0] 27*a9 w w.heap.size)))))) by ac_rfl));have hsl:s0≤W1.H.length:=by
        by_cases hh:s0≤W1.H.length
        ·exact hh
        ·exfalso
         unfold pM at r2;rw[List.drop_eq_nil_of_le (by omega)] at r2;cases r2
       have HWAS:=o (fun R w h=>zZ t W1.H W1.f y1 a2 ⟨ea,eb,er⟩ s0 HAI.out hsl (by have:=HB1.out;omega) HOK.out hy1 r2 R w h);have HT1:=o (fun(w':J) (R':ae) (h:F w' (bt t W1.H W1.f y1 R'))=>dz hy1 h);have HK:=o (fun(w':J) (h:F w' (bt t W1.H W1.f y1 (aa EX #[b j 0,E I,b j ea,b j eb,b j er,E ek] 36*(aa XA #[b j a2.page,b j a2.kind,E a2.user] 41*(am (.slice (r (u g 0 l)) K K) W2.since*(ar p sp W2.H W2.f W2.since*(ah sp W2.σ*(aa X1 #[b j 0,b j 0] 27*a9 w w.heap.size))))))))=>(by
        unfold bt at h;have h1:=h.r3;obtain⟨u0,u1,u2,u3,u4,u5⟩:=h1.cells6;obtain⟨u6,u7,u8⟩:=h1.right.cells3;obtain⟨gb,hg,gl,gc⟩:=cM h1.right.right hkK;injection hg with hg
        injection hg with hg
        subst hg;rw[hs0] at gc;exact⟨u0,u1,u2,u3,u4,u6,u7,u8,gc⟩:w'.cell? (u EX 0 l)=r (b j 0)∧w'.cell? (u EX 1 l)=r (E I)∧w'.cell? (u EX 2 l)=r (b j ea)∧w'.cell? (u EX 3 l)=r (b j eb)∧w'.cell? (u EX 4 l)=r (b j er)∧w'.cell? (u XA 0 l)=r (b j a2.page)∧w'.cell? (u XA 1 l)=r (b j a2.kind)∧w'.cell? (u XA 2 l)=r (E a2.user)∧w'.cell? (u g k l)=r (b j (s0:Nat))))
       have gl:g<wc.drew.heap.size:=by
        unfold bt at h9;obtain⟨gb,hg,gl,gc⟩:=cM h9.right.right.r3 hkK;injection hg with hg
        injection hg with hg
        subst hg;exact gl
       have xal:=hd.right.lt;have exl:=hd.lt;clear hd h7 x7 HRT HFR HA2 hy1 r0 r1 r2 hs0 hsl q0 q1;go_region_held3 (fun w'=>w'.cell? (u EX 0 l)=r (b j 0)∧w'.cell? (u EX 1 l)=r (E I)∧w'.cell? (u EX 2 l)=r (b j ea)∧w'.cell? (u EX 3 l)=r (b j eb)∧w'.cell? (u EX 4 l)=r (b j er)∧w'.cell? (u XA 0 l)=r (b j a2.page)∧w'.cell? (u XA 1 l)=r (b j a2.kind)∧w'.cell? (u XA 2 l)=r (E a2.user)∧w'.cell? (u g k l)=r (b j (s0:Nat))) (first|(with_reducible exact HK.out _ h9)|(with_reducible exact HK.out _ hP)|go_keep)
        (first
         |(go_at_call 38;(with_reducible refine(HWAS.out _ _ h9).mono ?_);rintro e w9 ⟨rfl,b9⟩;have hP:=h9.below b9;have xP:=xd.below b9))
       all_goals
        go_wp2_with fail
        go_meet
        case rel=>exact⟨by first|rfl|simp,((HT1.out _ _ hP).eq (show _=aa XA #[b j a2.page,b j a2.kind,E a2.user] 41*(aV t W1.H W1.f*(ar p sp W2.H W2.f W2.since*(ah sp W2.σ*(aa EX #[b j 0,E I,b j ea,b j eb,b j er,E ek] 36*(am (.slice (r (u g 0 l)) K K) W2.since*(aa X1 #[b j 0,b j 0] 27*a9 w w.heap.size)))))) by ac_rfl)).right,xP⟩
     case rest=>
      obtain⟨rfl,h8,x8⟩:=hcut;clear h7 x7 HRT HFR HA2 HAI HOK HB1 hLen ha2;have HK:=o (fun(w':J) (P1 P2 P3 P4:ae) (h:F w' (P1*(P2*(P3*(aa EX #[b j ec,E ef,b j ea,b j eb,b j er,E ek] 36*(P4*(aa X1 #[b j 0,b j 0] 27*a9 w w.heap.size))))))) (e:T w w')=>(⟨h.r3.cells6,(HD.out _ h.right.right.right.r3 e).2⟩:(w'.cell? (u EX 0 l)=r (b j ec)∧w'.cell? (u EX 1 l)=r (E ef)∧w'.cell? (u EX 2 l)=r (b j ea)∧w'.cell? (u EX 3 l)=r (b j eb)∧w'.cell? (u EX 4 l)=r (b j er)∧w'.cell? (u EX 5 l)=r (E ek))∧(w'.cell? ⟨b',off+i*9,l⟩=r (b j yk)∧w'.cell? ⟨b',off+i*9+1,l⟩=r (b j yc)∧w'.cell? ⟨b',off+i*9+2,l⟩=r (b j ym.page)∧w'.cell? ⟨b',off+i*9+3,l⟩=r (b j ym.size)∧w'.cell? ⟨b',off+i*9+4,l⟩=r (b j ym.frame)∧w'.cell? ⟨b',off+i*9+5,l⟩=r (b j ym.rights)∧w'.cell? ⟨b',off+i*9+6,l⟩=r (b j ya.page)∧w'.cell? ⟨b',off+i*9+7,l⟩=r (b j ya.kind)∧w'.cell? ⟨b',off+i*9+8,l⟩=r (E ya.user))));have U:=(HD.out _ h8.right.right.right.r3 x8).1;have el:=h8.r3.lt;go_upto_region 23 with fail;go_cut [] from 116 to 122 (fun wx=>F wx (aV t W2.H W2.f*(ar p sp W2.H W2.f W2.since*(ah sp W2.σ*(aa EX #[b j ec,E ef,b j ea,b j eb,b j er,E ek] 36*(am (.slice (r (u g 0 l)) K K) W2.since*(aa X1 #[b j 0,b j 0] 27*a9 w w.heap.size))))))∧T w wx)
      case first=>
       clear HS2 HL2;have hd:=h8.drew;have xd:=x8.drew;go_region_held3 (fun w'=>(w'.cell? (u EX 0 l)=r (b j ec)∧w'.cell? (u EX 1 l)=r (E ef)∧w'.cell? (u EX 2 l)=r (b j ea)∧w'.cell? (u EX 3 l)=r (b j eb)∧w'.cell? (u EX 4 l)=r (b j er)∧w'.cell? (u EX 5 l)=r (E ek))∧(w'.cell? ⟨b',off+i*9,l⟩=r (b j yk)∧w'.cell? ⟨b',off+i*9+1,l⟩=r (b j yc)∧w'.cell? ⟨b',off+i*9+2,l⟩=r (b j ym.page)∧w'.cell? ⟨b',off+i*9+3,l⟩=r (b j ym.size)∧w'.cell? ⟨b',off+i*9+4,l⟩=r (b j ym.frame)∧w'.cell? ⟨b',off+i*9+5,l⟩=r (b j ym.rights)∧w'.cell? ⟨b',off+i*9+6,l⟩=r (b j ya.page)∧w'.cell? ⟨b',off+i*9+7,l⟩=r (b j ya.kind)∧w'.cell? ⟨b',off+i*9+8,l⟩=r (E ya.user))) (first|(with_reducible exact HK.out _ _ _ _ _ hd xd)|(with_reducible exact HK.out _ _ _ _ _ hP xP)|go_keep)
        (first
         |(go_at_call 39;(with_reducible refine(HC.out _ _ hd).mono ?_);rintro e w7 ⟨rfl,hP,x7⟩;have xP:=xd.trans x7))
       all_goals
        go_wp2_with fail
        go_meet
        case rel=>exact⟨hP,xP⟩
      case rest=>
       obtain⟨h9,x9⟩:=hcut;clear h8 x8 HC HK HD el U;have HLI:=o (fun R w h=>n9 sp W2.σ HS2.out.1.safe.wf R w h);obtain⟨k2,hk2,hkL,-⟩:=mT HS2.out.1.hist.last;generalize bE W2.σ.s 0=MM at*
       obtain⟨y2,hy2,h10⟩:=dK h9;have HT2:=o (fun(w':J) (R':ae) (h:F w' (bt t W2.H W2.f y2 R'))=>dz hy2 h);obtain⟨p2,hp2⟩:∃p2,y2.bs[k2]? =r p2:=⟨y2.bs[k2]'(by omega),G (by omega)⟩;have HNW:=o (fun R w h=>zk t W2.H W2.f y2 p2 k2 hk2 hy2 hp2 R w h);obtain⟨Q,hQ⟩:=jM hp2 hkL;have HPG:=o (fun(w':J) (R':ae) (h:F w' (bt t W2.H W2.f y2 R'))=>(by
        unfold bt at h;rw[hQ] at h;obtain⟨A4,c4,h1⟩:=eW (h.eq (show _=be p2 MM*(R'*(Q*(aa t #[.slice y2.A y2.bs.length y2.c,b j W2.f] 87*ey (.slice y2.A y2.bs.length y2.c) y2.bs))) by ac_rfl));exact⟨A4,c4,h1.lt,h1.cell 0,h1.right.eq (by ac_rfl)⟩:∃A4 c4,p2<w'.heap.size∧w'.cell? (u p2 0 l)=r (.slice A4 MM.length c4)∧F w' (bh (.slice A4 MM.length c4) MM*(R'*(Q*(aa t #[.slice y2.A y2.bs.length y2.c,b j W2.f] 87*ey (.slice y2.A y2.bs.length y2.c) y2.bs))))))
       have h11:F wc (ah sp W2.σ*(ar p sp W2.H W2.f W2.since*bt t W2.H W2.f y2 (aa EX #[b j ec,E ef,b j ea,b j eb,b j er,E ek] 36*(am (.slice (r (u g 0 l)) K K) W2.since*(aa X1 #[b j 0,b j 0] 27*a9 w w.heap.size))))):=h10.eq (by unfold bt;ac_rfl);have pl:=(ct h11.p2).1;have pc:=(ct h11.p2).2;clear h9 h10 hy2 hQ hp2 hk2 hkL;go_upto_region 24 with fail;go_wp2_with fail
       refine(HLI.out _ _ h11).mono ?_;rintro e w7 ⟨A3,c3,rfl,h12,x12⟩;have h13:F w7 (bt t W2.H W2.f y2 (bh (.slice A3 MM.length c3) MM*(ah sp W2.σ*(ar p sp W2.H W2.f W2.since*(aa EX #[b j ec,E ef,b j ea,b j eb,b j er,E ek] 36*(am (.slice (r (u g 0 l)) K K) W2.since*(aa X1 #[b j 0,b j 0] 27*a9 w w.heap.size))))))):=h12.eq (by unfold bt;ac_rfl);have x13:=x9.trans x12;clear h11 h12 x9 x12 HLI pl pc;go_wp2_with fail
       refine(HNW.out _ _ h13).mono ?_;rintro e w8 ⟨rfl,b8⟩;have h14:=h13.below b8;have x14:=x13.below b8;obtain⟨A4,c4,pl,pc,h15⟩:=HPG.out _ _ h14;clear h13 x13 b8 HNW HPG;go_wp2_with fail
       refine(jn MM A3 A4 _ c3 _ c4 _ _ (h15.eq (show _=bh (.slice A3 MM.length c3) MM*(bh (.slice A4 MM.length c4) MM*((ah sp W2.σ*(ar p sp W2.H W2.f W2.since*(aa EX #[b j ec,E ef,b j ea,b j eb,b j er,E ek] 36*(am (.slice (r (u g 0 l)) K K) W2.since*(aa X1 #[b j 0,b j 0] 27*a9 w w.heap.size)))))*(Q*(aa t #[.slice y2.A y2.bs.length y2.c,b j W2.f] 87*ey (.slice y2.A y2.bs.length y2.c) y2.bs)))) by ac_rfl))).mono ?_;rintro e w9 ⟨rfl,b9⟩;have hE:F w9 (ar p sp W2.H W2.f W2.since*(ah sp W2.σ*(aV t W2.H W2.f*(am (.slice (r (u g 0 l)) K K) W2.since*(aa X1 #[b j 0,b j 0] 27*a9 w w.heap.size))))):=((HT2.out _ _ (h14.below b9)).eq (show _=bh (.slice A3 MM.length c3) MM*(aa EX #[b j ec,E ef,b j ea,b j eb,b j er,E ek] 36*(ar p sp W2.H W2.f W2.since*(ah sp W2.σ*(aV t W2.H W2.f*(am (.slice (r (u g 0 l)) K K) W2.since*(aa X1 #[b j 0,b j 0] 27*a9 w w.heap.size)))))) by ac_rfl)).right.right;have xE:=x14.below b9;clear h14 h15 x14 b9 HT2 pl pc;go_wp2_with fail
       go_roundw
       case rel=>exact⟨i+1,W2,P2,by omega,by go_num,HS2,HL2,hE,xE⟩
       case measure=>simp[intOf];omega
  ·obtain rfl:i=m:=by omega
   go_wp2_with fail
   go_ret;exact⟨rfl,ap hr.right.right.r3 hx⟩
end Go.Proofs.YtmfheghbgihdmaaGreat
