/- Contract of package space: Kept. -/
import Derived.Test.YtmfheghbgihdmaaGreatSpcO
import Derived.Test.YtmfheghbgihdmaaGreatFrames3
import Derived.Test.YtmfheghbgihdmaaGreatWchB
import Derived.Test.YtmfheghbgihdmaaGreatSpcA
import Derived.Test.YtmfheghbgihdmaaGreatRefEnt5
import Derived.Test.YtmfheghbgihdmaaGreatMpRow
import Derived.Test.YtmfheghbgihdmaaGreatScF
namespace Go.Proofs.YtmfheghbgihdmaaGreat
open Go.Value renaming int→j,bool→J
open Go.IntKind renaming i64→o
open Option renaming none→r,some→u
open Go.Lib renaming hid→D
open Bool renaming false→E
open Go.Addr renaming mk→F
open Int renaming eq_ofNat_of_zero_le→G
open Go.Proofs.YtmfheghbgihdmaaGreat renaming Has→I,Ext→T,dl→X
open List renaming getElem?_eq_getElem→M
open Go renaming World→O,Calls→U,Addr→V
open Tryz
open Go.RowKit
set_option maxRecDepth 100000
theorem yY(b:Nat)(σ:Sc)(hok:σ.Ok)(k:Int)(R:ae)(w:O)(h:I w (ah b σ*R)):
  U prog 30 #[.pointer (u (F b 0 r)),j o k] w fun e w'=>∃A c,e= .returned (.slice A (σ.kept k).length c)∧I w' (dC (.slice A (σ.kept k).length c) (σ.kept k)*(ah b σ*R))∧T w w':=by
 have hw:=h;obtain⟨y,hy,h⟩:=df h;unfold ce at h;obtain⟨c0,c1,c2,c3,c4,c5⟩:=h.cells6;have cl:=h.lt;by_cases hk:0≤k∧k<σ.cs.length
 case neg=>
  have hke:σ.kept k=[]:=by unfold Sc.kept;rw[if_neg hk]
  rw[hke];have hn:I w (dC (.slice r 0 0) []*(ah b σ*R)):=Has.rowNil (e:=143) (size:=5) hw;rw[←hy] at hk;clear hke hy h hw;by_cases hk0:k<0
  ·clear hk
   go_enter func30,ntmps30;go_wp2_with fail
   go_ret;exact⟨r,0,rfl,hn,Ext.refl _⟩
  ·have hkl:(y.ps.length:Int)≤k:=by omega
   clear hk;go_enter func30,ntmps30;go_wp2_with fail
   go_ret;exact⟨r,0,rfl,hn,Ext.refl _⟩
 case pos=>
  have hke:σ.kept k=(σ.core k.toNat).l :=by unfold Sc.kept;rw[if_pos hk]
  obtain⟨hk0,hkl⟩:=hk;obtain⟨k,rfl⟩:=G hk0;have hkn:k<σ.cs.length:=by omega
  have hkp:k<y.ps.length:=by omega
  obtain⟨Q,eQ,_⟩:=jW (M hkp) (Safe.at_core hkn);rw[eQ] at h;obtain⟨bA,hA,lA,cA⟩:=iJ h.right (M hkp);have hcr:=h.right.r3.a1;have hlen:=(Sc.core_ok hok k).1.len;have hkl':(k:Int)<y.ps.length:=by omega
  have hk0':¬(k:Int)<0:=by omega
  have hkk:¬(y.ps.length:Int)≤k:=by omega
  rw[hke,show((k:Int)).toNat =k from rfl];obtain⟨t,v,g⟩:=fK hcr;obtain⟨t0,t1⟩:=g.cells2;have tl:=g.lt;have HL:=D (yJ t (σ.core k).l _ w (by omega) g.right);have HW:=D hw;generalize y.ps[k]=p at*
  generalize (σ.core k).l =l at*
  rw[hA] at c2;clear hke h eQ hcr hy hkl hkn hw g;go_enter func30,ntmps30;go_wp2_with fail
  refine HL.out.mono ?_;rintro e w2 ⟨A,n,c,rfl,h2,x2⟩;obtain rfl:=eI h2;have h3:=HW.out.onto' h2;go_wp2_with fail
  go_ret;exact⟨A,c,rfl,h3,x2⟩
set_option maxHeartbeats 20000000 in
theorem mZ(C N:Int)(B:Option V)(m d:Nat)(L:List Stp)(w:O)(_:cy C)(_:cy N)(h2:Arr w B m 9 (L.map Stp.cells))(hLo:∀x∈L,x.ok):
  U prog 9 #[j o C,j o N,.slice B m d] w (Pure (J true) w):=by
 have hm2:=h2.2.1;have hB:=D h2;have hL:=D (show L.length=m by simpa using h2.1);have hLO:=D hLo;clear h2 hLo;have h0:=aM w;have x0:=Ext.refl w;have HB:=D (fun w=>fY w);have HG:=D (fun w=>eP B m d 200 w);by_cases hbig:(200:Int)<m
 ·rw[decide_eq_true hbig] at HG
  go_enter func9,ntmps9;go_wp2_with fail
  refine(HB.out _).mono ?_;rintro e w1 ⟨rfl,hb⟩;go_wp2_with fail
  refine(HG.out _).mono ?_;rintro e w2 ⟨rfl,hw⟩;subst hw;go_wp2_with fail
  go_ret;exact⟨rfl,ap (h0.below hb) (x0.below hb)⟩
 rw[decide_eq_false hbig] at HG;by_cases hbad:C<1∨4<C∨N<1∨128<N
 ·have HN:=D (fun w=>ji C N hbad w)
  have HSF:=D (fun w=>rB C N hbad w);clear hbad;go_enter func9,ntmps9;go_wp2_with fail
  refine(HB.out _).mono ?_;rintro e w1 ⟨rfl,hb⟩;go_wp2_with fail
  refine(HG.out _).mono ?_;rintro e w2 ⟨rfl,hw⟩;subst hw;have h1:=h0.below hb;have x1:=x0.below hb;clear h0 x0 hb;go_wp2_with fail
  refine(HN.out _).mono ?_;rintro e w3 ⟨rfl,hb⟩;have h3:=(h1.below hb).new #[j o 1,j o (-1)] 27;have x3:=(x1.below hb).alloc (.cells #[j o 1,j o (-1)] 27);clear h1 x1 hb;go_upto_region 6 with fail;generalize w3.alloc _=w4 at*
  generalize w3.heap.size=X1 at*
  go_wp2_with fail
  refine(HSF.out _).mono ?_;rintro e w5 ⟨rfl,hb⟩;have h5:I _ (aa X1 #[j o 1,j o (-1)] 27*(aa w5.heap.size #[j o 1,j o (-1)] 27*a9 w w.heap.size)):=((h3.below hb).new #[j o 1,j o (-1)] 27).eq (by ac_rfl);have x5:=(x3.below hb).alloc (.cells #[j o 1,j o (-1)] 27);obtain⟨c0,c1⟩:=h5.cells2;have cl:=h5.lt;obtain⟨d0,d1⟩:=h5.right.cells2;have X:=h5.right.lt;go_wp2_with fail
  go_ret;exact⟨rfl,ap h5.right.right x5⟩
 obtain⟨K,rfl⟩:=G (show 0≤C by omega);obtain⟨n,rfl⟩:=G (show 0≤N by omega);have HN:=D (fun R w h=>kO K n (by omega) (by omega) (by omega) (by omega) R w h);have HNS:=D (fun R w h=>yX K n (by omega) (by omega) (by omega) (by omega) R w h);have HS0:Hid ((Wc.new K n).Ok []∧(Wc.new K n).σ.cs.length=K):=D (by obtain⟨a,_,c⟩:=Safe.new (cores:=K) (n:=n) (by omega) (by omega) (by omega) (by omega);exact⟨Wc.Ok.new (by omega) (by omega) (by omega) (by omega),c⟩);have hm200:=D (show m≤200 by omega);clear hbad hbig;go_enter func9,ntmps9;go_wp2_with fail
 refine(HB.out _).mono ?_;rintro e w1 ⟨rfl,hb⟩;have h1:=h0.below hb;have x1:=x0.below hb;clear h0 x0 hb HB;go_wp2_with fail
 refine(HG.out _).mono ?_;rintro e w2 ⟨rfl,hw⟩;subst hw;clear HG;go_wp2_with fail
 refine(HN.out _ _ h1).mono ?_;rintro e w3 ⟨p,sp,rfl,h3,x3⟩;have h4:I _ (aa w3.heap.size #[j o 0,j o 0] 27*(ar p sp [[]] 0 (List.replicate K 0)*(ah sp (Sc.new K n)*a9 w w.heap.size))):=h3.new #[j o 0,j o 0] 27;have x4:=(x1.trans x3).alloc (.cells #[j o 0,j o 0] 27);clear h1 x1 h3 x3 HN;go_upto_region 6 with fail;generalize w3.alloc _=w4 at*
 generalize w3.heap.size=X1 at*
 go_wp2_with fail
 refine(HNS.out _ _ h4).mono ?_;rintro e w5 ⟨q,rfl,h5,x5⟩;have h6:I _ (aa X1 #[j o 0,j o 0] 27*(aa w5.heap.size #[j o 0,j o 0] 27*(ar p sp [[]] 0 (List.replicate K 0)*(ah sp (Sc.new K n)*(ah q (Sc.new K n)*a9 w w.heap.size))))):=(h5.new #[j o 0,j o 0] 27).eq (by ac_rfl);have x6:=(x4.trans x5).alloc (.cells #[j o 0,j o 0] 27);clear h4 x4 h5 x5 HNS;obtain⟨c0,c1⟩:=h6.cells2;have cl:=h6.lt;obtain⟨d0,d1⟩:=h6.right.cells2;have X:=h6.right.lt;go_upto_region 9 with fail;generalize w5.alloc _=w6 at*
 generalize w5.heap.size=X2 at*
 clear c0 c1 cl d0 d1 X;have h10:I w6 (ar p sp (Wc.new K n).H (Wc.new K n).f (Wc.new K n).since *(ah sp (Wc.new K n).σ*(ah q (Wc.new K n).σ*(aa X1 #[j o 0,j o 0] 27*(aa X2 #[j o 0,j o 0] 27*a9 w w.heap.size))))):=h6.eq (show _=ar p sp [[]] 0 (List.replicate K 0)*(ah sp (Sc.new K n)*(ah q (Sc.new K n)*(aa X1 #[j o 0,j o 0] 27*(aa X2 #[j o 0,j o 0] 27*a9 w w.heap.size)))) by ac_rfl);have HL0:Hid ((Wc.new K n).H.length ≤1+0):=D (Nat.le_refl _);clear h6;go_wp2_with fail
 generalize Wc.new K n=W0 at*
 go_loopw [11] (fun t11 wr=>∃(i:Nat) (W:Wc) (P:List Mp),i≤m∧t11=j o i∧Hid (W.Ok P∧W.σ.cs.length=K)∧Hid (W.H.length≤1+i)∧I wr (ar p sp W.H W.f W.since*(ah sp W.σ*(ah q W.σ*(aa X1 #[j o 0,j o 0] 27*(aa X2 #[j o 0,j o 0] 27*a9 w w.heap.size)))))∧T w wr) (fun t11 _=>m - (intOf t11).toNat)
 case atStart=>exact⟨0,W0,[],by omega,rfl,HS0,HL0,h10,x6⟩
 case round=>
  clear h10 x6 HS0 HL0;obtain⟨i,W1,P1,hi,rfl,hS1,hL1,hr,hx⟩:=hrel;by_cases hlt:i<m
  ·have hil:i<L.length:=by have:=hL.out;omega
   obtain⟨b',off,hb,-⟩:=(hB.out.old1 hr.right.right.r3 hx).stp hil;subst hb;obtain⟨y,hy⟩:∃y,L[i]=y:=⟨_,rfl⟩;have hyo:y.ok:=by rw[←hy];exact hLO.out _ (List.getElem_mem hil)
   have HD:=D (fun(w':O) (h:I w' (a9 w w.heap.size)) (e:T w w')=>(hB.out.old1 h e).stpAt hil hy);clear hy;have hb1:W1.H.length≤999999:=by have:=hL1.out;have:=hm200.out;omega
   have hn1:=hS1.out.1.hist.ne;have HLI:=D (fun R w h=>n9 sp W1.σ hS1.out.1.safe.wf R w h);have HTA:=D (fun R w h=>vE sp W1.σ hS1.out.1.safe.wf R w h);have HTI:=D (fun R w h=>qS p sp W1.H W1.f W1.since hn1 R w h);have HKE:=D (fun R w h=>yY sp W1.σ hS1.out.1.safe.ok y.core R w h);have HSM:=D (fun(hc:(W1.act y).2.code≠0)=>sw hc);have HW:Hid (∀R w,I w (ar p sp W1.H W1.f W1.since*(ah sp W1.σ*R))→U prog 37 #[.pointer (u (F p 0 r)),.agg #[j o y.kind,j o y.core,j o y.m.page,j o y.m.size,j o y.m.frame,j o y.m.rights,j o y.a.page,j o y.a.kind,J y.a.user]] w
     (cN (.tuple #[(W1.act y).2.val,.agg #[j o 0,j o 0]]) (ar p sp (W1.act y).1.H (W1.act y).1.f (W1.act y).1.since*(ah sp (W1.act y).1.σ*R)) w)):=D (fun R w h=>ye p sp W1 P1 y hS1.out.1 hyo hb1 R w h)
   have HR:Hid (∀R w,I w (ah q W1.σ*R)→U prog 16 #[.pointer (u (F q 0 r)),.agg #[j o y.kind,j o y.core,j o y.m.page,j o y.m.size,j o y.m.frame,j o y.m.rights,j o y.a.page,j o y.a.kind,J y.a.user]] w
     (cN (W1.act y).2.val (ah q (W1.act y).1.σ*R) w)):=D (fun R w h=>Ae q W1.σ y hS1.out.1.safe.ok hS1.out.1.safe.calm hyo R w h)
   have HS2:Hid ((W1.act y).1.Ok (Safe.prevOf W1.σ P1 y)∧(W1.act y).1.σ.cs.length=K):=D ⟨hS1.out.1.act y,(hS1.out.1.safe.n_act y).2.trans hS1.out.2⟩;have HL2:Hid ((W1.act y).1.H.length≤1+(i+1)):=D (by have:=Wc.hist_len W1 y;have:=hL1.out;omega);unfold Ev.val at HW HR;clear hS1 hyo hb1 hL1;generalize W1.act y=z at*
   generalize Safe.prevOf W1.σ P1 y=P2 at*
   obtain⟨W2,⟨ec,ef,⟨ea,eb,er⟩,ek⟩⟩:=z;obtain⟨yk,yc,ym,ya⟩:=y;dsimp only at*
   have hlt':(i:Int)<m:=by omega
   have hi0:(0:Int)≤i:=by omega
   have pl:=(ct hr).1;have HK:=D (fun(w':O) (R':ae) (h:I w' (ar p sp W1.H W1.f W1.since*R'))=>((ct h).2:w'.cell? (F p 0 r)=u (.pointer (u (F sp 0 r)))));go_upto_region 12 with fail;go_cut [12,13,14] from 51 to 62 (fun s12 s13 s14 wx=>∃(A1:Option V) (c1:Nat) (B1:Option V) (d1:Nat),s12= .slice A1 (bE W1.σ.s 0).length c1∧s13= .slice B1 (cR W1.σ.s 0).length d1∧s14=j o ((W1.H.length:Int) - 1)∧
    I wx (ar p sp W1.H W1.f W1.since*(ah sp W1.σ*(ah q W1.σ*(bh (.slice A1 (bE W1.σ.s 0).length c1) (bE W1.σ.s 0)*(am (.slice B1 (cR W1.σ.s 0).length d1) (cR W1.σ.s 0)*(aa X1 #[j o 0,j o 0] 27*(aa X2 #[j o 0,j o 0] 27*a9 w w.heap.size)))))))∧T w wx)
   case first=>
    clear HW HR HS2 HL2 HSM HKE HD;have hd:=hr.drew;have xd:=hx.drew;go_region_held3 (fun w'=>w'.cell? (F p 0 r)=u (.pointer (u (F sp 0 r)))) (first|(with_reducible exact HK.out _ _ hd)|(with_reducible exact HK.out _ _ hP)|(with_reducible exact HK.out _ _ hT)|go_keep)
     (first
      |(go_at_call 21;(with_reducible refine(HLI.out _ _ hd.p2).mono ?_);rintro e w5 ⟨A1,c1,rfl,h5,x5⟩;have hP:I w5 (ar p sp W1.H W1.f W1.since*(ah sp W1.σ*(bh (.slice A1 (bE W1.σ.s 0).length c1) (bE W1.σ.s 0)*(ah q W1.σ*(aa X1 #[j o 0,j o 0] 27*(aa X2 #[j o 0,j o 0] 27*a9 w w.heap.size)))))):=h5.eq (by ac_rfl);have xP:=xd.trans x5)
      |(go_at_call 23;(with_reducible refine(HTA.out _ _ hP.p2).mono ?_);rintro e w6 ⟨B1,d1,rfl,h6,x6⟩;have hT:I w6 (ar p sp W1.H W1.f W1.since*(ah sp W1.σ*(ah q W1.σ*(bh (.slice A1 (bE W1.σ.s 0).length c1) (bE W1.σ.s 0)*(am (.slice B1 (cR W1.σ.s 0).length d1) (cR W1.σ.s 0)*(aa X1 #[j o 0,j o 0] 27*(aa X2 #[j o 0,j o 0] 27*a9 w w.heap.size))))))):=h6.eq (by ac_rfl);have xT:=xP.trans x6)
      |(go_at_call 42;(with_reducible refine(HTI.out _ _ hT).mono ?_);rintro e w7 ⟨rfl,rfl⟩))
    all_goals
     go_wp2_with fail
     go_meet
     case rel=>exact⟨A1,c1,B1,d1,rfl,rfl,rfl,hT,xT⟩
   case rest=>
    obtain⟨A1,c1,B1,d1,rfl,rfl,rfl,h3,x3⟩:=hcut;clear hr hx;go_upto_region 13 with fail;go_cut [15] from 63 to 72 (fun s15 wx=>∃(D1:Option V) (e1:Nat),s15= .slice D1 (W1.σ.kept yc).length e1∧
     I wx (ar p sp W1.H W1.f W1.since*(ah sp W1.σ*(ah q W1.σ*(bh (.slice A1 (bE W1.σ.s 0).length c1) (bE W1.σ.s 0)*(am (.slice B1 (cR W1.σ.s 0).length d1) (cR W1.σ.s 0)*(dC (.slice D1 (W1.σ.kept yc).length e1) (W1.σ.kept yc)*(aa X1 #[j o 0,j o 0] 27*(aa X2 #[j o 0,j o 0] 27*a9 w w.heap.size))))))))∧T w wx)
    case first=>
     clear HW HR HS2 HL2 HSM HLI HTA HTI;have hd:=h3.drew;have xd:=x3.drew;have HK2:=D (fun(w':O) (h:I w' (ar p sp W1.H W1.f W1.since*(ah sp W1.σ*(ah q W1.σ*(bh (.slice A1 (bE W1.σ.s 0).length c1) (bE W1.σ.s 0)*(am (.slice B1 (cR W1.σ.s 0).length d1) (cR W1.σ.s 0)*(aa X1 #[j o 0,j o 0] 27*(aa X2 #[j o 0,j o 0] 27*a9 w w.heap.size)))))))) (e:T w w')=>(⟨(ct h).2,(HD.out _ h.right.right.right.right.r3 e).2.2.1⟩:(w'.cell? (F p 0 r)=u (.pointer (u (F sp 0 r))))∧(w'.cell? ⟨b',off+i*9+1,r⟩=u (j o yc))));have X:=(HD.out _ h3.right.right.right.right.r3 x3).1;have pl:=(ct h3).1;have HK3:=D (fun(w':O) (P1 P2 P3 P4 P5:ae) (h:I w' (ar p sp W1.H W1.f W1.since*(P1*(P2*(P3*(P4*(P5*(aa X1 #[j o 0,j o 0] 27*(aa X2 #[j o 0,j o 0] 27*a9 w w.heap.size))))))))) (e:T w w')=>(⟨(ct h).2,(HD.out _ h.right.right.right.right.right.r3 e).2.2.1⟩:(w'.cell? (F p 0 r)=u (.pointer (u (F sp 0 r))))∧(w'.cell? ⟨b',off+i*9+1,r⟩=u (j o yc))));go_region_held3 (fun w'=>(w'.cell? (F p 0 r)=u (.pointer (u (F sp 0 r))))∧(w'.cell? ⟨b',off+i*9+1,r⟩=u (j o yc))) (first|(with_reducible exact HK2.out _ hd xd)|(with_reducible exact HK3.out _ _ _ _ _ _ hP xP)|go_keep)
      (first
       |(go_at_call 30;(with_reducible refine(HKE.out _ _ hd.p2).mono ?_);rintro e w5 ⟨D1,e1,rfl,h5,x5⟩;have hP:I w5 (ar p sp W1.H W1.f W1.since*(ah sp W1.σ*(ah q W1.σ*(bh (.slice A1 (bE W1.σ.s 0).length c1) (bE W1.σ.s 0)*(am (.slice B1 (cR W1.σ.s 0).length d1) (cR W1.σ.s 0)*(dC (.slice D1 (W1.σ.kept yc).length e1) (W1.σ.kept yc)*(aa X1 #[j o 0,j o 0] 27*(aa X2 #[j o 0,j o 0] 27*a9 w w.heap.size)))))))):=h5.eq (by ac_rfl);have xP:=xd.trans x5))
     all_goals
      go_wp2_with fail
      go_meet
      case rel=>exact⟨D1,e1,rfl,hP,xP⟩
    case rest=>
     obtain⟨D1,e1,rfl,h4,x4⟩:=hcut;clear h3 x3 pl HK;obtain⟨X,d0,d1',d2,d3,d4,d5,d6,d7,d8⟩:=HD.out _ h4.right.right.right.right.right.r3 x4;go_upto_region 14 with fail;go_wp2_with fail
     refine(HW.out _ _ h4).mono ?_;rintro e w5 ⟨rfl,h5,x5⟩;have h6:I _ (ah q W1.σ*(ar p sp W2.H W2.f W2.since*(ah sp W2.σ*(aa w5.heap.size #[j o ec,J ef,j o ea,j o eb,j o er,J ek] 36*(aa (w5.heap.size+1) #[j o 0,j o 0] 27*(bh (.slice A1 (bE W1.σ.s 0).length c1) (bE W1.σ.s 0)*(am (.slice B1 (cR W1.σ.s 0).length d1) (cR W1.σ.s 0)*(dC (.slice D1 (W1.σ.kept yc).length e1) (W1.σ.kept yc)*(aa X1 #[j o 0,j o 0] 27*(aa X2 #[j o 0,j o 0] 27*a9 w w.heap.size)))))))))):=((h5.new #[j o ec,J ef,j o ea,j o eb,j o er,J ek] 36).new #[j o 0,j o 0] 27).eq (by simp only[World.size_alloc]<;>ac_rfl);have x6:=((x4.trans x5).alloc (.cells #[j o ec,J ef,j o ea,j o eb,j o er,J ek] 36)).alloc (.cells #[j o 0,j o 0] 27);clear h4 x4 h5 x5 HW X d0 d1' d2 d3 d4 d5 d6 d7 d8;go_upto_region 15 with fail;generalize (w5.alloc (.cells #[j o ec,J ef,j o ea,j o eb,j o er,J ek] 36)).alloc (.cells #[j o 0,j o 0] 27)=w6 at*
     generalize w5.heap.size+1=FX at*
     generalize w5.heap.size=EX at*
     have HK:=D (fun(w':O) (P1 P2 P3 P4:ae) (h:I w' (P1*(P2*(P3*(aa EX #[j o ec,J ef,j o ea,j o eb,j o er,J ek] 36*(P4*(bh (.slice A1 (bE W1.σ.s 0).length c1) (bE W1.σ.s 0)*(am (.slice B1 (cR W1.σ.s 0).length d1) (cR W1.σ.s 0)*(dC (.slice D1 (W1.σ.kept yc).length e1) (W1.σ.kept yc)*(aa X1 #[j o 0,j o 0] 27*(aa X2 #[j o 0,j o 0] 27*a9 w w.heap.size))))))))))) (e:T w w')=>(⟨h.r3.cells6,(HD.out _ h.right.right.right.right.right.right.right.r3 e).2⟩:(w'.cell? (F EX 0 r)=u (j o ec)∧w'.cell? (F EX 1 r)=u (J ef)∧w'.cell? (F EX 2 r)=u (j o ea)∧w'.cell? (F EX 3 r)=u (j o eb)∧w'.cell? (F EX 4 r)=u (j o er)∧w'.cell? (F EX 5 r)=u (J ek))∧(w'.cell? ⟨b',off+i*9,r⟩=u (j o yk)∧w'.cell? ⟨b',off+i*9+1,r⟩=u (j o yc)∧w'.cell? ⟨b',off+i*9+2,r⟩=u (j o ym.page)∧w'.cell? ⟨b',off+i*9+3,r⟩=u (j o ym.size)∧w'.cell? ⟨b',off+i*9+4,r⟩=u (j o ym.frame)∧w'.cell? ⟨b',off+i*9+5,r⟩=u (j o ym.rights)∧w'.cell? ⟨b',off+i*9+6,r⟩=u (j o ya.page)∧w'.cell? ⟨b',off+i*9+7,r⟩=u (j o ya.kind)∧w'.cell? ⟨b',off+i*9+8,r⟩=u (J ya.user))));have X:=(HD.out _ h6.right.right.right.right.right.right.right.r3 x6).1;have el:=h6.r3.lt;go_cut [89] from 82 to 89 (fun s89 wx=>s89=J E∧I wx (ah q W2.σ*(ar p sp W2.H W2.f W2.since*(ah sp W2.σ*(aa EX #[j o ec,J ef,j o ea,j o eb,j o er,J ek] 36*(aa FX #[j o 0,j o 0] 27*(bh (.slice A1 (bE W1.σ.s 0).length c1) (bE W1.σ.s 0)*(am (.slice B1 (cR W1.σ.s 0).length d1) (cR W1.σ.s 0)*(dC (.slice D1 (W1.σ.kept yc).length e1) (W1.σ.kept yc)*(aa X1 #[j o 0,j o 0] 27*(aa X2 #[j o 0,j o 0] 27*a9 w w.heap.size))))))))))∧T w wx)
     case first=>
      clear HS2 HL2 HSM HLI HTA HTI HKE;have hd:=h6.drew;have xd:=x6.drew;go_region_held3 (fun w'=>(w'.cell? (F EX 0 r)=u (j o ec)∧w'.cell? (F EX 1 r)=u (J ef)∧w'.cell? (F EX 2 r)=u (j o ea)∧w'.cell? (F EX 3 r)=u (j o eb)∧w'.cell? (F EX 4 r)=u (j o er)∧w'.cell? (F EX 5 r)=u (J ek))∧(w'.cell? ⟨b',off+i*9,r⟩=u (j o yk)∧w'.cell? ⟨b',off+i*9+1,r⟩=u (j o yc)∧w'.cell? ⟨b',off+i*9+2,r⟩=u (j o ym.page)∧w'.cell? ⟨b',off+i*9+3,r⟩=u (j o ym.size)∧w'.cell? ⟨b',off+i*9+4,r⟩=u (j o ym.frame)∧w'.cell? ⟨b',off+i*9+5,r⟩=u (j o ym.rights)∧w'.cell? ⟨b',off+i*9+6,r⟩=u (j o ya.page)∧w'.cell? ⟨b',off+i*9+7,r⟩=u (j o ya.kind)∧w'.cell? ⟨b',off+i*9+8,r⟩=u (J ya.user))) (first|(with_reducible exact HK.out _ _ _ _ _ hd xd)|(with_reducible exact HK.out _ _ _ _ _ hP xP)|go_keep)
       (first
        |(go_at_call 16;(with_reducible refine(HR.out _ _ hd).mono ?_);rintro e w7 ⟨rfl,hP,x7⟩;have xP:=xd.trans x7))
      all_goals
       go_wp2_with fail
       go_meet
       case rel=>exact⟨by first|rfl|simp,hP,xP⟩
     case rest=>
      obtain⟨rfl,h7,x7⟩:=hcut;clear h6 x6 HR HK;go_upto_region 17 with fail;have el:=h7.r3.lt;go_cut [141] from 90 to 141 (fun s141 wx=>s141=J E∧I wx (ah q W2.σ*(ar p sp W2.H W2.f W2.since*(ah sp W2.σ*(aa X1 #[j o 0,j o 0] 27*(aa X2 #[j o 0,j o 0] 27*a9 w w.heap.size)))))∧T w wx)
      case first=>
       clear HS2 HL2;have hd:=h7.drew;have xd:=x7.drew;by_cases hc:ec=0
       ·
        as_aux_lemma=>
        subst hc;have HEND:I wc.drew (ah q W2.σ*(ar p sp W2.H W2.f W2.since*(ah sp W2.σ*(aa X1 #[j o 0,j o 0] 27*(aa X2 #[j o 0,j o 0] 27*a9 w w.heap.size))))):=(hd.eq (show _=aa EX #[j o 0,J ef,j o ea,j o eb,j o er,J ek] 36*(aa FX #[j o 0,j o 0] 27*(bh (.slice A1 (bE W1.σ.s 0).length c1) (bE W1.σ.s 0)*(am (.slice B1 (cR W1.σ.s 0).length d1) (cR W1.σ.s 0)*(dC (.slice D1 (W1.σ.kept yc).length e1) (W1.σ.kept yc)*(ah q W2.σ*(ar p sp W2.H W2.f W2.since*(ah sp W2.σ*(aa X1 #[j o 0,j o 0] 27*(aa X2 #[j o 0,j o 0] 27*a9 w w.heap.size))))))))) by ac_rfl)).r5;have cE:=hd.r3.cell 0;clear HD HSM HLI HTA HTI HKE hd h7 x7 X;refine wp_region_held_drew (S:=fun w'=>w'.cell? (F EX 0 r)=u (j o 0)) (by kernel_rfl) cE (fun hHeld=> ?_);refine wpAnyH_take (i:=0) (v:= ?_) rfl (by kernel_rfl) (by kernel_rfl) (by kernel_rfl) (fun _ _ _ h=>h) (Or.inl ⟨by kernel_rfl,?_⟩) hHeld ?_;rotate_left;focus (intro wS hSw;(try dsimp only at hSw);go_simp;first|done|with_reducible rfl)
        try go_simp
        refine wpAnyH_take (i:=1) (v:= ?_) rfl (by kernel_rfl) (by kernel_rfl) (by kernel_rfl) (fun _ _ _ h=>h) (Or.inl ⟨by kernel_rfl,?_⟩) hHeld ?_;rotate_left;focus (intro wS hSw;(try dsimp only at hSw);go_simp;first|done|with_reducible rfl)
        try go_simp
        refine wpAnyH_take (i:=2) (v:= ?_) rfl (by kernel_rfl) (by kernel_rfl) (by kernel_rfl) (fun _ _ _ h=>h) (Or.inl ⟨by kernel_rfl,?_⟩) hHeld ?_;rotate_left;focus (intro wS hSw;(try dsimp only at hSw);go_simp;first|done|with_reducible rfl)
        try go_simp
        refine wpAnyH_take (i:=3) (v:= ?_) rfl (by kernel_rfl) (by kernel_rfl) (by kernel_rfl) (fun _ _ _ h=>h) (Or.inl ⟨by kernel_rfl,?_⟩) hHeld ?_;rotate_left;focus (intro wS hSw;(try dsimp only at hSw);go_simp;first|done|with_reducible rfl)
        try go_simp
        refine wpAnyH_take (i:=4) rfl (by kernel_rfl) (by kernel_rfl) (by kernel_rfl) (fun _ _ _ h=>h) (Or.inr ⟨by kernel_rfl,rfl⟩) hHeld ?_;try go_simp
        refine wpAnyH_take (i:=5) rfl (by kernel_rfl) (by kernel_rfl) (by kernel_rfl) (fun _ _ _ h=>h) (Or.inr ⟨by kernel_rfl,rfl⟩) hHeld ?_;try go_simp
        refine wpAnyH_take (i:=6) rfl (by kernel_rfl) (by kernel_rfl) (by kernel_rfl) (fun _ _ _ h=>h) (Or.inr ⟨by kernel_rfl,rfl⟩) hHeld ?_;try go_simp
        refine wpAnyH_take (i:=7) rfl (by kernel_rfl) (by kernel_rfl) (by kernel_rfl) (fun _ _ _ h=>h) (Or.inr ⟨by kernel_rfl,rfl⟩) hHeld ?_;try go_simp
        refine wpAnyH_take (i:=8) rfl (by kernel_rfl) (by kernel_rfl) (by kernel_rfl) (fun _ _ _ h=>h) (Or.inr ⟨by kernel_rfl,rfl⟩) hHeld ?_;try go_simp
        refine wpAnyH_take (i:=9) rfl (by kernel_rfl) (by kernel_rfl) (by kernel_rfl) (fun _ _ _ h=>h) (Or.inr ⟨by kernel_rfl,rfl⟩) hHeld ?_;try go_simp
        refine wpAnyH_take (i:=10) rfl (by kernel_rfl) (by kernel_rfl) (by kernel_rfl) (fun _ _ _ h=>h) (Or.inr ⟨by kernel_rfl,rfl⟩) hHeld ?_;try go_simp
        refine wpAnyH_take (i:=11) rfl (by kernel_rfl) (by kernel_rfl) (by kernel_rfl) (fun _ _ _ h=>h) (Or.inr ⟨by kernel_rfl,rfl⟩) hHeld ?_;try go_simp
        refine wpAnyH_take (i:=12) rfl (by kernel_rfl) (by kernel_rfl) (by kernel_rfl) (fun _ _ _ h=>h) (Or.inr ⟨by kernel_rfl,rfl⟩) hHeld ?_;try go_simp
        refine wpAnyH_take (i:=13) rfl (by kernel_rfl) (by kernel_rfl) (by kernel_rfl) (fun _ _ _ h=>h) (Or.inr ⟨by kernel_rfl,rfl⟩) hHeld ?_;try go_simp
        refine wpAnyH_take (i:=14) rfl (by kernel_rfl) (by kernel_rfl) (by kernel_rfl) (fun _ _ _ h=>h) (Or.inr ⟨by kernel_rfl,rfl⟩) hHeld ?_;try go_simp
        refine wpAnyH_take (i:=15) rfl (by kernel_rfl) (by kernel_rfl) (by kernel_rfl) (fun _ _ _ h=>h) (Or.inr ⟨by kernel_rfl,rfl⟩) hHeld ?_;try go_simp
        refine wpAnyH_take (i:=16) rfl (by kernel_rfl) (by kernel_rfl) (by kernel_rfl) (fun _ _ _ h=>h) (Or.inr ⟨by kernel_rfl,rfl⟩) hHeld ?_;try go_simp
        refine wpAnyH_take (i:=17) rfl (by kernel_rfl) (by kernel_rfl) (by kernel_rfl) (fun _ _ _ h=>h) (Or.inr ⟨by kernel_rfl,rfl⟩) hHeld ?_;try go_simp
        refine wpAnyH_take (i:=18) rfl (by kernel_rfl) (by kernel_rfl) (by kernel_rfl) (fun _ _ _ h=>h) (Or.inr ⟨by kernel_rfl,rfl⟩) hHeld ?_;try go_simp
        refine wpAnyH_take (i:=19) rfl (by kernel_rfl) (by kernel_rfl) (by kernel_rfl) (fun _ _ _ h=>h) (Or.inr ⟨by kernel_rfl,rfl⟩) hHeld ?_;try go_simp
        refine wpAnyH_take (i:=20) rfl (by kernel_rfl) (by kernel_rfl) (by kernel_rfl) (fun _ _ _ h=>h) (Or.inr ⟨by kernel_rfl,rfl⟩) hHeld ?_;try go_simp
        refine wpAnyH_take (i:=21) rfl (by kernel_rfl) (by kernel_rfl) (by kernel_rfl) (fun _ _ _ h=>h) (Or.inr ⟨by kernel_rfl,rfl⟩) hHeld ?_;try go_simp
        refine wpAnyH_take (i:=22) rfl (by kernel_rfl) (by kernel_rfl) (by kernel_rfl) (fun _ _ _ h=>h) (Or.inr ⟨by kernel_rfl,rfl⟩) hHeld ?_;try go_simp
        refine wpAnyH_take (i:=23) rfl (by kernel_rfl) (by kernel_rfl) (by kernel_rfl) (fun _ _ _ h=>h) (Or.inr ⟨by kernel_rfl,rfl⟩) hHeld ?_;try go_simp
        refine wpAnyH_take (i:=24) rfl (by kernel_rfl) (by kernel_rfl) (by kernel_rfl) (fun _ _ _ h=>h) (Or.inr ⟨by kernel_rfl,rfl⟩) hHeld ?_;try go_simp
        refine wpAnyH_take (i:=25) rfl (by kernel_rfl) (by kernel_rfl) (by kernel_rfl) (fun _ _ _ h=>h) (Or.inr ⟨by kernel_rfl,rfl⟩) hHeld ?_;try go_simp
        refine wpAnyH_take (i:=26) rfl (by kernel_rfl) (by kernel_rfl) (by kernel_rfl) (fun _ _ _ h=>h) (Or.inr ⟨by kernel_rfl,rfl⟩) hHeld ?_;try go_simp
        refine wpAnyH_take (i:=27) rfl (by kernel_rfl) (by kernel_rfl) (by kernel_rfl) (fun _ _ _ h=>h) (Or.inr ⟨by kernel_rfl,rfl⟩) hHeld ?_;try go_simp
        refine wpAnyH_take (i:=28) rfl (by kernel_rfl) (by kernel_rfl) (by kernel_rfl) (fun _ _ _ h=>h) (Or.inr ⟨by kernel_rfl,rfl⟩) hHeld ?_;try go_simp
        refine wpAnyH_take (i:=29) rfl (by kernel_rfl) (by kernel_rfl) (by kernel_rfl) (fun _ _ _ h=>h) (Or.inr ⟨by kernel_rfl,rfl⟩) hHeld ?_;try go_simp
        refine wpAnyH_take (i:=30) rfl (by kernel_rfl) (by kernel_rfl) (by kernel_rfl) (fun _ _ _ h=>h) (Or.inr ⟨by kernel_rfl,rfl⟩) hHeld ?_;try go_simp
        refine wpAnyH_take (i:=31) rfl (by kernel_rfl) (by kernel_rfl) (by kernel_rfl) (fun _ _ _ h=>h) (Or.inr ⟨by kernel_rfl,rfl⟩) hHeld ?_;try go_simp
        refine wpAnyH_take (i:=32) rfl (by kernel_rfl) (by kernel_rfl) (by kernel_rfl) (fun _ _ _ h=>h) (Or.inr ⟨by kernel_rfl,rfl⟩) hHeld ?_;try go_simp
        refine wpAnyH_take (i:=33) rfl (by kernel_rfl) (by kernel_rfl) (by kernel_rfl) (fun _ _ _ h=>h) (Or.inr ⟨by kernel_rfl,rfl⟩) hHeld ?_;try go_simp
        refine wpAnyH_take (i:=34) rfl (by kernel_rfl) (by kernel_rfl) (by kernel_rfl) (fun _ _ _ h=>h) (Or.inr ⟨by kernel_rfl,rfl⟩) hHeld ?_;try go_simp
        refine wpAnyH_take (i:=35) rfl (by kernel_rfl) (by kernel_rfl) (by kernel_rfl) (fun _ _ _ h=>h) (Or.inr ⟨by kernel_rfl,rfl⟩) hHeld ?_;try go_simp
        refine wpAnyH_take (i:=36) rfl (by kernel_rfl) (by kernel_rfl) (by kernel_rfl) (fun _ _ _ h=>h) (Or.inr ⟨by kernel_rfl,rfl⟩) hHeld ?_;try go_simp
        refine wpAnyH_take (i:=37) rfl (by kernel_rfl) (by kernel_rfl) (by kernel_rfl) (fun _ _ _ h=>h) (Or.inr ⟨by kernel_rfl,rfl⟩) hHeld ?_;try go_simp
        refine wpAnyH_take (i:=38) rfl (by kernel_rfl) (by kernel_rfl) (by kernel_rfl) (fun _ _ _ h=>h) (Or.inr ⟨by kernel_rfl,rfl⟩) hHeld ?_;try go_simp
        refine wpAnyH_take (i:=39) rfl (by kernel_rfl) (by kernel_rfl) (by kernel_rfl) (fun _ _ _ h=>h) (Or.inr ⟨by kernel_rfl,rfl⟩) hHeld ?_;try go_simp
        refine wpAnyH_take (i:=40) rfl (by kernel_rfl) (by kernel_rfl) (by kernel_rfl) (fun _ _ _ h=>h) (Or.inr ⟨by kernel_rfl,rfl⟩) hHeld ?_;try go_simp
        refine wpAnyH_take (i:=41) rfl (by kernel_rfl) (by kernel_rfl) (by kernel_rfl) (fun _ _ _ h=>h) (Or.inr ⟨by kernel_rfl,rfl⟩) hHeld ?_;try go_simp
        refine wpAnyH_take (i:=42) rfl (by kernel_rfl) (by kernel_rfl) (by kernel_rfl) (fun _ _ _ h=>h) (Or.inr ⟨by kernel_rfl,rfl⟩) hHeld ?_;try go_simp
        refine wpAnyH_take (i:=43) rfl (by kernel_rfl) (by kernel_rfl) (by kernel_rfl) (fun _ _ _ h=>h) (Or.inr ⟨by kernel_rfl,rfl⟩) hHeld ?_;try go_simp
        refine wpAnyH_take (i:=44) rfl (by kernel_rfl) (by kernel_rfl) (by kernel_rfl) (fun _ _ _ h=>h) (Or.inr ⟨by kernel_rfl,rfl⟩) hHeld ?_;try go_simp
        refine wpAnyH_take (i:=45) rfl (by kernel_rfl) (by kernel_rfl) (by kernel_rfl) (fun _ _ _ h=>h) (Or.inr ⟨by kernel_rfl,rfl⟩) hHeld ?_;try go_simp
        refine wpAnyH_take (i:=46) rfl (by kernel_rfl) (by kernel_rfl) (by kernel_rfl) (fun _ _ _ h=>h) (Or.inr ⟨by kernel_rfl,rfl⟩) hHeld ?_;try go_simp
        refine wpAnyH_take (i:=47) rfl (by kernel_rfl) (by kernel_rfl) (by kernel_rfl) (fun _ _ _ h=>h) (Or.inr ⟨by kernel_rfl,rfl⟩) hHeld ?_;try go_simp
        refine wpAnyH_take (i:=48) rfl (by kernel_rfl) (by kernel_rfl) (by kernel_rfl) (fun _ _ _ h=>h) (Or.inr ⟨by kernel_rfl,rfl⟩) hHeld ?_;try go_simp
        refine wpAnyH_take (i:=49) rfl (by kernel_rfl) (by kernel_rfl) (by kernel_rfl) (fun _ _ _ h=>h) (Or.inr ⟨by kernel_rfl,rfl⟩) hHeld ?_;try go_simp
        refine wpAnyH_take (i:=50) rfl (by kernel_rfl) (by kernel_rfl) (by kernel_rfl) (fun _ _ _ h=>h) (Or.inr ⟨by kernel_rfl,rfl⟩) hHeld ?_;try go_simp
        refine wpAnyH_take (i:=51) (v:= ?_) rfl (by kernel_rfl) (by kernel_rfl) (by kernel_rfl) (fun _ _ _ h=>h) (Or.inl ⟨by kernel_rfl,?_⟩) hHeld ?_;rotate_left;focus (intro wS hSw;(try dsimp only at hSw);go_simp;first|done|with_reducible rfl)
        try go_simp
        refine wpAnyH_done (by kernel_rfl) ?_ _;go_wp2_with fail
        go_meet
        case rel=>exact⟨by first|rfl|simp,HEND,xd⟩
       ·
        as_aux_lemma=>
        obtain⟨hW,hE⟩:=HSM.out hc;subst hW;injection hE with _ hE1 hE2 hE3
        injection hE2 with hE4 hE5 hE6
        subst hE1;subst hE3;subst hE4;subst hE5;subst hE6;have hcn:(ec !=0)=true:=by simpa using hc
        clear HSM hc;have HK:=D (fun(w':O) (R':ae) (h:I w' (ah q W2.σ*(ar p sp W2.H W2.f W2.since*(ah sp W2.σ*(aa EX #[j o ec,J E,j o 0,j o 0,j o 0,J E] 36*(R'*(aa X1 #[j o 0,j o 0] 27*(aa X2 #[j o 0,j o 0] 27*a9 w w.heap.size)))))))) (e:T w w')=>(⟨(ct h.right).2,h.r3.cells6,(HD.out _ h.right.right.right.right.r3 e).2.2.1⟩:(w'.cell? (F p 0 r)=u (.pointer (u (F sp 0 r))))∧(w'.cell? (F EX 0 r)=u (j o ec)∧w'.cell? (F EX 1 r)=u (J E)∧w'.cell? (F EX 2 r)=u (j o 0)∧w'.cell? (F EX 3 r)=u (j o 0)∧w'.cell? (F EX 4 r)=u (j o 0)∧w'.cell? (F EX 5 r)=u (J E))∧(w'.cell? ⟨b',off+i*9+1,r⟩=u (j o yc))));have pl:=(ct hd.right).1;have hP:I wc.drew (ah q W2.σ*(ar p sp W2.H W2.f W2.since*(ah sp W2.σ*(aa EX #[j o ec,J E,j o 0,j o 0,j o 0,J E] 36*((aa FX #[j o 0,j o 0] 27*(bh (.slice A1 (bE W2.σ.s 0).length c1) (bE W2.σ.s 0)*(am (.slice B1 (cR W2.σ.s 0).length d1) (cR W2.σ.s 0)*dC (.slice D1 (W2.σ.kept yc).length e1) (W2.σ.kept yc))))*(aa X1 #[j o 0,j o 0] 27*(aa X2 #[j o 0,j o 0] 27*a9 w w.heap.size))))))):=hd.eq (by ac_rfl);clear hd h7 x7 HD;go_region_held3 (fun w'=>(w'.cell? (F p 0 r)=u (.pointer (u (F sp 0 r))))∧(w'.cell? (F EX 0 r)=u (j o ec)∧w'.cell? (F EX 1 r)=u (J E)∧w'.cell? (F EX 2 r)=u (j o 0)∧w'.cell? (F EX 3 r)=u (j o 0)∧w'.cell? (F EX 4 r)=u (j o 0)∧w'.cell? (F EX 5 r)=u (J E))∧(w'.cell? ⟨b',off+i*9+1,r⟩=u (j o yc))) (first|(with_reducible exact HK.out _ _ hP xd)|(with_reducible exact HK.out _ _ hF xF)|(with_reducible exact HK.out _ _ hJ xJ)|(with_reducible exact HK.out _ _ hM xM)|(with_reducible exact HK.out _ _ hG xG)|(with_reducible exact HK.out _ _ hH xH)|go_keep)
         (first
          |(go_at_call 21;(with_reducible refine(HLI.out _ _ (hP.eq (show _=ah sp W2.σ*(ah q W2.σ*(ar p sp W2.H W2.f W2.since*(aa EX #[j o ec,J E,j o 0,j o 0,j o 0,J E] 36*((aa FX #[j o 0,j o 0] 27*(bh (.slice A1 (bE W2.σ.s 0).length c1) (bE W2.σ.s 0)*(am (.slice B1 (cR W2.σ.s 0).length d1) (cR W2.σ.s 0)*dC (.slice D1 (W2.σ.kept yc).length e1) (W2.σ.kept yc))))*(aa X1 #[j o 0,j o 0] 27*(aa X2 #[j o 0,j o 0] 27*a9 w w.heap.size)))))) by ac_rfl))).mono ?_);rintro e w8 ⟨A2,c2,rfl,h8,x8⟩;have hF:I w8 (ah q W2.σ*(ar p sp W2.H W2.f W2.since*(ah sp W2.σ*(aa EX #[j o ec,J E,j o 0,j o 0,j o 0,J E] 36*((aa FX #[j o 0,j o 0] 27*(bh (.slice A2 (bE W2.σ.s 0).length c2) (bE W2.σ.s 0)*(bh (.slice A1 (bE W2.σ.s 0).length c1) (bE W2.σ.s 0)*(am (.slice B1 (cR W2.σ.s 0).length d1) (cR W2.σ.s 0)*dC (.slice D1 (W2.σ.kept yc).length e1) (W2.σ.kept yc)))))*(aa X1 #[j o 0,j o 0] 27*(aa X2 #[j o 0,j o 0] 27*a9 w w.heap.size))))))):=h8.eq (by ac_rfl);have xF:=xd.trans x8)
          |(go_at_call 20;(with_reducible refine(jn (bE W2.σ.s 0) A1 A2 _ c1 _ c2 _ _ (hF.eq (show _=bh (.slice A1 (bE W2.σ.s 0).length c1) (bE W2.σ.s 0)*(bh (.slice A2 (bE W2.σ.s 0).length c2) (bE W2.σ.s 0)*(ah q W2.σ*(ar p sp W2.H W2.f W2.since*(ah sp W2.σ*(aa EX #[j o ec,J E,j o 0,j o 0,j o 0,J E] 36*(aa FX #[j o 0,j o 0] 27*(am (.slice B1 (cR W2.σ.s 0).length d1) (cR W2.σ.s 0)*(dC (.slice D1 (W2.σ.kept yc).length e1) (W2.σ.kept yc)*(aa X1 #[j o 0,j o 0] 27*(aa X2 #[j o 0,j o 0] 27*a9 w w.heap.size)))))))))) by ac_rfl))).mono ?_);rintro e w9 ⟨rfl,b9⟩;have hJ:=hF.below b9;have xJ:=xF.below b9)
          |(go_at_call 23;(with_reducible refine(HTA.out _ _ (hJ.eq (show _=ah sp W2.σ*(ah q W2.σ*(ar p sp W2.H W2.f W2.since*(aa EX #[j o ec,J E,j o 0,j o 0,j o 0,J E] 36*(aa FX #[j o 0,j o 0] 27*(bh (.slice A2 (bE W2.σ.s 0).length c2) (bE W2.σ.s 0)*(bh (.slice A1 (bE W2.σ.s 0).length c1) (bE W2.σ.s 0)*(am (.slice B1 (cR W2.σ.s 0).length d1) (cR W2.σ.s 0)*(dC (.slice D1 (W2.σ.kept yc).length e1) (W2.σ.kept yc)*(aa X1 #[j o 0,j o 0] 27*(aa X2 #[j o 0,j o 0] 27*a9 w w.heap.size)))))))))) by ac_rfl))).mono ?_);rintro e w10 ⟨B2,d2,rfl,h10,x10⟩;have hM:I w10 (ah q W2.σ*(ar p sp W2.H W2.f W2.since*(ah sp W2.σ*(aa EX #[j o ec,J E,j o 0,j o 0,j o 0,J E] 36*((aa FX #[j o 0,j o 0] 27*(bh (.slice A2 (bE W2.σ.s 0).length c2) (bE W2.σ.s 0)*(bh (.slice A1 (bE W2.σ.s 0).length c1) (bE W2.σ.s 0)*(am (.slice B2 (cR W2.σ.s 0).length d2) (cR W2.σ.s 0)*(am (.slice B1 (cR W2.σ.s 0).length d1) (cR W2.σ.s 0)*dC (.slice D1 (W2.σ.kept yc).length e1) (W2.σ.kept yc))))))*(aa X1 #[j o 0,j o 0] 27*(aa X2 #[j o 0,j o 0] 27*a9 w w.heap.size))))))):=h10.eq (by ac_rfl);have xM:=xJ.trans x10)
          |(go_at_call 22;(with_reducible refine(oD (cR W2.σ.s 0) B1 B2 _ d1 _ d2 _ _ (hM.eq (show _=am (.slice B1 (cR W2.σ.s 0).length d1) (cR W2.σ.s 0)*(am (.slice B2 (cR W2.σ.s 0).length d2) (cR W2.σ.s 0)*(ah q W2.σ*(ar p sp W2.H W2.f W2.since*(ah sp W2.σ*(aa EX #[j o ec,J E,j o 0,j o 0,j o 0,J E] 36*(aa FX #[j o 0,j o 0] 27*(bh (.slice A2 (bE W2.σ.s 0).length c2) (bE W2.σ.s 0)*(bh (.slice A1 (bE W2.σ.s 0).length c1) (bE W2.σ.s 0)*(dC (.slice D1 (W2.σ.kept yc).length e1) (W2.σ.kept yc)*(aa X1 #[j o 0,j o 0] 27*(aa X2 #[j o 0,j o 0] 27*a9 w w.heap.size))))))))))) by ac_rfl))).mono ?_);rintro e w11 ⟨rfl,b11⟩;have hG:=hM.below b11;have xG:=xM.below b11)
          |(go_at_call 42;(with_reducible refine(HTI.out _ _ hG.right).mono ?_);rintro e w12 ⟨rfl,rfl⟩)
          |(go_at_call 30;(with_reducible refine(HKE.out _ _ (hG.eq (show _=ah sp W2.σ*(ah q W2.σ*(ar p sp W2.H W2.f W2.since*(aa EX #[j o ec,J E,j o 0,j o 0,j o 0,J E] 36*(aa FX #[j o 0,j o 0] 27*(aa X1 #[j o 0,j o 0] 27*(aa X2 #[j o 0,j o 0] 27*a9 w w.heap.size))*(bh (.slice A2 (bE W2.σ.s 0).length c2) (bE W2.σ.s 0)*(bh (.slice A1 (bE W2.σ.s 0).length c1) (bE W2.σ.s 0)*(am (.slice B2 (cR W2.σ.s 0).length d2) (cR W2.σ.s 0)*(am (.slice B1 (cR W2.σ.s 0).length d1) (cR W2.σ.s 0)*dC (.slice D1 (W2.σ.kept yc).length e1) (W2.σ.kept yc))))))))) by ac_rfl))).mono ?_);rintro e w13 ⟨D2,e2,rfl,h13,x13⟩;have hH:I w13 (ah q W2.σ*(ar p sp W2.H W2.f W2.since*(ah sp W2.σ*(aa EX #[j o ec,J E,j o 0,j o 0,j o 0,J E] 36*((aa FX #[j o 0,j o 0] 27*(bh (.slice A2 (bE W2.σ.s 0).length c2) (bE W2.σ.s 0)*(bh (.slice A1 (bE W2.σ.s 0).length c1) (bE W2.σ.s 0)*(am (.slice B2 (cR W2.σ.s 0).length d2) (cR W2.σ.s 0)*(am (.slice B1 (cR W2.σ.s 0).length d1) (cR W2.σ.s 0)*(dC (.slice D2 (W2.σ.kept yc).length e2) (W2.σ.kept yc)*dC (.slice D1 (W2.σ.kept yc).length e1) (W2.σ.kept yc)))))))*(aa X1 #[j o 0,j o 0] 27*(aa X2 #[j o 0,j o 0] 27*a9 w w.heap.size))))))):=h13.eq (by ac_rfl);have xH:=xG.trans x13))
        all_goals
         go_wp2_with fail
         go_meet
         case rel=>exact⟨by first|rfl|simp,(hH.eq (show _=(aa EX #[j o ec,J E,j o 0,j o 0,j o 0,J E] 36*(aa FX #[j o 0,j o 0] 27*(bh (.slice A2 (bE W2.σ.s 0).length c2) (bE W2.σ.s 0)*(bh (.slice A1 (bE W2.σ.s 0).length c1) (bE W2.σ.s 0)*(am (.slice B2 (cR W2.σ.s 0).length d2) (cR W2.σ.s 0)*(am (.slice B1 (cR W2.σ.s 0).length d1) (cR W2.σ.s 0)*(dC (.slice D2 (W2.σ.kept yc).length e2) (W2.σ.kept yc)*dC (.slice D1 (W2.σ.kept yc).length e1) (W2.σ.kept yc))))))))*(ah q W2.σ*(ar p sp W2.H W2.f W2.since*(ah sp W2.σ*(aa X1 #[j o 0,j o 0] 27*(aa X2 #[j o 0,j o 0] 27*a9 w w.heap.size))))) by ac_rfl)).right,xH⟩
      case rest=>
       obtain⟨rfl,h8,x8⟩:=hcut;clear h7 x7 HSM HLI HTA HTI HKE HD el X;go_upto_region 19 with fail;have HL1:=D (fun R w h=>n9 q W2.σ HS2.out.1.safe.wf R w h);have HL3:=D (fun R w h=>n9 sp W2.σ HS2.out.1.safe.wf R w h);have HF1:=D (fun R w h=>uu q W2.σ R w h);have HF3:=D (fun R w h=>uu sp W2.σ R w h);generalize bE W2.σ.s 0=MM at*
       have HK:=D (fun(w':O) (P1 R':ae) (h:I w' (P1*(ar p sp W2.H W2.f W2.since*R')))=>((ct h.right).2:w'.cell? (F p 0 r)=u (.pointer (u (F sp 0 r)))));have pl:=(ct h8.right).1;have hd:=h8.drew;have xd:=x8.drew;go_region_held3 (fun w'=>w'.cell? (F p 0 r)=u (.pointer (u (F sp 0 r)))) (first|(with_reducible exact HK.out _ _ _ hd)|(with_reducible exact HK.out _ _ _ hP)|(with_reducible exact HK.out _ _ _ hF)|(with_reducible exact HK.out _ _ _ hJ)|go_keep)
        (first
         |(go_at_call 21;(with_reducible refine(HL1.out _ _ hd).mono ?_);rintro e w5 ⟨A3,c3,rfl,h5,x5⟩;have hP:I w5 (ah q W2.σ*(ar p sp W2.H W2.f W2.since*(ah sp W2.σ*(bh (.slice A3 MM.length c3) MM*(aa X1 #[j o 0,j o 0] 27*(aa X2 #[j o 0,j o 0] 27*a9 w w.heap.size)))))):=h5.eq (by ac_rfl);have xP:=xd.trans x5)
         |(go_at_call 21;(with_reducible refine(HL3.out _ _ (hP.eq (show _=ah sp W2.σ*(ah q W2.σ*(ar p sp W2.H W2.f W2.since*(bh (.slice A3 MM.length c3) MM*(aa X1 #[j o 0,j o 0] 27*(aa X2 #[j o 0,j o 0] 27*a9 w w.heap.size))))) by ac_rfl))).mono ?_);rintro e w6 ⟨A4,c4,rfl,h6,x6⟩;have hF:I w6 (ah q W2.σ*(ar p sp W2.H W2.f W2.since*(ah sp W2.σ*(bh (.slice A3 MM.length c3) MM*(bh (.slice A4 MM.length c4) MM*(aa X1 #[j o 0,j o 0] 27*(aa X2 #[j o 0,j o 0] 27*a9 w w.heap.size))))))):=h6.eq (by ac_rfl);have xF:=xP.trans x6)
         |(go_at_call 20;(with_reducible refine(jn MM A3 A4 _ c3 _ c4 _ _ (hF.eq (show _=bh (.slice A3 MM.length c3) MM*(bh (.slice A4 MM.length c4) MM*(ah q W2.σ*(ar p sp W2.H W2.f W2.since*(ah sp W2.σ*(aa X1 #[j o 0,j o 0] 27*(aa X2 #[j o 0,j o 0] 27*a9 w w.heap.size)))))) by ac_rfl))).mono ?_);rintro e w9 ⟨rfl,b9⟩;have hJ:=hF.below b9;have xJ:=xF.below b9)
         |(go_at_call 25;(with_reducible refine(HF1.out _ _ hJ).mono ?_);rintro e w7 ⟨rfl,rfl⟩)
         |(go_at_call 25;(with_reducible refine(HF3.out _ _ (hJ.eq (show _=ah sp W2.σ*(ah q W2.σ*(ar p sp W2.H W2.f W2.since*(bh (.slice A3 MM.length c3) MM*(bh (.slice A4 MM.length c4) MM*(aa X1 #[j o 0,j o 0] 27*(aa X2 #[j o 0,j o 0] 27*a9 w w.heap.size)))))) by ac_rfl))).mono ?_);rintro e w7 ⟨rfl,rfl⟩))
       all_goals
        go_wp2_with fail
        go_roundw
        case rel=>exact⟨i+1,W2,P2,by omega,by go_num,HS2,HL2,(hJ.eq (show _=bh (.slice A3 MM.length c3) MM*(bh (.slice A4 MM.length c4) MM*(ar p sp W2.H W2.f W2.since*(ah sp W2.σ*(ah q W2.σ*(aa X1 #[j o 0,j o 0] 27*(aa X2 #[j o 0,j o 0] 27*a9 w w.heap.size)))))) by ac_rfl)).right.right,xJ⟩
        case measure=>simp[intOf];omega
  ·obtain rfl:i=m:=by omega
   go_wp2_with fail
   go_ret;exact⟨rfl,ap hr.right.right.r3 hx⟩
end Go.Proofs.YtmfheghbgihdmaaGreat
