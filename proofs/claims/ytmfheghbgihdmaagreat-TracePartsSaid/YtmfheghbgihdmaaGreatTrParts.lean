/- The law TraceParts: the walk. -/
import Derived.Test.YtmfheghbgihdmaaGreatEvR
import Derived.Test.YtmfheghbgihdmaaGreatSpcO
namespace Go.Proofs.YtmfheghbgihdmaaGreat
open Go.Value renaming bool→vB
open Int renaming eq_ofNat_of_zero_le→f
open Go.Lib renaming hid→j
open Go.Value renaming int→o
open Go.IntKind renaming i64→p,wrap_i64→q
open Tryz
open Go.RowKit
set_option maxRecDepth 100000
theorem rf{P:Program}{w:World}{r:Reach}{base:Nat}{t e:TypeId}{a:Option Addr}{n c:Nat}(ht:P.underlying t=some (.slice e))(h:Value.okWide P w r base t (.slice a n c)):n≤c∧c≤9223372036854775807:=by
 simp only[Value.okWide,ht,Cell.okWide,Cell.ok] at h;cases a with
 |none=>
  cases n with
  |zero=>cases c with
   |zero=>omega
   |succ c=>simp at h
  |succ n=>simp at h
 |some a=>
  simp only at h;obtain⟨h1,h2,_⟩:=h;have:IntKind.i64.max=9223372036854775807:=by decide
  omega
def uP(T:Int)(m:Nat):Nat:=(IntKind.u64.wrap T).toNat % (m+1)
theorem xU(T:Int)(m:Nat):uP T m≤m:=by
 have:=Nat.mod_lt (IntKind.u64.wrap T).toNat (show 0<m+1 by omega);unfold uP;omega
theorem xV(T:Int)(m:Nat):(IntKind.u64.wrap T).tmod ((m:Int)+1)=(uP T m:Int):=by
 have hw:IntKind.u64.wrap T=T % 18446744073709551616:=IntKind.wrap_u64 T;obtain⟨u,hu⟩:∃u:Nat,IntKind.u64.wrap T=u:=f (by rw[hw];omega);unfold uP;rw[hu,Int.toNat_natCast];rw[Int.tmod_eq_emod_of_nonneg (by omega)];rfl
theorem Arr.take{w:World}{A:Option Addr}{n size:Nat}{ls:List (List Value)}(h:Arr w A n size ls){k:Nat}(hk:k≤n):Arr w A k size (ls.take k):=
 ⟨by rw[List.length_take,h.1];omega,by have:=h.2.1;omega,fun i xs hi=>h.2.2 i xs (by
  rw[List.getElem?_take] at hi;split at hi
  ·exact hi
  ·cases hi)⟩
theorem uQ{w:World}{R:ae}{A:Option Addr}{n c:Nat}{l:List Ev}(h:Has w (fO (.slice A n c) l*R)):n≤c∧c≤maxLen:=by
 have hn:=kT h;rcases(Has.rowCases (e:=36) (size:=6) h) with ⟨hv,h0,_⟩|⟨g,cap,cur,hv,h1,h2,_⟩
 ·injection hv with a b d
  subst d;exact⟨by omega,by unfold maxLen;omega⟩
 ·injection hv with a b d
  subst d;exact⟨by omega,h2⟩
set_option maxHeartbeats 8000000 in
theorem lY(C N:Int)(B:Option Addr)(m d:Nat)(L:List Stp)(T:Int)(w:World)(_:cy C)(_:cy N)(h2:Arr w B m 9 (L.map Stp.cells))(hLo:∀x∈L,x.ok)(_:cy T)(hcap:m≤d∧d≤9223372036854775807):
  Calls prog 8 #[o p C,o p N,.slice B m d,o p T] w (Pure (vB true) w):=by
 have hm2:=h2.2.1;have hB:=j h2;have hLO:=j hLo;have hL:=j (show L.length=m by simpa using h2.1);clear h2 hLo;have h0:=aM w;have x0:=Ext.refl w;have HB:=j (fun w=>jC w);have HG:=j (fun w=>eP B m d 300 w);by_cases hbig:(300:Int)<m
 ·rw[decide_eq_true hbig] at HG
  go_enter func8,ntmps8;go_wp2_with fail
  refine(HB.out _).mono ?_;rintro e w1 ⟨rfl,hb⟩;go_wp2_with fail
  refine(HG.out _).mono ?_;rintro e w2 ⟨rfl,hw⟩;subst hw;go_wp2_with fail
  go_ret;exact⟨rfl,ap (h0.below hb) (x0.below hb)⟩
 rw[decide_eq_false hbig] at HG;have hm300:m≤300:=by omega
 obtain⟨k,hk⟩:∃k,uP T m=k:=⟨_,rfl⟩;have hkm:k≤m:=hk▸xU T m;have hq:=j (xV T m);rw[hk] at hq;obtain⟨hc1,hc2⟩:=hcap;have hkd:(k:Int)≤d:=by omega
 have hk0:(0:Int)≤k:=by omega
 have hm1:IntKind.i64.wrap ((m:Int)+1)=(m:Int)+1:=by rw[q];omega
 have hm1':IntKind.u64.wrap ((m:Int)+1)=(m:Int)+1:=by rw[IntKind.wrap_u64];omega
 have hne:((m:Int)+1==0)=false:=by simp;omega
 have hne':((m:Int)+1=0)=False:=by simp;omega
 have hkw:IntKind.i64.wrap (k:Int)=k:=by rw[q];omega
 by_cases hbad:C<1∨4<C∨N<1∨128<N
 ·have HN:=j (fun m d w=>rn C N hbad B m d w)
  clear hbad;go_enter func8,ntmps8;go_wp2_with fail
  refine(HB.out _).mono ?_;rintro e w1 ⟨rfl,hb⟩;have h1:=h0.below hb;have x1:=x0.below hb;clear h0 x0 hb;go_wp2_with fail
  refine(HG.out _).mono ?_;rintro e w2 ⟨rfl,hw⟩;subst hw;go_upto_region 5 with fail;go_cut [9] from 20 to 27 (fun s9 wx=>s9=o p k∧wx=w1)
  case first=>
   have hq':=hq.out;go_wp2_with fail
   go_meet
   case rel=>exact⟨by first|rfl|(rw[hq'];exact congrArg _ hkw)|simp[hq',hkw],rfl⟩
  case rest=>
   obtain⟨rfl,hw⟩:=hcut;replace hw:=hw.symm;subst hw;go_wp2_with fail
   refine(HN.out _ _ _).mono ?_;rintro e w3 ⟨rfl,hb⟩;have h3:=(h1.below hb).new #[o p 1,o p (-1)] 27;have x3:=(x1.below hb).alloc (.cells #[o p 1,o p (-1)] 27);clear h1 x1 hb;go_upto_region 7 with fail;generalize w3.alloc _=w4 at*
   generalize w3.heap.size=X1 at*
   go_wp2_with fail
   refine(HN.out _ _ _).mono ?_;rintro e w5 ⟨rfl,hb⟩;have h5:=(h3.below hb).new #[o p 1,o p (-1)] 27;have x5:=(x3.below hb).alloc (.cells #[o p 1,o p (-1)] 27);clear h3 x3 hb;go_upto_region 8 with fail;generalize w5.alloc _=w6 at*
   generalize w5.heap.size=X2 at*
   go_wp2_with fail
   refine(HN.out _ _ _).mono ?_;rintro e w7 ⟨rfl,hb⟩;have h7:=(h5.below hb).new #[o p 1,o p (-1)] 27;have x7:=(x5.below hb).alloc (.cells #[o p 1,o p (-1)] 27);clear h5 x5 hb;go_upto_region 9 with fail;generalize w7.alloc _=w8 at*
   generalize w7.heap.size=X3 at*
   obtain⟨c0,c1⟩:=h7.cells2;have cl:=h7.lt;obtain⟨d0,d1⟩:=h7.right.cells2;have dl:=h7.right.lt;obtain⟨e0,e1⟩:=h7.right.right.cells2;have el:=h7.right.right.lt;go_wp2_with fail
   go_ret;exact⟨rfl,ap h7.r3 x7⟩
 obtain⟨K,rfl⟩:=f (show 0≤C by omega);obtain⟨n,rfl⟩:=f (show 0≤N by omega);have HN:=j (fun w (h2:Arr w B m 9 (L.map Stp.cells))=>vb K n (by omega) (by omega) (by omega) (by omega) B m d L w h2 hLO.out (by omega));have HN2:=j (fun w (h2:Arr w B m 9 (L.map Stp.cells))=>vb K n (by omega) (by omega) (by omega) (by omega) B k d (L.take k) w (by rw[List.map_take];exact h2.take hkm) (fun x hx=>hLO.out x (List.mem_of_mem_take hx)) (by omega));clear hbad;go_enter func8,ntmps8;go_wp2_with fail
 refine(HB.out _).mono ?_;rintro e w1 ⟨rfl,hb⟩;have h1:=h0.below hb;have x1:=x0.below hb;clear h0 x0 hb;go_wp2_with fail
 refine(HG.out _).mono ?_;rintro e w2 ⟨rfl,hw⟩;subst hw;go_upto_region 5 with fail;go_cut [9] from 20 to 27 (fun s9 wx=>s9=o p k∧wx=w1)
 case first=>
  have hq':=hq.out;go_wp2_with fail
  go_meet
  case rel=>exact⟨by first|rfl|(rw[hq'];exact congrArg _ hkw)|simp[hq',hkw],rfl⟩
 case rest=>
  obtain⟨rfl,hw⟩:=hcut;replace hw:=hw.symm;subst hw;go_wp2_with fail
  refine(HN.out _ (hB.out.old1 h1 x1)).mono ?_;rintro e w3 ⟨A1,c1,rfl,h3,x3⟩;have h4:=(h1.onto' h3).new #[o p 0,o p 0] 27;have x4:=(x1.trans x3).alloc (.cells #[o p 0,o p 0] 27);clear h1 x1 h3 x3;go_upto_region 7 with fail;generalize w3.alloc _=w4 at*
  generalize w3.heap.size=X1 at*
  go_wp2_with fail
  refine(HN2.out _ (hB.out.old1 h4.right.right x4)).mono ?_;rintro e w5 ⟨A2,c2,rfl,h5,x5⟩;have h6:=(h4.onto' h5).new #[o p 0,o p 0] 27;have x6:=(x4.trans x5).alloc (.cells #[o p 0,o p 0] 27);clear h4 x4 h5 x5;go_upto_region 8 with fail;generalize w5.alloc _=w6 at*
  generalize w5.heap.size=X2 at*
  go_wp2_with fail
  refine(HN.out _ (hB.out.old1 h6.right.r3 x6)).mono ?_;rintro e w7 ⟨A3,c3,rfl,h7,x7⟩;have h8:=(h6.onto' h7).new #[o p 0,o p 0] 27;have x8:=(x6.trans x7).alloc (.cells #[o p 0,o p 0] 27);clear h6 x6 h7 x7;go_upto_region 9 with fail;generalize w7.alloc _=w8 at*
  generalize w7.heap.size=X3 at*
  have h9:Has w8 (aa X1 #[o p 0,o p 0] 27*(aa X2 #[o p 0,o p 0] 27*(aa X3 #[o p 0,o p 0] 27*(fO (.slice A1 m c1) (cL (Sc.new K n) L)*(fO (.slice A2 k c2) (cL (Sc.new K n) (L.take k))*(fO (.slice A3 m c3) (cL (Sc.new K n) L)*a9 w w.heap.size)))))):=h8.eq (by ac_rfl);clear h8;obtain⟨c0,c1'⟩:=h9.cells2;have cl:=h9.lt;obtain⟨d0,d1⟩:=h9.right.cells2;have dl:=h9.right.lt;obtain⟨e0,e1⟩:=h9.right.right.cells2;have el:=h9.right.right.lt;obtain⟨hk1,hk2⟩:=uQ h9.r3;have hk3:c1≤9223372036854775807:=by unfold maxLen at hk2;omega
  have hk4:(k:Int)≤c1:=by omega
  have HA:=iV h9.r3;have HB2:=iV h9.right.r3;have HC:=iV h9.right.right.r3;have HA2:Arr w8 A1 k 6 ((cL (Sc.new K n) (L.take k)).map Ev.cells):=by
   rw[mV,List.map_take];exact HA.take hkm
  have HS1:=j (fun c=>ii (cL (Sc.new K n) (L.take k)) A2 A1 k c2 c w8 HB2 HA2);have HS2:=j (fun w9 (b:Below w8.heap.size w8 w9)=>ii (cL (Sc.new K n) L) A1 A3 m c1 c3 w9 (HA.below b) (HC.below b));have h10:=h9.right.right.right.r3;clear h9 HA HB2 HC HA2 hk2 hk1 HN HN2 HB HG;go_wp2_with fail
  refine(HS1.out _).mono ?_;rintro e w9 ⟨rfl,b9⟩;go_wp2_with fail
  refine(HS2.out _ b9).mono ?_;rintro e w10 ⟨rfl,b10⟩;go_wp2_with fail
  go_ret;exact⟨rfl,ap ((h10.below b9).below b10) ((x8.below b9).below b10)⟩
end Go.Proofs.YtmfheghbgihdmaaGreat
