/- That the first look at a Watch is true. -/
import Derived.Test.YtmfheghbgihdmaaGreatSpcO
import Derived.Test.YtmfheghbgihdmaaGreatWchN
import Derived.Test.YtmfheghbgihdmaaGreatMpRow
import Derived.Test.YtmfheghbgihdmaaGreatInsM2
import Derived.Test.YtmfheghbgihdmaaGreatRefEnt5
import Derived.Laws.OwnMore
namespace Go.Proofs.YtmfheghbgihdmaaGreat
open Go.Value renaming bool→vB
open Go.Addr renaming mk→aMk
open Go.Value renaming int→a
open Go.IntKind renaming i64→d
open Tryz
open Go.RowKit
set_option maxRecDepth 100000
def xX:Stp:=⟨1,0,⟨5,0,9,0⟩,⟨0,0,false⟩⟩
def wz0:Wc:=Wc.new 1 4
def wz1:Wc:=(wz0.act xX).1
theorem zY:(wz0.act xX).2=⟨0,false,⟨0,0,0⟩,true⟩:=by kernel_rfl
theorem uU:wz1.H.length=2:=by kernel_rfl
theorem vY:(bE wz1.σ.s 0).length =1:=by kernel_rfl
set_option maxHeartbeats 4000000 in
theorem fY(w:World):Calls prog 34 #[] w (Pure (vB true) w):=by
 have O0:=Wc.Ok.new (cores:=1) (n:=4) (by omega) (by omega) (by omega) (by omega);have O1:=O0.act xX;have HN:Hid (∀R w,Has w R→Calls prog 35 #[a d 1,a d 4] w fun e w'=>∃b sp,cN (.tuple #[.pointer (some (aMk b 0 none)),.agg #[a d 0,a d 0]]) (ar b sp wz0.H wz0.f wz0.since*(ah sp wz0.σ*R)) w e w'):=
  Lib.hid (fun R w h=>kO 1 4 (by omega) (by omega) (by omega) (by omega) R w h)
 have HD:=Lib.hid (fun b sp R w h=>ye b sp wz0 [] xX O0 (by unfold xX Stp.ok Mp.ok Ac.ok cy;decide) (by decide) R w h);have HT:=Lib.hid (fun b sp R w h=>qS b sp wz1.H wz1.f wz1.since (by rw[uU];omega) R w h);have HL:=Lib.hid (fun b R w h=>n9 (b:=b) (σ:=wz1.σ) (R:=R) (w:=w) O1.safe.wf h);rw[zY] at HD;unfold Ev.val at HD;rw[show(wz0.act xX).1=wz1 from rfl] at HD;unfold xX at HD;dsimp only at HD;rw[uU] at HT;rw[vY] at HL;clear O0 O1;have h0:=aM w;go_enter func34,ntmps34;go_wp2_with fail
 refine(HN.out _ _ h0).mono ?_;rintro e w1 ⟨b,sp,rfl,h1,x1⟩;have h2:Has _ (ar b sp wz0.H wz0.f wz0.since*(ah sp wz0.σ*(aa w1.heap.size #[a d 0,a d 0] 27*a9 w w.heap.size))):=(h1.new #[a d 0,a d 0] 27).eq (by ac_rfl);have x2:=x1.alloc (.cells #[a d 0,a d 0] 27);have c0:=h2.right.right.cell 0;have cl:=h2.right.right.lt;clear h1 x1 h0 HN;go_wp2_with fail
 refine(HD.out _ _ _ _ h2).mono ?_;rintro e w3 ⟨rfl,h3,x3⟩;have h4:Has _ (ar b sp wz1.H wz1.f wz1.since*(ah sp wz1.σ*(aa w3.heap.size #[a d 0,vB false,a d 0,a d 0,a d 0,vB true] 36*(aa (w3.heap.size+1) #[a d 0,a d 0] 27*(aa w1.heap.size #[a d 0,a d 0] 27*a9 w w.heap.size))))):=((h3.new #[a d 0,vB false,a d 0,a d 0,a d 0,vB true] 36).new #[a d 0,a d 0] 27).eq (by simp only[World.size_alloc]<;>ac_rfl);have x4:=((x2.trans x3).alloc (.cells #[a d 0,vB false,a d 0,a d 0,a d 0,vB true] 36)).alloc (.cells #[a d 0,a d 0] 27);clear h2 x2 c0 cl h3 x3 HD;go_upto_region 5 with fail;generalize (w3.alloc (.cells #[a d 0,vB false,a d 0,a d 0,a d 0,vB true] 36)).alloc (.cells #[a d 0,a d 0] 27)=w4 at*
 generalize w3.heap.size+1=Y at*
 generalize w3.heap.size=X at*
 obtain⟨e0,e1,e2,e3,e4,e5⟩:=h4.right.right.cells6;have el:=h4.right.right.lt;obtain⟨d0,d1⟩:=h4.r3.cells2;have dl:=h4.r3.lt;have bl:=(ct h4).1;have b0:=(ct h4).2;go_wp2_with fail
 refine(HT.out _ _ _ _ h4).mono ?_;rintro e w5 ⟨rfl,rfl⟩;go_wp2_with fail
 refine(HL.out _ _ _ h4.p2).mono ?_;rintro e w6 ⟨A,c,rfl,h6,x6⟩;go_wp2_with fail
 go_ret;exact⟨rfl,ap h6.right.right.right.r3 (x4.trans x6)⟩
section
variable (q:Nat) (s:Ms) (hs:s.Ok)
include hs
end
end Go.Proofs.YtmfheghbgihdmaaGreat
