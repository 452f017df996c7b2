/- Contract of the document's StartFault. -/
import Derived.Test.YtmfheghbgihdmaaGreatSpcA
namespace Go.Proofs.YtmfheghbgihdmaaGreat
open Go.IntKind renaming i64→vK
open Go renaming bodyPost_ret→c,World→f,Calls→g
open Go.Value renaming int→d
open Tryz
open Go.RowKit
set_option maxRecDepth 100000
theorem qX(a b:Int)(w:f):g prog 55 #[d vK a,d vK b] w (Pure (.agg #[d vK a,d vK b]) w):=by
 have H1:=(aM w).new #[d vK a,d vK b] 27;go_enter func55,ntmps55;go_wp2_with fail
 refine ao (fun wz=>Has wz (aa w.heap.size #[d vK a,d vK b] 27*(a9 w w.heap.size))∧Ext w wz) ⟨by first|(with_reducible exact H1),ai⟩ ?_;rintro wz ⟨hz,xz⟩;exact c (aD results55 rfl (cF hz)) rfl ⟨rfl,ap hz.right xz⟩
theorem jT(C N:Int)(h:C<1∨4<C∨N<1∨128<N)(w:f):g prog 14 #[d vK C,d vK N] w (Pure (.agg #[d vK 1,d vK (-1)]) w):=by
 have h0:=(aM w).new #[d vK 0,d vK 0] 27;have x0:=(Ext.refl w).alloc (.cells #[d vK 0,d vK 0] 27);have HF:=Lib.hid (fun w=>qX 1 (-1) w);by_cases q1:C<1
 ·skip
  go_enter func14,ntmps14;go_wp2_with fail
  refine(HF.out _).mono ?_;rintro e w2 ⟨rfl,b2⟩;have h2:=h0.below b2;have x2:=x0.below b2;obtain⟨f0,f1⟩:=h2.frees2;obtain⟨c0,c1⟩:=h2.cells2;have cl:=h2.lt;go_wp2_with fail
  refine ao (fun wz=>Has wz (aa w.heap.size #[d vK 1,d vK (-1)] 27*(a9 w w.heap.size))∧Ext w wz) ⟨h2.set2 _ _,ai⟩ ?_;rintro wz ⟨hz,xz⟩;exact c (aD results14 rfl (cF hz)) rfl ⟨rfl,ap hz.right xz⟩
 by_cases q2:4<C
 ·skip
  go_enter func14,ntmps14;go_wp2_with fail
  refine(HF.out _).mono ?_;rintro e w2 ⟨rfl,b2⟩;have h2:=h0.below b2;have x2:=x0.below b2;obtain⟨f0,f1⟩:=h2.frees2;obtain⟨c0,c1⟩:=h2.cells2;have cl:=h2.lt;go_wp2_with fail
  refine ao (fun wz=>Has wz (aa w.heap.size #[d vK 1,d vK (-1)] 27*(a9 w w.heap.size))∧Ext w wz) ⟨h2.set2 _ _,ai⟩ ?_;rintro wz ⟨hz,xz⟩;exact c (aD results14 rfl (cF hz)) rfl ⟨rfl,ap hz.right xz⟩
 by_cases q3:N<1
 ·skip
  go_enter func14,ntmps14;go_wp2_with fail
  refine(HF.out _).mono ?_;rintro e w2 ⟨rfl,b2⟩;have h2:=h0.below b2;have x2:=x0.below b2;obtain⟨f0,f1⟩:=h2.frees2;obtain⟨c0,c1⟩:=h2.cells2;have cl:=h2.lt;go_wp2_with fail
  refine ao (fun wz=>Has wz (aa w.heap.size #[d vK 1,d vK (-1)] 27*(a9 w w.heap.size))∧Ext w wz) ⟨h2.set2 _ _,ai⟩ ?_;rintro wz ⟨hz,xz⟩;exact c (aD results14 rfl (cF hz)) rfl ⟨rfl,ap hz.right xz⟩
 have q4:128<N:=by omega
 go_enter func14,ntmps14;go_wp2_with fail
 refine(HF.out _).mono ?_;rintro e w2 ⟨rfl,b2⟩;have h2:=h0.below b2;have x2:=x0.below b2;obtain⟨f0,f1⟩:=h2.frees2;obtain⟨c0,c1⟩:=h2.cells2;have cl:=h2.lt;go_wp2_with fail
 refine ao (fun wz=>Has wz (aa w.heap.size #[d vK 1,d vK (-1)] 27*(a9 w w.heap.size))∧Ext w wz) ⟨h2.set2 _ _,ai⟩ ?_;rintro wz ⟨hz,xz⟩;exact c (aD results14 rfl (cF hz)) rfl ⟨rfl,ap hz.right xz⟩
theorem kt(C N:Int)(h1:¬C<1)(h2:¬4<C)(h3:¬N<1)(h4:¬128<N)(w:f):g prog 14 #[d vK C,d vK N] w (Pure (.agg #[d vK 0,d vK 0]) w):=by
 have h0:=(aM w).new #[d vK 0,d vK 0] 27;go_enter func14,ntmps14;go_wp2_with fail
 refine ao (fun wz=>Has wz (aa w.heap.size #[d vK 0,d vK 0] 27*(a9 w w.heap.size))∧Ext w wz) ⟨by first|(with_reducible exact h0)|(exact h0.set2 _ _),ai⟩ ?_;rintro wz ⟨hz,xz⟩;exact c (aD results14 rfl (cF hz)) rfl ⟨rfl,ap hz.right xz⟩
end Go.Proofs.YtmfheghbgihdmaaGreat
