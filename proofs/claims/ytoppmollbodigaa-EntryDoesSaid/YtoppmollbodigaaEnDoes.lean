/- The law EntryDoes: the walk. -/
import Derived.Test.YtoppmollbodigaaEnBack
import Derived.Deep.DeepCutAuto
import Derived.Deep.CutBlock
import Derived.Test.YtoppmollbodigaaEntMap
import Derived.Test.YtoppmollbodigaaRefEnt2
import Derived.Test.YtoppmollbodigaaRefEnt4
import Derived.Test.YtoppmollbodigaaRefEnt5
namespace Go.Proofs.Ytoppmollbodigaa
open Go.RowKit
set_option maxRecDepth 100000

set_option maxHeartbeats 4000000 in
theorem entryDoes_walk (e : En) (v l a : Int) (w : World) (_ : e.ok) (ov : u64 v) (_ : i64 l) (_ : i64 a) :
    Calls Try.prog 12 #[.agg #[Value.bool e.there, Value.bool e.leaf, (Value.int .i64) e.rights, Value.bool e.used, Value.bool e.dirty, (Value.int .i64) e.frame], (Value.int .u64) v, (Value.int .i64) l, (Value.int .i64) a] w (Pure (Value.bool true) w) := by
  have ov : 0 ≤ v ∧ v < 18446744073709551616 := by obtain ⟨a, b⟩ := ov; omega
  obtain ⟨th, lf, r, u, d, f⟩ := e
  have h1 := Has.new (has_old w) #[Value.bool th, Value.bool lf, (Value.int .i64) r, Value.bool u, Value.bool d, (Value.int .i64) f] 75
  have x1 := (Ext.refl w).alloc (.cells #[Value.bool th, Value.bool lf, (Value.int .i64) r, Value.bool u, Value.bool d, (Value.int .i64) f] 75)
  have HE := Lib.hid (encode_any ⟨th, lf, r, u, d, f⟩ l)
  have HW := Lib.hid (wordOf_any ⟨th, lf, r, u, d, f⟩ l)
  have HD := Lib.hid (fun W => decode_any v l W ov.1 ov.2)
  have HF := Lib.hid (fun W => entryOf_any v l W ov.1 ov.2)
  have HC := Lib.hid (entCheck_any ⟨th, lf, r, u, d, f⟩ l)
  have HR := Lib.hid (entryFault_any ⟨th, lf, r, u, d, f⟩ l)
  have HM := Lib.hid (entMap_any ⟨th, lf, r, u, d, f⟩ l a)
  have HL := Lib.hid (refLeafMap_any ⟨th, lf, r, u, d, f⟩ l a)
  unfold decV at HD HF
  generalize encW ⟨th, lf, r, u, d, f⟩ l = b at *
  generalize entFault ⟨th, lf, r, u, d, f⟩ l = k at *
  generalize leafMap ⟨th, lf, r, u, d, f⟩ l a = m at *
  generalize decE v l = y at *
  generalize decC v l = c at *
  obtain ⟨yt, yl, yr, yu, yd, yf⟩ := y
  obtain ⟨mp, ms, mf, mr⟩ := m
  go_enter Try.func12, Try.ntmps12
  go_wp2_with fail
  refine (entryBegun_any _).mono ?_; rintro e w1 ⟨rfl, b1⟩
  have h2 := h1.below b1
  have x2 := x1.below b1
  obtain ⟨c0, c1, c2, c3, c4, c5⟩ := h2.cells6
  clear h1 x1 b1
  go_wp2_with fail
  refine (HE.out _).mono ?_; rintro e w2 ⟨rfl, b2⟩
  have h3 := h2.below b2
  have x3 := x2.below b2
  clear h2 x2 b2 HE c0 c1 c2 c3 c4 c5
  obtain ⟨c0, c1, c2, c3, c4, c5⟩ := h3.cells6
  go_wp2_with fail
  refine (HW.out _).mono ?_; rintro e w3 ⟨rfl, b3⟩
  have h4 := h3.below b3
  have x4 := x3.below b3
  clear h3 x3 b3 HW c0 c1 c2 c3 c4 c5
  go_wp2_with fail
  refine (HD.out _).mono ?_; rintro e w4 ⟨rfl, b4⟩
  have h5 := (h4.below b4).new #[Value.bool yt, Value.bool yl, (Value.int .i64) yr, Value.bool yu, Value.bool yd, (Value.int .i64) yf] 75
  have x5 := (x4.below b4).alloc (.cells #[Value.bool yt, Value.bool yl, (Value.int .i64) yr, Value.bool yu, Value.bool yd, (Value.int .i64) yf] 75)
  clear h4 x4 b4 HD
  go_wp2_with fail
  refine (HF.out _).mono ?_; rintro e w5 ⟨rfl, b5⟩
  have h6 := (h5.below b5).new #[Value.bool yt, Value.bool yl, (Value.int .i64) yr, Value.bool yu, Value.bool yd, (Value.int .i64) yf] 75
  have x6 := (x5.below b5).alloc (.cells #[Value.bool yt, Value.bool yl, (Value.int .i64) yr, Value.bool yu, Value.bool yd, (Value.int .i64) yf] 75)
  clear h5 x5 b5 HF
  go_upto_region 7 with fail
  generalize w5.alloc (.cells #[Value.bool yt, Value.bool yl, (Value.int .i64) yr, Value.bool yu, Value.bool yd, (Value.int .i64) yf] 75) = w6 at *
  generalize w5.heap.size = B at *
  generalize w4.heap.size = B4 at *
  obtain ⟨p0, p1, p2, p3, p4, p5⟩ := h6.cells6
  obtain ⟨q0, q1, q2, q3, q4, q5⟩ := h6.right.cells6
  obtain ⟨c0, c1, c2, c3, c4, c5⟩ := h6.right.right.cells6
  have P0 := via_cell p0
  have P1 := via_cell p1
  have P2 := via_cell p2
  have P3 := via_cell p3
  have P4 := via_cell p4
  have P5 := via_cell p5
  have Q0 := via_cell q0
  have Q1 := via_cell q1
  have Q2 := via_cell q2
  have Q3 := via_cell q3
  have Q4 := via_cell q4
  have Q5 := via_cell q5
  have C0 := via_cell c0
  have C1 := via_cell c1
  have C2 := via_cell c2
  have C3 := via_cell c3
  have C4 := via_cell c4
  have C5 := via_cell c5
  clear p0 p1 p2 p3 p4 p5 q0 q1 q2 q3 q4 q5 c0 c1 c2 c3 c4 c5
  refine wp_region_via (by kernel_rfl) (by kernel_rfl) ?_
  repeat (first | go_big_quiet_step ((first | (go_at_call 57; exact Pure.via (HC.out _)) | (go_at_call 58; exact Pure.via (HR.out _)) | (go_at_call 59; exact Pure.via (HM.out _)) | (go_at_call 60; exact Pure.via (HL.out _)))) | quiet_step ((first | (go_at_call 57; exact Pure.via (HC.out _)) | (go_at_call 58; exact Pure.via (HR.out _)) | (go_at_call 59; exact Pure.via (HM.out _)) | (go_at_call 60; exact Pure.via (HL.out _)))))
  refine wpQuiet_nil ?_
  intro _ hw'
  obtain ⟨uq, hw''⟩ := hw'
  subst hw''
  go_wp2
  go_ret
  exact ⟨rfl, below_of1 (h6.via _).right.right.right (x6.below (via_below _ _))⟩
end Go.Proofs.Ytoppmollbodigaa
