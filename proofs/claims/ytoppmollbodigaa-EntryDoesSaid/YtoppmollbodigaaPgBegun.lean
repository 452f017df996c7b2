/- That page's first look at itself is true; small plain facts on mappings. -/
import Derived.Test.YtoppmollbodigaaPage
import Derived.Test.YtoppmollbodigaaFrame
namespace Go.Proofs.Ytoppmollbodigaa
open Go.RowKit
set_option maxRecDepth 100000

theorem pageBegun_any (w : World) : Calls Try.prog 20 #[] w (Pure (Value.bool true) w) := by
  have h1 := Has.new (has_old w) #[(Value.int .i64) 8, (Value.int .i64) 1, (Value.int .i64) 16, (Value.int .i64) 1] 28
  have x1 := (Ext.refl w).alloc (.cells #[(Value.int .i64) 8, (Value.int .i64) 1, (Value.int .i64) 16, (Value.int .i64) 1] 28)
  have e1 : check ⟨8, 1, 16, 1⟩ = 0 := by decide
  have e2 : over ⟨8, 1, 16, 1⟩ 15 = true := by decide
  have e3 : over ⟨8, 1, 16, 1⟩ 16 = false := by decide
  have e4 : index 4095 3 = 7 := by decide
  have e5 : answer ⟨8, 1, 16, 1⟩ ⟨9, 1, false⟩ = ⟨0, 17, 1⟩ := by
    unfold answer
    rw [if_pos (by decide)]
    show (⟨0, wrap64 (wrap64 (16 + 9) - 8), 1⟩ : An) = _
    rw [wrap_in (n := 16 + 9) ⟨by omega, by omega⟩, wrap_in ⟨by omega, by omega⟩]
    rfl
  have E5 := Lib.hid e5
  clear e5
  have i8 : i64 8 := ⟨by omega, by omega⟩
  have i15 : i64 15 := ⟨by omega, by omega⟩
  have i16 : i64 16 := ⟨by omega, by omega⟩
  go_enter Try.func20, Try.ntmps20
  go_wp2_with fail
  refine (check_any ⟨8, 1, 16, 1⟩ _).mono ?_; rintro e w2 ⟨rfl, b2⟩
  have h2 := h1.below b2
  obtain ⟨c0, c1, c2, c3⟩ := h2.cells4
  go_wp2_with fail
  refine (over_page ⟨8, 1, 16, 1⟩ 15 _ i8 i15).mono ?_; rintro e w3 ⟨rfl, b3⟩
  have h3 := h2.below b3
  clear c0 c1 c2 c3
  obtain ⟨c0, c1, c2, c3⟩ := h3.cells4
  go_wp2_with fail
  refine (over_page ⟨8, 1, 16, 1⟩ 16 _ i8 i16).mono ?_; rintro e w4 ⟨rfl, b4⟩
  have h4 := h3.below b4
  clear c0 c1 c2 c3
  obtain ⟨c0, c1, c2, c3⟩ := h4.cells4
  go_wp2_with fail
  refine (index_any 4095 3 _).mono ?_; rintro e w5 ⟨rfl, rfl⟩
  go_wp2_with fail
  refine (answer_any ⟨8, 1, 16, 1⟩ 9 1 false _).mono ?_; rintro e w5 ⟨rfl, b5⟩
  have h5 := h4.below b5
  rw [E5.out]
  go_wp2_with fail
  go_ret
  exact ⟨rfl, below_of1 h5.right (by (repeat (first | with_reducible assumption | with_reducible exact Ext.refl _ | with_reducible refine Ext.set ?_ _ _ | with_reducible refine Ext.alloc ?_ _ | with_reducible refine Ext.drew ?_ | with_reducible refine Ext.drewN ?_ _ | assumption | exact Ext.refl _ | refine Ext.alloc ?_ _ | refine Ext.set ?_ _ _ | refine Ext.drew ?_ | refine Ext.drewN ?_ _ | refine Ext.below ?_ (by assumption) | refine Ext.trans ?_ (by assumption))))⟩

theorem check_zero {m : Mp} (h : check m = 0) : (m.size = 0 ∨ m.size = 1 ∨ m.size = 2) ∧ 0 ≤ m.page ∧ m.page < 4096 ∧ 0 ≤ m.frame ∧ m.frame < 1048576 ∧ 0 ≤ m.rights ∧ m.rights ≤ 7 ∧ m.page % span m.size = 0 ∧ m.frame % span m.size = 0 := by
  unfold check at h
  split at h
  · cases h
  · rename_i hs
    split at h
    · cases h
    · split at h
      · cases h
      · refine ⟨?_, by omega, by omega, by omega, by omega, by omega, by omega, by omega, by omega⟩
        unfold span at hs
        by_cases h0 : m.size = 0
        · exact .inl h0
        · by_cases h1 : m.size = 1
          · exact .inr (.inl h1)
          · by_cases h2 : m.size = 2
            · exact .inr (.inr h2)
            · simp [h0, h1, h2] at hs
theorem over_iff {m : Mp} {p : Int} : over m p = true ↔ m.page ≤ p ∧ p < m.page + span m.size := by
  unfold over
  simp
  intro _
  omega
theorem span_le (s : Int) : 0 ≤ span s ∧ span s ≤ 64 := by unfold span; split <;> (try split) <;> (try split) <;> omega
end Go.Proofs.Ytoppmollbodigaa
