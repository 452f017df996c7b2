/- The value of a decoding. Plain lemmas. -/
import Derived.Test.YtndhgomikpokpaaEntBits
namespace Go.Proofs.Ytndhgomikpokpaa
open Go.RowKit

/-- The value of a decoding. -/
def decV (w l : Int) : Value := .tuple #[.agg #[Value.bool (decE w l).there, Value.bool (decE w l).leaf, (Value.int .i64) (decE w l).rights, Value.bool (decE w l).used, Value.bool (decE w l).dirty, (Value.int .i64) (decE w l).frame], (Value.int .i64) (decC w l)]
theorem decV_no {w l c : Int} (h : decC w l = c) (hc : c ≠ 0 ∨ w = 0) : decV w l = .tuple #[.agg #[Value.bool false, Value.bool false, (Value.int .i64) 0, Value.bool false, Value.bool false, (Value.int .i64) 0], (Value.int .i64) c] := by
  unfold decV
  have : decE w l = En.zero := by
    unfold decE
    rw [if_neg]
    rintro ⟨a, b⟩
    rcases hc with hc | hc
    · exact hc (h ▸ a)
    · exact b hc
  rw [this, h]
  rfl
theorem decC_stray {w l : Int} (hl : 0 ≤ l ∧ l < 4) (h : strayB w = true ∨ (w % 2 = 0 ∧ w ≠ 0) ∨ (l = 0 ∧ bitOf w 128 = true)) : decC w l = 7 := by
  unfold decC
  rw [if_neg (by omega), if_pos]
  rintro ⟨a, b, c, d, e⟩
  rcases h with h | h | ⟨h1, h2⟩
  · unfold strayB at h
    simp [a, b, c] at h
  · omega
  · have := e h1
    unfold bitOf at h2
    simp at h2
    omega
theorem decC_ok {w l : Int} (hl : 0 ≤ l ∧ l < 4) (h1 : strayB w = false) (h2 : w = 0 ∨ w % 2 = 1) (h3 : l = 0 → bitOf w 128 = false) : decC w l = if w = 0 then 0 else entFault (unword w l) l := by
  unfold decC
  rw [if_neg (by omega), if_neg]
  rw [Decidable.not_not]
  unfold strayB at h1
  simp at h1
  obtain ⟨a, b, c⟩ := h1
  refine ⟨a, b, c, h2, fun e => ?_⟩
  have := h3 e
  unfold bitOf at this
  simp at this
  omega
theorem leafMap_no {e : En} {l a : Int} (h : entFault e l ≠ 0 ∨ e.leaf = false ∨ hasB a = false) : leafMap e l a = Mp.zero := by
  unfold leafMap
  rw [if_neg]
  rintro ⟨h1, h2, h3, h4⟩
  rcases h with h | h | h
  · exact h h1
  · rw [h] at h2; cases h2
  · unfold hasB at h
    simp at h
    omega
end Go.Proofs.Ytndhgomikpokpaa
