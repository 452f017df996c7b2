/- Contract of wayleaveref.EntryOf: bits of a word one by one. -/
import Derived.Test.YtacnjjjdkpbeaaaRefEnt
import Derived.Test.YtacnjjjdkpbeaaaEntBits
import Derived.Test.YtacnjjjdkpbeaaaDecV
import Derived.Deep.LoopGhost
namespace Go.Proofs.Ytacnjjjdkpbeaaa
open Go.RowKit
set_option maxRecDepth 100000

def knownB (k : Nat) : Bool := decide (k ≤ 3) || (decide (5 ≤ k) && decide (k ≤ 7)) || (decide (12 ≤ k) && decide (k ≤ 31))
/-- Is that bit one that may not be? -/
def badB (w l : Int) (k : Nat) : Bool := bitOf w ((2 ^ k : Nat) : Int) && (!knownB k || !bitOf w 1 || (decide (k = 7) && decide (l = 0)))
theorem bitOf_nat (n k : Nat) : bitOf (n : Int) ((2 ^ k : Nat) : Int) = n.testBit k := by
  unfold bitOf
  rw [Nat.testBit_eq_decide_div_mod_eq, ← Int.natCast_ediv]
  by_cases h : n / 2 ^ k % 2 = 1
  · have : ((n / 2 ^ k : Nat) : Int) % 2 = 1 := by omega
    rw [decide_eq_true h, decide_eq_true this]
  · have : ¬ ((n / 2 ^ k : Nat) : Int) % 2 = 1 := by omega
    rw [decide_eq_false h, decide_eq_false this]
theorem badB_no {w l : Int} (h0 : 0 ≤ w) (h1 : w < 18446744073709551616) (h : ∀ k, k < 64 → badB w l k = false) : bitsOk w l := by
  obtain ⟨n, rfl⟩ := Int.eq_ofNat_of_zero_le h0
  have hb : ∀ k, k < 64 → n.testBit k = true → knownB k = true ∧ bitOf (n : Int) 1 = true ∧ ¬ (k = 7 ∧ l = 0) := fun k hk ht => by
    have := h k hk
    unfold badB at this
    rw [bitOf_nat, ht] at this
    cases hkn : knownB k <;> cases hb1 : bitOf (n : Int) 1 <;> rw [hkn, hb1] at this <;> simp at this ⊢
    exact this
  have hz : ∀ k, k < 64 → knownB k = false → n / 2 ^ k % 2 = 0 := fun k hk hkn => by
    cases ht : n.testBit k with
    | true => have := (hb k hk ht).1; rw [hkn] at this; cases this
    | false =>
      rw [Nat.testBit_eq_decide_div_mod_eq] at ht
      simp at ht
      omega
  have z4 := hz 4 (by omega) rfl
  have z8 := hz 8 (by omega) rfl
  have z9 := hz 9 (by omega) rfl
  have z10 := hz 10 (by omega) rfl
  have z11 := hz 11 (by omega) rfl
  simp only [Nat.reducePow] at z4 z8 z9 z10 z11
  have h1' : n < 2 ^ 64 := by
    have : (2 ^ 64 : Nat) = 18446744073709551616 := by decide
    omega
  have hlt : ∀ k, n.testBit k = true → k < 64 := fun k ht => by
    refine Decidable.byContradiction fun hk => ?_
    rw [Nat.testBit_lt_two_pow (Nat.lt_of_lt_of_le h1' (Nat.pow_le_pow_right (by omega) (by omega)))] at ht
    cases ht
  refine ⟨by omega, by omega, ?_, ?_, fun e => ?_⟩
  · refine Decidable.byContradiction fun hc => ?_
    have hge : n ≥ 2 ^ 32 := by
      have : (2 ^ 32 : Nat) = 4294967296 := by decide
      omega
    obtain ⟨i, hi, ht⟩ := Nat.exists_ge_and_testBit_of_ge_two_pow hge
    have hi64 := hlt i ht
    have := (hb i hi64 ht).1
    unfold knownB at this
    simp at this
    omega
  · by_cases hn : n = 0
    · left; omega
    · right
      obtain ⟨i, ht⟩ := Nat.exists_testBit_of_ne_zero hn
      have := (hb i (hlt i ht) ht).2.1
      unfold bitOf at this
      simp at this
      omega
  · cases ht : n.testBit 7 with
    | true => exact absurd ⟨rfl, e⟩ (hb 7 (by omega) ht).2.2
    | false =>
      rw [Nat.testBit_eq_decide_div_mod_eq] at ht
      simp at ht
      omega
theorem badB_yes {w l : Int} {k : Nat} (h0 : 0 ≤ w) (hk : k < 64) (h : badB w l k = true) : ¬ bitsOk w l := by
  rintro ⟨a, b, c, d, e⟩
  obtain ⟨n, rfl⟩ := Int.eq_ofNat_of_zero_le h0
  unfold badB at h
  rw [bitOf_nat] at h
  simp only [Bool.and_eq_true] at h
  obtain ⟨ht, h⟩ := h
  have ht' := ht
  rw [Nat.testBit_eq_decide_div_mod_eq, decide_eq_true_eq] at ht'
  have hn : n ≠ 0 := by rintro rfl; simp at ht
  have b1 : bitOf (n : Int) 1 = true := by unfold bitOf; simp; omega
  rw [b1] at h
  have hlt : k < 32 := by
    refine Decidable.byContradiction fun hc => ?_
    have h32 : n < 2 ^ 32 := by
      have : (2 ^ 32 : Nat) = 4294967296 := by decide
      omega
    rw [Nat.testBit_lt_two_pow (Nat.lt_of_lt_of_le h32 (Nat.pow_le_pow_right (by omega) (by omega)))] at ht
    cases ht
  by_cases k7 : k = 7 ∧ l = 0
  · obtain ⟨rfl, rfl⟩ := k7
    have := e rfl
    simp only [Nat.reducePow] at ht'
    omega
  · have : knownB k = false := by
      cases hkn : knownB k with
      | false => rfl
      | true =>
        rw [hkn] at h
        simp at h
        exact absurd h k7
    unfold knownB at this
    simp at this
    have hk' : k = 4 ∨ k = 8 ∨ k = 9 ∨ k = 10 ∨ k = 11 := by omega
    rcases hk' with rfl | rfl | rfl | rfl | rfl <;> simp only [Nat.reducePow] at ht' <;> omega
end Go.Proofs.Ytacnjjjdkpbeaaa
