/- Bits of a word of a table, as arithmetic. Plain lemmas. -/
import Derived.Test.YtndhgomikpokpaaEnt
import Derived.Lib.VarintBits
namespace Go.Proofs.Ytndhgomikpokpaa
open Go.RowKit

theorem and_shift (W m k : Nat) : W &&& (m * 2 ^ k) = ((W / 2 ^ k) &&& m) * 2 ^ k := by
  apply Nat.eq_of_testBit_eq
  intro i
  rw [Nat.testBit_and, Nat.testBit_mul_two_pow, Nat.testBit_mul_two_pow, Nat.testBit_and, Nat.testBit_div_two_pow]
  by_cases h : k ≤ i
  · rw [show i - k + k = i by omega]
    simp [h]
  · simp [h]
theorem knownMask (W : Nat) : (W &&& 18446744069414588176 = 0) ↔ (W / 16 % 2 = 0 ∧ W / 256 % 16 = 0 ∧ W / 4294967296 % 4294967296 = 0) := by
  have e : 18446744069414588176 = (1 * 2 ^ 4) ||| ((15 * 2 ^ 8) ||| (4294967295 * 2 ^ 32)) := by decide
  have a1 : ∀ x : Nat, x &&& 1 = x % 2 := fun x => Nat.and_two_pow_sub_one_eq_mod x 1
  have a2 : ∀ x : Nat, x &&& 15 = x % 16 := fun x => Nat.and_two_pow_sub_one_eq_mod x 4
  have a3 : ∀ x : Nat, x &&& 4294967295 = x % 4294967296 := fun x => Nat.and_two_pow_sub_one_eq_mod x 32
  rw [e, Nat.and_or_distrib_left, Nat.and_or_distrib_left, and_shift, and_shift, and_shift, a1, a2, a3, Nat.or_eq_zero_iff, Nat.or_eq_zero_iff]
  omega
theorem ofInt64 (n : Nat) (h : n < 18446744073709551616) : (BitVec.ofInt 64 (n : Int)).toNat = n := by
  rw [BitVec.ofInt_natCast, BitVec.toNat_ofNat]
  omega
theorem wrapU (n : Nat) (h : n < 18446744073709551616) : IntKind.u64.wrap (n : Int) = n := by rw [IntKind.wrap_u64]; omega
/-- The bits that no word has. -/
def strayB (w : Int) : Bool := !(decide (w / 16 % 2 = 0) && (decide (w / 256 % 16 = 0) && decide (w < 4294967296)))
theorem andNot_known (w : Int) (h0 : 0 ≤ w) (h1 : w < 18446744073709551616) : (bits .andNot .u64 w 4294963439 != 0) = strayB w := by
  obtain ⟨n, rfl⟩ := Int.eq_ofNat_of_zero_le h0
  have hv : bits .andNot .u64 (n : Int) 4294963439 = ((n &&& 18446744069414588176 : Nat) : Int) := by
    show IntKind.u64.wrap ((BitVec.ofInt 64 (n : Int) &&& ~~~BitVec.ofInt 64 ((4294963439 : Nat) : Int)).toNat : Int) = _
    rw [BitVec.toNat_and, BitVec.toNat_not, ofInt64 n (by omega), ofInt64 4294963439 (by decide)]
    rw [show 2 ^ 64 - 1 - 4294963439 = 18446744069414588176 by decide]
    exact wrapU _ (Nat.lt_of_le_of_lt Nat.and_le_left (by omega))
  rw [hv]
  have hk := knownMask n
  unfold strayB
  by_cases h : n &&& 18446744069414588176 = 0
  · rw [h]
    obtain ⟨a, b, c⟩ := hk.1 h
    have a' : (n : Int) / 16 % 2 = 0 := by omega
    have b' : (n : Int) / 256 % 16 = 0 := by omega
    have c' : (n : Int) < 4294967296 := by omega
    simp [a', b', c']
  · have : (((n &&& 18446744069414588176 : Nat) : Int) != 0) = true := by
      rw [bne_iff_ne]
      omega
    rw [this]
    symm
    rw [Bool.not_eq_true', Bool.eq_false_iff]
    intro hh
    simp only [Bool.and_eq_true, decide_eq_true_eq] at hh
    obtain ⟨a, b, c⟩ := hh
    exact h (hk.2 ⟨by omega, by omega, by omega⟩)
theorem and_bit (w : Int) (k : Nat) (hk : k < 64) (h0 : 0 ≤ w) (h1 : w < 18446744073709551616) : (bits .and .u64 w ((2 ^ k : Nat) : Int) != 0) = bitOf w ((2 ^ k : Nat) : Int) := by
  obtain ⟨n, rfl⟩ := Int.eq_ofNat_of_zero_le h0
  have hp : 2 ^ k < 18446744073709551616 := by
    have : 2 ^ k < 2 ^ 64 := Nat.pow_lt_pow_right (by omega) hk
    simpa using this
  have hv : bits .and .u64 (n : Int) ((2 ^ k : Nat) : Int) = ((n / 2 ^ k % 2 * 2 ^ k : Nat) : Int) := by
    show IntKind.u64.wrap ((BitVec.ofInt 64 (n : Int) &&& BitVec.ofInt 64 ((2 ^ k : Nat) : Int)).toNat : Int) = _
    rw [BitVec.toNat_and, ofInt64 n (by omega), ofInt64 _ hp]
    have a1 : ∀ x : Nat, x &&& 1 = x % 2 := fun x => Nat.and_two_pow_sub_one_eq_mod x 1
    have := and_shift n 1 k
    rw [Nat.one_mul, a1] at this
    rw [this]
    exact wrapU _ (by rw [← this]; exact Nat.lt_of_le_of_lt Nat.and_le_left (by omega))
  rw [hv]
  unfold bitOf
  rw [← Int.natCast_ediv]
  have hpos : 0 < 2 ^ k := Nat.two_pow_pos k
  have : n / 2 ^ k % 2 = 0 ∨ n / 2 ^ k % 2 = 1 := by omega
  generalize n / 2 ^ k = m at *
  rcases this with h | h
  · have e : (m : Int) % 2 = 0 := by omega
    rw [h, e, Nat.zero_mul]
    rfl
  · have e : (m : Int) % 2 = 1 := by omega
    rw [h, e]
    rw [bne_iff_ne.2 (by omega)]
    rfl
theorem and32 (w : Int) (h0 : 0 ≤ w) (h1 : w < 18446744073709551616) : (bits .and .u64 w 32 != 0) = bitOf w 32 := and_bit w 5 (by decide) h0 h1
theorem and64 (w : Int) (h0 : 0 ≤ w) (h1 : w < 18446744073709551616) : (bits .and .u64 w 64 != 0) = bitOf w 64 := and_bit w 6 (by decide) h0 h1
theorem and128 (w : Int) (h0 : 0 ≤ w) (h1 : w < 18446744073709551616) : (bits .and .u64 w 128 != 0) = bitOf w 128 := and_bit w 7 (by decide) h0 h1
theorem and1 (w : Int) (h0 : 0 ≤ w) (h1 : w < 18446744073709551616) : bits .and .u64 w 1 = w % 2 := by
  have h := bits_mask .u64 64 (by decide) wraps_u64 1 (by decide) w h0 (by omega)
  simpa using h
theorem and7 (w : Int) (h0 : 0 ≤ w) (h1 : w < 18446744073709551616) : bits .and .u64 (w / 2) 7 = w / 2 % 8 := by
  have h := bits_mask .u64 64 (by decide) wraps_u64 3 (by decide) (w / 2) (by omega) (by omega)
  simpa using h
end Go.Proofs.Ytndhgomikpokpaa
