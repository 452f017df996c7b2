/- Entries as plain Lean: what may stand where, its word, and back; with no program in sight. -/
import Derived.Test.YtndhgomikpokpaaModel
namespace Go.Proofs.Ytndhgomikpokpaa
open Go.RowKit

/-- entry.Check. -/
def entFault (e : En) (l : Int) : Int :=
  if l < 0 ∨ 4 ≤ l then 1
  else if e.there = false then (if e = En.zero then 0 else 7)
  else if e.rights < 0 ∨ 7 < e.rights ∨ e.frame < 0 ∨ 1048576 ≤ e.frame then 1
  else if (e.leaf = true ∧ l = 3) ∨ (e.leaf = false ∧ l = 0) then 2
  else if e.leaf = false then (if e.rights ≠ 7 ∨ e.used = true ∨ e.dirty = true then 7 else 0)
  else if e.frame % span l ≠ 0 then 3 else 0
def b2i (b : Bool) (n : Int) : Int := if b = true then n else 0
def wordE (e : En) (l : Int) : Int := e.frame * 4096 + e.rights * 2 + 1 + b2i e.used 32 + b2i e.dirty 64 + b2i (e.leaf && (l != 0)) 128
/-- entry.Encode: the word. -/
def encW (e : En) (l : Int) : Int := if entFault e l = 0 ∧ e.there = true then wordE e l else 0
/-- May the bits of a word be so? -/
def bitsOk (w l : Int) : Prop := w / 16 % 2 = 0 ∧ w / 256 % 16 = 0 ∧ w < 4294967296 ∧ (w = 0 ∨ w % 2 = 1) ∧ (l = 0 → w / 128 % 2 = 0)
instance (w l : Int) : Decidable (bitsOk w l) := by unfold bitsOk; infer_instance
def unword (w l : Int) : En := ⟨true, (l == 0) || bitOf w 128, w / 2 % 8, bitOf w 32, bitOf w 64, w / 4096⟩
/-- entry.Decode: the code. -/
def decC (w l : Int) : Int := if l < 0 ∨ 4 ≤ l then 1 else if ¬ bitsOk w l then 7 else if w = 0 then 0 else entFault (unword w l) l
/-- entry.Decode: the entry. -/
def decE (w l : Int) : En := if decC w l = 0 ∧ w ≠ 0 then unword w l else En.zero
/-- entry.Map. -/
def leafMap (e : En) (l at_ : Int) : Mp := if entFault e l = 0 ∧ e.leaf = true ∧ 0 ≤ at_ ∧ at_ < 4096 then ⟨at_ / span l * span l, l, e.frame, e.rights⟩ else Mp.zero

theorem entFault_level {e : En} {l : Int} (h : entFault e l = 0) : 0 ≤ l ∧ l < 4 := by
  unfold entFault at h
  split at h
  · omega
  · omega
theorem entFault_not {e : En} {l : Int} (h : entFault e l = 0) (ht : e.there = false) : e = En.zero := by
  unfold entFault at h
  split at h
  · omega
  · try rw [if_pos ht] at h
    split at h
    · assumption
    · omega
/-- What an entry that may stand somewhere, and is there, is like. -/
structure EntOk (e : En) (l : Int) : Prop where
  l0 : 0 ≤ l
  l4 : l < 4
  r0 : 0 ≤ e.rights
  r7 : e.rights ≤ 7
  f0 : 0 ≤ e.frame
  f1 : e.frame < 1048576
  leaf : e.leaf = true → l < 3 ∧ e.frame % span l = 0
  table : e.leaf = false → 0 < l ∧ e.rights = 7 ∧ e.used = false ∧ e.dirty = false
theorem entOk_of {e : En} {l : Int} (h : entFault e l = 0) (ht : e.there = true) : EntOk e l := by
  unfold entFault at h
  split at h
  · omega
  rename_i hl
  rw [if_neg (by rw [ht]; simp)] at h
  split at h
  · omega
  rename_i hr
  split at h
  · omega
  rename_i hk
  refine ⟨by omega, by omega, by omega, by omega, by omega, by omega, fun hf => ?_, fun hf => ?_⟩
  · rw [if_neg (by rw [hf]; simp)] at h
    split at h
    · omega
    · rename_i h3
      have : ¬ (l = 3) := fun e => hk (.inl ⟨hf, e⟩)
      exact ⟨by omega, by omega⟩
  · rw [if_pos hf] at h
    split at h
    · omega
    · rename_i h7
      have : ¬ (l = 0) := fun e => hk (.inr ⟨hf, e⟩)
      refine ⟨by omega, by omega, ?_, ?_⟩
      · cases hu : e.used with
        | true => exact absurd (.inr (.inl hu)) h7
        | false => rfl
      · cases hu : e.dirty with
        | true => exact absurd (.inr (.inr hu)) h7
        | false => rfl
theorem entFault_ok {e : En} {l : Int} (ht : e.there = true) (h : EntOk e l) : entFault e l = 0 := by
  have := h.l0; have := h.l4; have := h.r0; have := h.r7; have := h.f0; have := h.f1
  unfold entFault
  rw [if_neg (by omega), if_neg (by rw [ht]; simp), if_neg (by omega)]
  cases hf : e.leaf with
  | true =>
    have := h.leaf hf
    rw [if_neg (by simp; omega), if_neg (by simp), if_neg (by omega)]
  | false =>
    obtain ⟨a, b, c, d⟩ := h.table hf
    rw [if_neg (by simp; omega), if_pos rfl, if_neg (by rw [c, d]; simp [b])]

theorem b2i_range (b : Bool) (n : Int) (h : 0 ≤ n) : 0 ≤ b2i b n ∧ b2i b n ≤ n := by cases b <;> simp [b2i] <;> omega
theorem wordE_ne {e : En} {l : Int} (h : EntOk e l) : wordE e l ≠ 0 ∧ 0 ≤ wordE e l ∧ wordE e l < 4294967296 := by
  have := b2i_range e.used 32 (by omega)
  have := b2i_range e.dirty 64 (by omega)
  have := b2i_range (e.leaf && (l != 0)) 128 (by omega)
  have := h.r0; have := h.r7; have := h.f0; have := h.f1
  unfold wordE
  omega
theorem leaf_level {e : En} {l : Int} (h : EntOk e l) : ((l == 0) || (e.leaf && (l != 0))) = e.leaf := by
  by_cases h0 : l = 0
  · subst h0
    cases hf : e.leaf with
    | true => rfl
    | false => have := (h.table hf).1; omega
  · have e1 : (l == 0) = false := by simpa using h0
    have e2 : (l != 0) = true := by simpa using h0
    rw [e1, e2, Bool.false_or, Bool.and_true]
theorem bit_of_word (b : Bool) (x : Int) (h : x = b2i b 1) : decide (x = 1) = b := by cases b <;> simp [b2i] at h <;> simp [h]
theorem b2i_mul (b : Bool) (n : Int) : b2i b n = b2i b 1 * n := by cases b <;> simp [b2i]
theorem bitOf_eq (b : Bool) (w n : Int) (h : w / n % 2 = b2i b 1) : bitOf w n = b := bit_of_word b _ h
theorem unword_word {e : En} {l : Int} (ht : e.there = true) (h : EntOk e l) : unword (wordE e l) l = e ∧ bitsOk (wordE e l) l := by
  have hb := leaf_level h
  have u1 := b2i_range e.used 1 (by omega)
  have d1 := b2i_range e.dirty 1 (by omega)
  have v1 := b2i_range (e.leaf && (l != 0)) 1 (by omega)
  have hl0 : l = 0 → b2i (e.leaf && (l != 0)) 1 = 0 := fun h0 => by subst h0; simp [b2i]
  have := h.r0; have := h.r7; have := h.f0; have := h.f1
  obtain ⟨th, leaf, rights, used, dirty, frame⟩ := e
  dsimp only at *
  subst ht
  have hw : wordE ⟨true, leaf, rights, used, dirty, frame⟩ l = frame * 4096 + rights * 2 + 1 + b2i used 1 * 32 + b2i dirty 1 * 64 + b2i (leaf && (l != 0)) 1 * 128 := by
    unfold wordE
    dsimp only
    rw [b2i_mul used 32, b2i_mul dirty 64, b2i_mul (leaf && (l != 0)) 128]
  rw [hw]
  refine ⟨?_, ?_⟩
  · unfold unword
    rw [bitOf_eq used _ 32 (by omega), bitOf_eq dirty _ 64 (by omega), bitOf_eq (leaf && (l != 0)) _ 128 (by omega), hb]
    congr 1
    · omega
    · omega
  · unfold bitsOk
    refine ⟨by omega, by omega, by omega, .inr (by omega), fun h0 => ?_⟩
    have := hl0 h0
    omega
/-- What was encoded is decoded as it was. -/
theorem dec_enc {e : En} {l : Int} (h : entFault e l = 0) : decC (encW e l) l = 0 ∧ decE (encW e l) l = e ∧ (encW e l = 0 ↔ e.there = false) := by
  have hl := entFault_level h
  cases ht : e.there with
  | false =>
    have he := entFault_not h ht
    have hw : encW e l = 0 := by unfold encW; rw [if_neg (by rw [ht]; simp)]
    rw [hw]
    have hc : decC 0 l = 0 := by
      unfold decC
      rw [if_neg (by omega), if_neg (by unfold bitsOk; simp), if_pos rfl]
    refine ⟨hc, ?_, by simp⟩
    unfold decE
    rw [if_neg (by simp), he]
  | true =>
    have hk := entOk_of h ht
    obtain ⟨h1, h2⟩ := unword_word ht hk
    have hn := (wordE_ne hk).1
    have hw : encW e l = wordE e l := by unfold encW; rw [if_pos ⟨h, ht⟩]
    rw [hw]
    have hc : decC (wordE e l) l = 0 := by
      unfold decC
      rw [if_neg (by omega), if_neg (by simpa using h2), if_neg hn, h1]
      exact h
    refine ⟨hc, ?_, by simp [hn]⟩
    unfold decE
    rw [if_pos ⟨hc, hn⟩, h1]
theorem word_unword {w l : Int} (hb : bitsOk w l) (hn : w ≠ 0) : wordE (unword w l) l = w := by
  obtain ⟨a, b, c, d, e⟩ := hb
  have bi : ∀ n : Int, b2i (bitOf w n) 1 = w / n % 2 := fun n => by
    unfold b2i bitOf
    have : w / n % 2 = 0 ∨ w / n % 2 = 1 := by omega
    rcases this with h | h <;> simp [h]
  have hv : b2i (((l == 0) || bitOf w 128) && (l != 0)) 1 = w / 128 % 2 := by
    by_cases hl : l = 0
    · have := e hl
      subst hl
      simp [b2i, this]
    · have e1 : (l == 0) = false := by simpa using hl
      have e2 : (l != 0) = true := by simpa using hl
      rw [e1, e2, Bool.false_or, Bool.and_true]
      exact bi 128
  unfold wordE unword
  dsimp only
  rw [b2i_mul _ 32, b2i_mul _ 64, b2i_mul _ 128, hv, bi 32, bi 64]
  omega
/-- What is decoded is encoded as that very word. -/
theorem enc_dec {w l : Int} (h : decC w l = 0) : entFault (decE w l) l = 0 ∧ encW (decE w l) l = w := by
  have hc := h
  unfold decC at h
  split at h
  · omega
  rename_i hl
  split at h
  · omega
  rename_i hb
  split at h
  · rename_i hw
    have he : decE w l = En.zero := by unfold decE; rw [if_neg (by simp [hw])]
    rw [he]
    refine ⟨?_, by rw [hw]; unfold encW; rw [if_neg (by simp [En.zero])]⟩
    unfold entFault
    rw [if_neg hl, if_pos (show En.zero.there = false from rfl)]
    simp
  · rename_i hw
    have he : decE w l = unword w l := by unfold decE; rw [if_pos ⟨hc, hw⟩]
    rw [he]
    refine ⟨h, ?_⟩
    unfold encW
    rw [if_pos ⟨h, rfl⟩]
    exact word_unword (Decidable.of_not_not hb) hw
theorem decE_fault {w l : Int} (h : decC w l ≠ 0) : decE w l = En.zero := by unfold decE; rw [if_neg (by simp [h])]
theorem encW_fault {e : En} {l : Int} (h : entFault e l ≠ 0) : encW e l = 0 := by unfold encW; rw [if_neg (by simp [h])]
end Go.Proofs.Ytndhgomikpokpaa
