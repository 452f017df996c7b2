/- Plain laws for FramesOnce: a list of the frames in use beside a memory of frames. No program in sight. -/
import Derived.Test.YtoppmollbodigaaFrLaw
namespace Go.Proofs.Ytoppmollbodigaa
open Go.RowKit

namespace Ms
/-- The list has just the frames in use, each once. -/
structure InOk (s : Ms) (l : List Int) : Prop where
  nd : l.Nodup
  mem : ∀ k, k ∈ l ↔ s.has k = true
  len : s.frees.length + l.length = s.n
theorem has_take {s : Ms} {k : Nat} (hk : k < s.n) (x : Int) : (s.take k).has x = (decide (x = k) || s.has x) := by
  unfold has Ms.take fput
  dsimp only
  by_cases h0 : 0 ≤ x
  · obtain ⟨y, rfl⟩ := Int.eq_ofNat_of_zero_le h0
    by_cases e : y = k
    · subst e; simp [hk]
    · have : ¬ ((y : Int) = k) := by omega
      simp [e, this]
  · have : ¬ (x = (k : Int)) := by omega
    simp [h0, this]
theorem has_give {s : Ms} (k : Nat) (x : Int) : (s.give k).has x = (!decide (x = k) && s.has x) := by
  unfold has Ms.give fput
  dsimp only
  by_cases h0 : 0 ≤ x
  · obtain ⟨y, rfl⟩ := Int.eq_ofNat_of_zero_le h0
    by_cases e : y = k
    · subst e; simp
    · have : ¬ ((y : Int) = k) := by omega
      simp [e, this]
  · simp [h0]
theorem InOk.new (n : Nat) : (Ms.new n).InOk [] := ⟨List.nodup_nil, fun k => by simp [has, Ms.new], by rw [frees_new]; simp [Ms.new]⟩
theorem InOk.take {s : Ms} {l : List Int} (h : s.InOk l) (i : s.Inv) {k : Nat} (hk : s.top = some k) : s.has k = false ∧ (s.take k).InOk (l ++ [(k : Int)]) := by
  obtain ⟨hlt, ht⟩ := top_lt i hk
  have hf : s.has k = false := by rw [has_nat i, ht]
  refine ⟨hf, ?_, fun x => ?_, ?_⟩
  · rw [List.nodup_append]
    refine ⟨h.nd, by simp, fun a ha b hb => ?_⟩
    simp at hb
    rintro rfl
    rw [hb] at ha
    rw [(h.mem _).1 ha] at hf
    cases hf
  · rw [has_take hlt, List.mem_append, h.mem x]
    by_cases e : x = k <;> simp [e]
  · have e := congrArg List.length (frees_take s k hk)
    have := h.len
    simp at e ⊢
    show (s.take k).frees.length + (l.length + 1) = s.n
    omega
theorem InOk.full {s : Ms} {l : List Int} (h : s.InOk l) (hk : s.top = none) : l.length = s.n := by
  have e := frees_top s
  rw [hk] at e
  have e1 : s.frees = [] := by simpa using e
  have e2 := h.len
  rw [e1] at e2
  simpa using e2
theorem InOk.give {s : Ms} {l : List Int} (h : s.InOk l) {K : Int} : (s.giveS K).InOk (l.filter (· != K)) ∧ decide ((l.filter (· != K)).length < l.length) = s.has K := by
  unfold Ms.giveS
  cases hk : s.has K with
  | false =>
    have hn : K ∉ l := fun e => by rw [(h.mem K).1 e] at hk; cases hk
    have e : l.filter (· != K) = l := List.filter_eq_self.2 fun a ha => by
      simp only [bne_iff_ne, ne_eq]
      rintro rfl
      exact hn ha
    rw [e]
    exact ⟨h, by simp⟩
  | true =>
    have hm := (h.mem K).2 hk
    obtain ⟨k0, k1, k2⟩ := has_iff.1 hk
    obtain ⟨k, rfl⟩ := Int.eq_ofNat_of_zero_le k0
    have e : l.erase (k : Int) = l.filter (· != (k : Int)) := h.nd.erase_eq_filter _
    have el := List.length_erase_of_mem hm
    have hp : 0 < l.length := List.length_pos_of_mem hm
    have := h.len
    rw [e] at el
    refine ⟨⟨h.nd.filter _, fun x => ?_, ?_⟩, by rw [el]; simp; omega⟩
    · simp only [if_true, Int.toNat_natCast]
      rw [has_give, List.mem_filter, h.mem x]
      by_cases e : x = k <;> simp [e]
    · simp only [if_true, Int.toNat_natCast]
      rw [frees_give, List.length_append, el]
      show s.frees.length + 1 + (l.length - 1) = s.n
      omega
theorem has_setW (s : Ms) (k i : Nat) (v : Int) : (s.setW k i v).has = s.has := rfl
end Ms
theorem storeS_has (s : Ms) (k i v x : Int) : (storeS s k i v).has x = s.has x := by unfold storeS; split <;> rfl
theorem Ms.InOk.store {s : Ms} {l : List Int} (h : s.InOk l) (K I W : Int) : (storeS s K I W).InOk l := by
  unfold storeS
  split
  · exact ⟨h.nd, h.mem, h.len⟩
  · exact h
/-- What a load gives behind a store: the word that was stored, or what it gave ahead of it. -/
theorem load_store {s : Ms} {K I W : Int} {x j : Int} (h : s.hasW x j = true) : loadV (storeS s K I W) x j = if x = K ∧ j = I then W else loadV s x j := by
  have hs : (storeS s K I W).hasW x j = true := by
    unfold Ms.hasW at h ⊢
    rw [storeS_has]
    exact h
  obtain ⟨hk, j0, j1⟩ := hasW_iff.1 h
  obtain ⟨x0, x1, _⟩ := Ms.has_iff.1 hk
  unfold loadV
  rw [hs, h]
  simp only [if_true]
  by_cases e : x = K ∧ j = I
  · rw [if_pos e]
    obtain ⟨rfl, rfl⟩ := e
    unfold storeS
    rw [h]
    simp [Ms.setW]
  · rw [if_neg e]
    unfold storeS
    split
    · rename_i hy
      obtain ⟨hK, I0, I1⟩ := hasW_iff.1 hy
      obtain ⟨K0, K1, _⟩ := Ms.has_iff.1 hK
      unfold Ms.setW
      dsimp only
      rw [if_neg]
      rintro ⟨e1, e2⟩
      exact e ⟨by omega, by omega⟩
    · rfl
theorem load_take {s : Ms} {k : Nat} {j : Int} : loadV (s.take k) k j = 0 := by
  unfold loadV Ms.take
  simp
theorem hasW_take {s : Ms} {k : Nat} (hk : k < s.n) {j : Nat} (hj : j < 8) : (s.take k).hasW k j = true := by
  unfold Ms.hasW
  rw [Ms.has_take hk]
  simp
  omega
theorem Ms.InOk.hasW {s : Ms} {l : List Int} (h : s.InOk l) {x : Int} (hx : x ∈ l) {j : Nat} (hj : j < 8) : s.hasW x j = true := by
  unfold Ms.hasW
  rw [(h.mem x).1 hx]
  simp
  omega
/-- The first m words of the frames of a list, one behind the other. -/
def wl (s : Ms) (l : List Int) (m : Nat) : List Int := (List.range m).map fun t => loadV s (l.getD (t / 8) 0) ((t % 8 : Nat) : Int)
theorem wl_succ (s : Ms) (l : List Int) {j k : Nat} (hj : j < l.length) (hk : k < 8) : wl s l (j * 8 + k + 1) = wl s l (j * 8 + k) ++ [loadV s l[j] k] := by
  unfold wl
  rw [List.range_succ, List.map_append, List.map_singleton, show (j * 8 + k) / 8 = j by omega, show (j * 8 + k) % 8 = k by omega]
  simp [hj]
theorem wl_get (s : Ms) (l : List Int) {j k m : Nat} (hj : j < l.length) (hk : k < 8) (hm : j * 8 + k < m) : (wl s l m)[j * 8 + k]? = some (loadV s l[j] k) := by
  unfold wl
  rw [List.getElem?_map, List.getElem?_range hm, Option.map_some, show (j * 8 + k) / 8 = j by omega, show (j * 8 + k) % 8 = k by omega]
  simp [hj]
theorem wl_len (s : Ms) (l : List Int) (m : Nat) : (wl s l m).length = m := by simp [wl]
end Go.Proofs.Ytoppmollbodigaa
