/- Blocks that are read by their places, and rows whose last element goes. Plain lemmas. -/
import Derived.Test.YtndhgomikpokpaaSep
namespace Go.Proofs.Ytndhgomikpokpaa
open Go.RowKit

/-- N cells, each by its place. -/
def tabA (N : Nat) (f : Nat → Value) : Array Value := (Array.range N).map f
theorem tabA_size (N : Nat) (f : Nat → Value) : (tabA N f).size = N := by simp [tabA]
theorem tabA_get {N j : Nat} {f : Nat → Value} (h : j < N) : (tabA N f)[j]? = some (f j) := by simp [tabA, h]
theorem tabA_ext {N : Nat} {f g : Nat → Value} (h : ∀ j, j < N → f j = g j) : tabA N f = tabA N g := by
  unfold tabA
  apply Array.ext
  · simp
  · intro i h1 h2
    simp at h1
    simp [h i h1]
def fput {α : Type} (f : Nat → α) (j : Nat) (v : α) : Nat → α := fun i => if i = j then v else f i
theorem fput_self {α : Type} (f : Nat → α) (j : Nat) (v : α) : fput f j v j = v := by simp [fput]
theorem fput_ne {α : Type} (f : Nat → α) {i j : Nat} (v : α) (h : i ≠ j) : fput f j v i = f i := by simp [fput, h]
theorem tabA_set (N : Nat) (f : Nat → Value) (j : Nat) (v : Value) : (tabA N f).setIfInBounds j v = tabA N (fput f j v) := by
  apply Array.ext
  · simp [tabA]
  · intro i h1 h2
    have hi : i < N := by simpa [tabA] using h2
    have e1 : ((tabA N f).setIfInBounds j v)[i]? = some (fput f j v i) := by
      rw [Array.getElem?_setIfInBounds]
      by_cases h : j = i
      · subst h
        simp [tabA_size, hi, fput]
      · rw [if_neg h, tabA_get hi, fput_ne _ _ (fun e => h e.symm)]
    have e2 := tabA_get (f := fput f j v) hi
    rw [Array.getElem?_eq_getElem h1] at e1
    rw [Array.getElem?_eq_getElem h2] at e2
    exact Option.some.inj (e1.trans e2.symm)
theorem tabA_made (z : Array Value) (N : Nat) : madeCells z N = tabA N (fun j => z[j % z.size]!) := rfl

section
variable {w w' : World} {R : HProp} {g e N : Nat} {f : Nat → Value}
theorem Has.tabGet (h : Has w (blk g (tabA N f) e * R)) {j : Nat} (hj : j < N) : w.cell? ⟨g, j, none⟩ = some (f j) := by rw [h.cell, tabA_get hj]
theorem Has.tabSet (h : Has w (blk g (tabA N f) e * R)) (j : Nat) (v : Value) : Has (w.setCell ⟨g, j, none⟩ v) (blk g (tabA N (fput f j v)) e * R) := by
  have := h.set j v
  rwa [tabA_set] at this
theorem Has.tabExt {f' : Nat → Value} (h : Has w (blk g (tabA N f) e * R)) (he : ∀ j, j < N → f j = f' j) : Has w (blk g (tabA N f') e * R) := tabA_ext he ▸ h

/-- A row of one-cell elements that is not empty: where it lies. -/
theorem Has.rowHead {v : Value} {n : Nat} {xs : List Value} (h : Has w (row e 1 v (n + 1) xs * R)) :
    ∃ g cap, v = .slice (some ⟨g, 0, none⟩) (n + 1) cap ∧ n + 1 ≤ cap ∧ cap ≤ maxLen ∧ g < w.heap.size ∧ ∀ x, xs[n]? = some x → w.cell? ⟨g, n, none⟩ = some x := by
  rcases h.rowCases with ⟨_, h0, _⟩ | ⟨g, cap, cur, hv, hn, hc, hs, ht, hb⟩
  · omega
  · refine ⟨g, cap, hv, hn, hc, hb.lt, fun x hx => ?_⟩
    rw [hb.cell, ← hx, ← ht]
    simp
theorem Has.rowPop {n cap : Nat} {xs : List Value} (h : Has w (row e 1 (.slice (some ⟨g, 0, none⟩) (n + 1) cap) (n + 1) xs * R)) : Has w (row e 1 (.slice (some ⟨g, 0, none⟩) n cap) n (xs.take n) * R) := by
  rcases h.rowCases with ⟨_, h0, _⟩ | ⟨g', cap', cur, hv, hn, hc, hs, ht, hb⟩
  · omega
  · injection hv with h1 h2 h3
    injection h1 with h1
    injection h1 with h1
    subst h1; subst h3
    refine hb.rowOf (xs := xs.take n) ?_ (by omega) hc hs ?_
    · rw [← ht]
      simp
      omega
    · rw [← ht]
      simp [List.take_take]
end

theorem Has.in2 {w : World} {A B C R : HProp} (h : Has w (A * (B * (C * R)))) : Has w (A * (C * (B * R))) := h.eq (congrArg _ (star_left_comm _ _ _))
theorem Has.in3 {w : World} {A B C D R : HProp} (h : Has w (A * (B * (C * (D * R))))) : Has w (A * (B * (D * (C * R)))) := h.eq (congrArg (fun x => A * (B * x)) (star_left_comm _ _ _))
/-- What 'make' asks of an element's type, and what it makes. -/
theorem run_make_tab {P : Program} (t e : TypeId) (z : Value) (size bytes : Nat) (ht : P.underlying t = some (.slice e)) (hinfo : (P.info? e).map (fun i => (i.zero, i.size, i.bytes)) = some (some z, size, bytes)) (hz : z.cells.size = size)
    (n : Nat) (hbytes : bytes * n ≤ 281474976710656) (h63 : n ≤ 9223372036854775807) (w : World) :
    (Instr.makeSlice t (.int .i64 (n : Int)) (.int .i64 (n : Int))).run P w = .ok (.slice (some ⟨w.heap.size, 0, none⟩) n n) (w.alloc (.cells (tabA (n * size) (fun j => z.cells[j % size]!)) e)) := by
  obtain ⟨i, hi, hzz⟩ := Option.map_eq_some_iff.1 hinfo
  simp only [Prod.mk.injEq] at hzz
  obtain ⟨hz', hs, hb⟩ := hzz
  subst hb
  have hb' : (i.bytes : Int) * (n : Int) ≤ 281474976710656 := by
    have h : ((i.bytes * n : Nat) : Int) ≤ 281474976710656 := by omega
    rwa [Int.natCast_mul] at h
  have hr := run_make (P := P) w t e i z ht hi hz' .i64 .i64 n n (by omega) (Int.le_refl _) hb' (by omega)
  simp only [Int.toNat_natCast, hs] at hr
  rw [hr, tabA_made, hz]
end Go.Proofs.Ytndhgomikpokpaa
