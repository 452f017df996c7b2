/- Rows of numbers: their cells; SameInts. -/
import Derived.Test.YtndhgomikpokpaaWkFind
namespace Go.Proofs.Ytndhgomikpokpaa
open Go.RowKit
set_option maxRecDepth 100000

theorem irow_at {w : World} {R : HProp} {A : Option Addr} {n c : Nat} {l : List Int} (h : Has w (irow (.slice A n c) l * R)) {k : Nat} (hk : k < l.length) :
    ∃ b, A = some ⟨b, 0, none⟩ ∧ b < w.heap.size ∧ w.cell? ⟨b, k, none⟩ = some ((Value.int .i64) l[k]) := by
  have hf := (Has.rowCases (e := 3) (size := 1) h)
  have hn : n = l.length := by
    rcases hf with ⟨hv, h0, _⟩ | ⟨g, cap, cur, hv, _⟩
    · injection hv with a b
      omega
    · injection hv
  subst hn
  obtain ⟨b, e, hb, hc, _⟩ := Has.rowGet (e := 3) (size := 1) h (i := k) (u := (Value.int .i64) l[k]) (by simp [hk])
  exact ⟨b, e, hb, hc⟩
theorem irow_len {w : World} {R : HProp} {A : Option Addr} {n c : Nat} {l : List Int} (h : Has w (irow (.slice A n c) l * R)) : n = l.length := by
  rcases (Has.rowCases (e := 3) (size := 1) h) with ⟨hv, h0, _⟩ | ⟨g, cap, cur, hv, _⟩
  · injection hv with a b
    omega
  · injection hv
theorem irow_small {w : World} {R : HProp} {A : Option Addr} {n c : Nat} {l : List Int} (h : Has w (irow (.slice A n c) l * R)) : n ≤ 9223372036854775807 := by
  obtain rfl := irow_len h
  exact (Has.rowLens (e := 3) (size := 1) h).2
theorem irow_cap {w : World} {R : HProp} {A : Option Addr} {n c : Nat} {l : List Int} (h : Has w (irow (.slice A n c) l * R)) : n ≤ c ∧ c ≤ maxLen := by
  have hn := irow_len h
  rcases (Has.rowCases (e := 3) (size := 1) h) with ⟨hv, h0, _⟩ | ⟨g, cap, cur, hv, h1, h2, _⟩
  · injection hv with a b d
    subst d
    exact ⟨by omega, Nat.zero_le _⟩
  · injection hv with a b d
    subst d
    exact ⟨by omega, h2⟩
/-- The beginning of a row of numbers. -/
theorem irow_take {w : World} {R : HProp} {A : Option Addr} {n c : Nat} {l : List Int} (h : Has w (irow (.slice A n c) l * R)) (i : Nat) (hi : i ≤ l.length) : Rd w A i ((l.take i).map (Value.int .i64)) := by
  obtain rfl := irow_len h
  have hsm := irow_small h
  refine ⟨by simp; omega, by omega, fun j u hj => ?_⟩
  have hjl : j < ((l.take i).map (Value.int .i64)).length := (List.getElem?_eq_some_iff.1 hj).1
  have hjl : j < l.length := by simp at hjl; omega
  obtain ⟨b, rfl, hb, hc⟩ := irow_at h hjl
  refine ⟨b, 0, rfl, hb, ?_⟩
  rw [Nat.zero_add, hc]
  obtain ⟨_, e⟩ := List.getElem?_eq_some_iff.1 hj
  rw [← e]
  simp
theorem sameInts_any (l : List Int) (A B : Option Addr) (n c n' c' : Nat) (R : HProp) (w : World) (h : Has w (irow (.slice A n c) l * (irow (.slice B n' c') l * R))) :
    Calls Try.prog 66 #[.slice A n c, .slice B n' c'] w (Pure (Value.bool true) w) := by
  have hn := irow_len h
  have hn' := irow_len h.right
  subst hn
  subst hn'
  have hbig := irow_small h
  go_enter Try.func66, Try.ntmps66
  go_wp2_with fail
  go_loopw [5] (fun s5 wr => ∃ i : Nat, i ≤ l.length ∧ s5 = (Value.int .i64) i ∧ Below w.heap.size w wr) (fun s5 _ => l.length - (intOf s5).toNat)
  case atStart => exact ⟨0, Nat.zero_le _, rfl, Below.refl _ _⟩
  case round =>
    obtain ⟨i, hi, rfl, BW⟩ := hrel
    have h' := h.below BW
    clear h
    have BW' := Lib.hid BW
    clear BW
    by_cases hlt : i < l.length
    · obtain ⟨b, rfl, hb, c0⟩ := irow_at h' hlt
      obtain ⟨b', rfl, hb', d0⟩ := irow_at h'.right hlt
      clear h'
      generalize l[i] = x at c0 d0
      have v0 := via_cell c0
      have u0 := via_cell d0
      clear c0 d0
      go_wp2_with fail
      refine wp_region_via (by kernel_rfl) (by kernel_rfl) ?_
      repeat (first | go_big_quiet_step (fail) | quiet_step (fail))
      refine wpQuiet_nil ?_
      intro _ hw'
      obtain ⟨uq, hw''⟩ := hw'
      subst hw''
      go_wp2_with fail
      go_roundw
      case rel => exact ⟨i + 1, by omega, by go_num, BW'.out.trans ((via_below _ _).mono BW'.out.size)⟩
      case measure => simp [intOf]; omega
    · go_wp2_with fail
      go_ret
      exact ⟨rfl, BW'.out⟩
end Go.Proofs.Ytndhgomikpokpaa
