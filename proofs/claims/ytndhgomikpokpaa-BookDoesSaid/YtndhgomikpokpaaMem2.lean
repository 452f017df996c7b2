/- More contracts of the document's own memory: Take. -/
import Derived.Test.YtndhgomikpokpaaMem
namespace Go.Proofs.Ytndhgomikpokpaa
open Go.RowKit
set_option maxRecDepth 100000

theorem tc_take (s : Ms) (k j : Nat) : fput (tc s) k (Value.bool true) j = tc (s.take k) j := by
  unfold fput tc Ms.take
  dsimp only
  unfold fput
  by_cases h : j = k
  · rw [if_pos h, if_pos h]
  · rw [if_neg h, if_neg h]
theorem wc_take (s : Ms) (k : Nat) (j : Nat) :
    fput (fput (fput (fput (fput (fput (fput (fput (wc s) (k * 8) ((Value.int .u64) 0)) (k * 8 + 1) ((Value.int .u64) 0)) (k * 8 + 2) ((Value.int .u64) 0)) (k * 8 + 3) ((Value.int .u64) 0)) (k * 8 + 4) ((Value.int .u64) 0)) (k * 8 + 5) ((Value.int .u64) 0)) (k * 8 + 6) ((Value.int .u64) 0)) (k * 8 + 7) ((Value.int .u64) 0) j = wc (s.take k) j := by
  unfold fput wc Ms.take
  dsimp only
  by_cases h : j / 8 = k
  · rw [if_pos h]
    by_cases h7 : j = k * 8 + 7
    · rw [if_pos h7]
    by_cases h6 : j = k * 8 + 6
    · rw [if_neg h7, if_pos h6]
    by_cases h5 : j = k * 8 + 5
    · rw [if_neg h7, if_neg h6, if_pos h5]
    by_cases h4 : j = k * 8 + 4
    · rw [if_neg h7, if_neg h6, if_neg h5, if_pos h4]
    by_cases h3 : j = k * 8 + 3
    · rw [if_neg h7, if_neg h6, if_neg h5, if_neg h4, if_pos h3]
    by_cases h2 : j = k * 8 + 2
    · rw [if_neg h7, if_neg h6, if_neg h5, if_neg h4, if_neg h3, if_pos h2]
    by_cases h1 : j = k * 8 + 1
    · rw [if_neg h7, if_neg h6, if_neg h5, if_neg h4, if_neg h3, if_neg h2, if_pos h1]
    by_cases h0 : j = k * 8
    · rw [if_neg h7, if_neg h6, if_neg h5, if_neg h4, if_neg h3, if_neg h2, if_neg h1, if_pos h0]
    omega
  · rw [if_neg (by omega), if_neg (by omega), if_neg (by omega), if_neg (by omega), if_neg (by omega), if_neg (by omega), if_neg (by omega), if_neg (by omega), if_neg h]

theorem memTake_none (q gw gi : Nat) (vk : Value) (s : Ms) (R : HProp) (w : World) (h : Has w (memIn q gw gi vk s R)) (hk : s.top = none) :
    Calls Try.prog 65 #[.pointer (some ⟨q, 0, none⟩)] w (Pure ((Value.int .i64) (-1)) w) := by
  have hb : s.back = [] ∧ s.n ≤ s.next := by
    unfold Ms.top at hk
    cases hl : s.back.getLast? with
    | some x => rw [hl] at hk; cases hk
    | none =>
      rw [hl] at hk
      simp only at hk
      split at hk
      · cases hk
      · exact ⟨by simpa using hl, by omega⟩
  obtain ⟨hb, hle⟩ := hb
  obtain ⟨A, c, rfl⟩ := h.right.right.right.rowForm
  have hn : s.back.length = 0 := by rw [hb]; rfl
  obtain ⟨c0, c1, c2, c3⟩ := h.cells4
  rw [hn] at c2
  have v0 := via_cell c0
  have v1 := via_cell c1
  have v3 := via_cell c3
  go_enter Try.func65, Try.ntmps65
  go_wp2
  refine wp_region_via (by kernel_rfl) (by kernel_rfl) ?_
  repeat (first | go_big_quiet_step (fail) | quiet_step (fail))
  refine wpQuiet_nil ?_
  intro _ hw'
  obtain ⟨uq, hw''⟩ := hw'
  subst hw''
  go_wp2
  go_ret
  exact ⟨rfl, via_below _ _⟩

theorem memTake_back (q gw gi : Nat) (vk : Value) (s : Ms) (k : Nat) (R : HProp) (w : World) (h : Has w (memIn q gw gi vk s R)) (hk : s.back.getLast? = some k) (hn : k < s.n) :
    Calls Try.prog 65 #[.pointer (some ⟨q, 0, none⟩)] w fun e w' => ∃ vk', Res ((Value.int .i64) k) (memIn q gw gi vk' (s.take k) R) w e w' := by
  have hne : s.back ≠ [] := by rintro e; rw [e] at hk; cases hk
  have hfr := dl hk
  have hnx : (s.take k).next = s.next := by simp [Ms.take, hne]
  have hbk : (s.take k).back = s.back.dropLast := rfl
  obtain ⟨m, hm⟩ : ∃ m, s.back.length = m + 1 := ⟨s.back.dropLast.length, by rw [← hfr]; simp⟩
  have hm' : s.back.dropLast.length = m := by rw [← hfr] at hm; simpa using hm
  have hlast : s.back[m]? = some k := by rw [← hfr, ← hm']; simp
  have hints : (ints s.back).take m = ints s.back.dropLast := by
    have e1 : ints s.back = ints s.back.dropLast ++ [(Value.int .i64) (k : Int)] := by rw [← hfr]; simp [ints]
    rw [e1, ← hm']
    simp [ints]
  obtain ⟨c0, c1, c2, c3⟩ := h.cells4
  have e0 := h.lt
  have f2 := h.free 2
  have h1 : Has w (row 3 1 vk (m + 1) (ints s.back) * (blk q #[.slice (some ⟨gw, 0, none⟩) s.n s.n, .slice (some ⟨gi, 0, none⟩) s.n s.n, vk, (Value.int .i64) (s.next : Nat)] 74 *
      (blk gw (tabA (s.n * 8) (wc s)) 70 * (blk gi (tabA s.n (tc s)) 4 * R)))) := by
    have := h
    unfold memIn at this
    rw [hm] at this
    exact this.eq (by (simp only [star_assoc, star_left_comm, star_comm]))
  have n1 := h.ne
  have n2 : q ≠ gi := h.in2.ne
  have n3 : gw ≠ gi := h.right.ne
  obtain ⟨gb, cap, rfl, hcap, hcap2, hgb, hx⟩ := h1.rowHead
  have hx' := hx _ (ints_get hlast)
  have hm63 : m + 1 ≤ 9223372036854775807 := by unfold maxLen at hcap2; omega
  have h2 := h1.rowPop.p2.set 2 (.slice (some ⟨gb, 0, none⟩) m cap)
  have h3 := h2.a2.p2.a2.p2
  have hg := h3.lt
  have i0 := h3.tabGet (j := k) hn
  have i1 := h3.free k
  have hW := ((h3.tabSet k (Value.bool true)).tabExt (f' := tc (s.take k)) fun j _ => tc_take s k j).p2.a1
  have e1 := hW.lt
  have t0 := hW.tabGet (j := k * 8) (by omega)
  have z0 := hW.free (k * 8)
  have t1 := hW.tabGet (j := k * 8 + 1) (by omega)
  have z1 := hW.free (k * 8 + 1)
  have t2 := hW.tabGet (j := k * 8 + 2) (by omega)
  have z2 := hW.free (k * 8 + 2)
  have t3 := hW.tabGet (j := k * 8 + 3) (by omega)
  have z3 := hW.free (k * 8 + 3)
  have t4 := hW.tabGet (j := k * 8 + 4) (by omega)
  have z4 := hW.free (k * 8 + 4)
  have t5 := hW.tabGet (j := k * 8 + 5) (by omega)
  have z5 := hW.free (k * 8 + 5)
  have t6 := hW.tabGet (j := k * 8 + 6) (by omega)
  have z6 := hW.free (k * 8 + 6)
  have t7 := hW.tabGet (j := k * 8 + 7) (by omega)
  have z7 := hW.free (k * 8 + 7)
  have h4 := (((((((hW.tabSet (k * 8) ((Value.int .u64) 0)).tabSet (k * 8 + 1) ((Value.int .u64) 0)).tabSet (k * 8 + 2) ((Value.int .u64) 0)).tabSet (k * 8 + 3) ((Value.int .u64) 0)).tabSet (k * 8 + 4) ((Value.int .u64) 0)).tabSet (k * 8 + 5) ((Value.int .u64) 0)).tabSet (k * 8 + 6) ((Value.int .u64) 0)).tabSet (k * 8 + 7) ((Value.int .u64) 0)
  have h5 := (h4.tabExt (f' := wc (s.take k)) fun j _ => wc_take s k j).p2.a1.in2.in3
  clear h1 h2 h4
  go_enter Try.func65, Try.ntmps65
  go_wp2
  go_ret
  refine ⟨.slice (some ⟨gb, 0, none⟩) m cap, rfl, ?_, ((((((((((Ext.refl w).set _ _).set _ _).set _ _).set _ _).set _ _).set _ _).set _ _).set _ _).set _ _).set _ _⟩
  unfold memIn
  rw [hnx, hbk, hm', ← hints]
  exact h5
end Go.Proofs.Ytndhgomikpokpaa
