/- Contracts of the document's own memory of frames. -/
import Derived.Test.YtndhgomikpokpaaFrames
namespace Go.Proofs.Ytndhgomikpokpaa
open Go.RowKit
set_option maxRecDepth 100000

def wc (s : Ms) : Nat → Value := fun j => (Value.int .u64) (s.wd (j / 8) (j % 8))
def tc (s : Ms) : Nat → Value := fun j => Value.bool (s.tk j)
/-- A Mem at block q: its words at gw, who is in use at gi, those that were given back in vk. -/
def memIn (q gw gi : Nat) (vk : Value) (s : Ms) (R : HProp) : HProp :=
  blk q #[.slice (some ⟨gw, 0, none⟩) s.n s.n, .slice (some ⟨gi, 0, none⟩) s.n s.n, vk, (Value.int .i64) (s.next : Nat)] 74 *
    (blk gw (tabA (s.n * 8) (wc s)) 70 * (blk gi (tabA s.n (tc s)) 4 * (row 3 1 vk s.back.length (ints s.back) * R)))

theorem memTaken_any (q gw gi : Nat) (vk : Value) (s : Ms) (k : Int) (R : HProp) (w : World) (h : Has w (memIn q gw gi vk s R)) :
    Calls Try.prog 99 #[.pointer (some ⟨q, 0, none⟩), .int .i64 k] w (Same (Value.bool (s.has k)) w) := by
  obtain ⟨c0, c1, c2, c3⟩ := h.cells4
  by_cases h0 : 0 ≤ k
  · by_cases h4 : k < s.n
    · obtain ⟨k, rfl⟩ := Int.eq_ofNat_of_zero_le h0
      have hc : w.cell? ⟨gi, k, none⟩ = some (Value.bool (s.tk k)) := h.right.right.tabGet (j := k) (by omega)
      have hy := Lib.hid (has_yes (s := s) (k := k) (by omega))
      have hg := h.right.right.lt
      go_enter Try.func99, Try.ntmps99
      go_wp2
      go_ret
      exact ⟨by rw [hy.out]; rfl, rfl⟩
    · have hy := Lib.hid (has_no (s := s) (k := k) (by omega))
      go_enter Try.func99, Try.ntmps99
      go_wp2
      go_ret
      exact ⟨by rw [hy.out]; rfl, rfl⟩
  · have hy := Lib.hid (has_no (s := s) (k := k) (by omega))
    go_enter Try.func99, Try.ntmps99
    go_wp2
    go_ret
    exact ⟨by rw [hy.out]; rfl, rfl⟩
theorem memFree_any (q gw gi : Nat) (vk : Value) (s : Ms) (R : HProp) (w : World) (h : Has w (memIn q gw gi vk s R)) (hle : s.next ≤ s.n) (hn : s.n ≤ 1000) (hb : s.back.length ≤ 1000000) :
    Calls Try.prog 69 #[.pointer (some ⟨q, 0, none⟩)] w (Pure ((Value.int .i64) (s.frees.length : Nat)) w) := by
  obtain ⟨A, c, rfl⟩ := h.right.right.right.rowForm
  obtain ⟨c0, c1, c2, c3⟩ := h.cells4
  have v0 := via_cell c0
  have v1 := via_cell c1
  have v2 := via_cell c2
  have v3 := via_cell c3
  have hy := Lib.hid (show ((s.frees.length : Nat) : Int) = s.back.length + s.n - s.next by rw [Ms.frees_len]; omega)
  go_enter Try.func69, Try.ntmps69
  go_wp2
  refine wp_region_via (by kernel_rfl) (by kernel_rfl) ?_
  repeat (first | go_big_quiet_step (fail) | quiet_step (fail))
  refine wpQuiet_nil ?_
  intro _ hw'
  obtain ⟨uq, hw''⟩ := hw'
  subst hw''
  go_wp2
  go_ret
  exact ⟨by rw [hy.out]; rfl, via_below _ _⟩
end Go.Proofs.Ytndhgomikpokpaa

namespace Go.Proofs.Ytndhgomikpokpaa
open Go.RowKit
set_option maxRecDepth 100000

theorem tc_take (s : Ms) (k j : Nat) : fput (tc s) k (Value.bool true) j = tc (s.take k) j := by
  unfold fput tc Ms.take
  dsimp only
  unfold fput
  by_cases h : j = k
  · rw [if_pos h, if_pos h]
  · rw [if_neg h, if_neg h]
theorem wc_take (s : Ms) (k : Nat) (j : Nat) :
    fput (fput (fput (fput (fput (fput (fput (fput (wc s) (k * 8) ((Value.int .u64) 0)) (k * 8 + 1) ((Value.int .u64) 0)) (k * 8 + 2) ((Value.int .u64) 0)) (k * 8 + 3) ((Value.int .u64) 0)) (k * 8 + 4) ((Value.int .u64) 0)) (k * 8 + 5) ((Value.int .u64) 0)) (k * 8 + 6) ((Value.int .u64) 0)) (k * 8 + 7) ((Value.int .u64) 0) j = wc (s.take k) j := by
  unfold fput wc Ms.take
  dsimp only
  by_cases h : j / 8 = k
  · rw [if_pos h]
    by_cases h7 : j = k * 8 + 7
    · rw [if_pos h7]
    by_cases h6 : j = k * 8 + 6
    · rw [if_neg h7, if_pos h6]
    by_cases h5 : j = k * 8 + 5
    · rw [if_neg h7, if_neg h6, if_pos h5]
    by_cases h4 : j = k * 8 + 4
    · rw [if_neg h7, if_neg h6, if_neg h5, if_pos h4]
    by_cases h3 : j = k * 8 + 3
    · rw [if_neg h7, if_neg h6, if_neg h5, if_neg h4, if_pos h3]
    by_cases h2 : j = k * 8 + 2
    · rw [if_neg h7, if_neg h6, if_neg h5, if_neg h4, if_neg h3, if_pos h2]
    by_cases h1 : j = k * 8 + 1
    · rw [if_neg h7, if_neg h6, if_neg h5, if_neg h4, if_neg h3, if_neg h2, if_pos h1]
    by_cases h0 : j = k * 8
    · rw [if_neg h7, if_neg h6, if_neg h5, if_neg h4, if_neg h3, if_neg h2, if_neg h1, if_pos h0]
    omega
  · rw [if_neg (by omega), if_neg (by omega), if_neg (by omega), if_neg (by omega), if_neg (by omega), if_neg (by omega), if_neg (by omega), if_neg (by omega), if_neg h]

theorem memTake_none (q gw gi : Nat) (vk : Value) (s : Ms) (R : HProp) (w : World) (h : Has w (memIn q gw gi vk s R)) (hk : s.top = none) :
    Calls Try.prog 65 #[.pointer (some ⟨q, 0, none⟩)] w (Pure ((Value.int .i64) (-1)) w) := by
  have hb : s.back = [] ∧ s.n ≤ s.next := by
    unfold Ms.top at hk
    cases hl : s.back.getLast? with
    | some x => rw [hl] at hk; cases hk
    | none =>
      rw [hl] at hk
      simp only at hk
      split at hk
      · cases hk
      · exact ⟨by simpa using hl, by omega⟩
  obtain ⟨hb, hle⟩ := hb
  obtain ⟨A, c, rfl⟩ := h.right.right.right.rowForm
  have hn : s.back.length = 0 := by rw [hb]; rfl
  obtain ⟨c0, c1, c2, c3⟩ := h.cells4
  rw [hn] at c2
  have v0 := via_cell c0
  have v1 := via_cell c1
  have v3 := via_cell c3
  go_enter Try.func65, Try.ntmps65
  go_wp2
  refine wp_region_via (by kernel_rfl) (by kernel_rfl) ?_
  repeat (first | go_big_quiet_step (fail) | quiet_step (fail))
  refine wpQuiet_nil ?_
  intro _ hw'
  obtain ⟨uq, hw''⟩ := hw'
  subst hw''
  go_wp2
  go_ret
  exact ⟨rfl, via_below _ _⟩

theorem memTake_back (q gw gi : Nat) (vk : Value) (s : Ms) (k : Nat) (R : HProp) (w : World) (h : Has w (memIn q gw gi vk s R)) (hk : s.back.getLast? = some k) (hn : k < s.n) :
    Calls Try.prog 65 #[.pointer (some ⟨q, 0, none⟩)] w fun e w' => ∃ vk', Res ((Value.int .i64) k) (memIn q gw gi vk' (s.take k) R) w e w' := by
  have hne : s.back ≠ [] := by rintro e; rw [e] at hk; cases hk
  have hfr := dl hk
  have hnx : (s.take k).next = s.next := by simp [Ms.take, hne]
  have hbk : (s.take k).back = s.back.dropLast := rfl
  obtain ⟨m, hm⟩ : ∃ m, s.back.length = m + 1 := ⟨s.back.dropLast.length, by rw [← hfr]; simp⟩
  have hm' : s.back.dropLast.length = m := by rw [← hfr] at hm; simpa using hm
  have hlast : s.back[m]? = some k := by rw [← hfr, ← hm']; simp
  have hints : (ints s.back).take m = ints s.back.dropLast := by
    have e1 : ints s.back = ints s.back.dropLast ++ [(Value.int .i64) (k : Int)] := by rw [← hfr]; simp [ints]
    rw [e1, ← hm']
    simp [ints]
  obtain ⟨c0, c1, c2, c3⟩ := h.cells4
  have e0 := h.lt
  have f2 := h.free 2
  have h1 : Has w (row 3 1 vk (m + 1) (ints s.back) * (blk q #[.slice (some ⟨gw, 0, none⟩) s.n s.n, .slice (some ⟨gi, 0, none⟩) s.n s.n, vk, (Value.int .i64) (s.next : Nat)] 74 *
      (blk gw (tabA (s.n * 8) (wc s)) 70 * (blk gi (tabA s.n (tc s)) 4 * R)))) := by
    have := h
    unfold memIn at this
    rw [hm] at this
    exact this.eq (by (simp only [star_assoc, star_left_comm, star_comm]))
  have n1 := h.ne
  have n2 : q ≠ gi := h.in2.ne
  have n3 : gw ≠ gi := h.right.ne
  obtain ⟨gb, cap, rfl, hcap, hcap2, hgb, hx⟩ := h1.rowHead
  have hx' := hx _ (ints_get hlast)
  have hm63 : m + 1 ≤ 9223372036854775807 := by unfold maxLen at hcap2; omega
  have h2 := h1.rowPop.p2.set 2 (.slice (some ⟨gb, 0, none⟩) m cap)
  have h3 := h2.a2.p2.a2.p2
  have hg := h3.lt
  have i0 := h3.tabGet (j := k) hn
  have i1 := h3.free k
  have hW := ((h3.tabSet k (Value.bool true)).tabExt (f' := tc (s.take k)) fun j _ => tc_take s k j).p2.a1
  have e1 := hW.lt
  have t0 := hW.tabGet (j := k * 8) (by omega)
  have z0 := hW.free (k * 8)
  have t1 := hW.tabGet (j := k * 8 + 1) (by omega)
  have z1 := hW.free (k * 8 + 1)
  have t2 := hW.tabGet (j := k * 8 + 2) (by omega)
  have z2 := hW.free (k * 8 + 2)
  have t3 := hW.tabGet (j := k * 8 + 3) (by omega)
  have z3 := hW.free (k * 8 + 3)
  have t4 := hW.tabGet (j := k * 8 + 4) (by omega)
  have z4 := hW.free (k * 8 + 4)
  have t5 := hW.tabGet (j := k * 8 + 5) (by omega)
  have z5 := hW.free (k * 8 + 5)
  have t6 := hW.tabGet (j := k * 8 + 6) (by omega)
  have z6 := hW.free (k * 8 + 6)
  have t7 := hW.tabGet (j := k * 8 + 7) (by omega)
  have z7 := hW.free (k * 8 + 7)
  have h4 := (((((((hW.tabSet (k * 8) ((Value.int .u64) 0)).tabSet (k * 8 + 1) ((Value.int .u64) 0)).tabSet (k * 8 + 2) ((Value.int .u64) 0)).tabSet (k * 8 + 3) ((Value.int .u64) 0)).tabSet (k * 8 + 4) ((Value.int .u64) 0)).tabSet (k * 8 + 5) ((Value.int .u64) 0)).tabSet (k * 8 + 6) ((Value.int .u64) 0)).tabSet (k * 8 + 7) ((Value.int .u64) 0)
  have h5 := (h4.tabExt (f' := wc (s.take k)) fun j _ => wc_take s k j).p2.a1.in2.in3
  clear h1 h2 h4
  go_enter Try.func65, Try.ntmps65
  go_wp2
  go_ret
  refine ⟨.slice (some ⟨gb, 0, none⟩) m cap, rfl, ?_, ((((((((((Ext.refl w).set _ _).set _ _).set _ _).set _ _).set _ _).set _ _).set _ _).set _ _).set _ _).set _ _⟩
  unfold memIn
  rw [hnx, hbk, hm', ← hints]
  exact h5
end Go.Proofs.Ytndhgomikpokpaa

namespace Go.Proofs.Ytndhgomikpokpaa
open Go.RowKit
set_option maxRecDepth 100000

theorem memTake_next (q gw gi : Nat) (vk : Value) (s : Ms) (R : HProp) (w : World) (h : Has w (memIn q gw gi vk s R)) (hb : s.back = []) (hn : s.next < s.n) (hn2 : s.n ≤ 1000) :
    Calls Try.prog 65 #[.pointer (some ⟨q, 0, none⟩)] w fun e w' => ∃ vk', Res ((Value.int .i64) (s.next : Nat)) (memIn q gw gi vk' (s.take s.next) R) w e w' := by
  have hnx : (s.take s.next).next = s.next + 1 := by simp [Ms.take, hb]
  have hbk : (s.take s.next).back = [] := by simp [Ms.take, hb]
  obtain ⟨A, c, rfl⟩ := h.right.right.right.rowForm
  unfold memIn at h
  rw [hb] at h
  dsimp only [List.length_nil] at h
  obtain ⟨c0, c1, c2, c3⟩ := h.cells4
  have v0 := via_cell c0
  have v1 := via_cell c1
  have v3 := via_cell c3
  go_enter Try.func65, Try.ntmps65
  go_wp2
  refine wp_region_via (by kernel_rfl) (by kernel_rfl) ?_
  repeat (first | go_big_quiet_step (fail) | quiet_step (fail))
  refine wpQuiet_nil ?_
  intro _ hw'
  obtain ⟨uq, hw''⟩ := hw'
  subst hw''
  have hv := h.via uq
  have xv := (Ext.refl w).below (via_below w uq)
  generalize via w uq = w1 at *
  clear v0 v1 v3 c0 c1 c2 c3 h
  obtain ⟨c0, c1, c2, c3⟩ := hv.cells4
  have e0 := hv.lt
  have f3 := hv.free 3
  have n1 := hv.ne
  have n2 : q ≠ gi := hv.in2.ne
  have n3 : gw ≠ gi := hv.right.ne
  have h2 := hv.set 3 ((Value.int .i64) ((s.next + 1 : Nat) : Int))
  rw [show (((s.next + 1 : Nat)) : Int) = (s.next : Int) + 1 by omega] at h2
  have h3 := h2.in2.p2
  have hg := h3.lt
  have i0 := h3.tabGet (j := s.next) hn
  have i1 := h3.free s.next
  have hW := ((h3.tabSet s.next (Value.bool true)).tabExt (f' := tc (s.take s.next)) fun j _ => tc_take s s.next j).in2.p2
  have e1 := hW.lt
  have t0 := hW.tabGet (j := s.next * 8) (by omega)
  have z0 := hW.free (s.next * 8)
  have t1 := hW.tabGet (j := s.next * 8 + 1) (by omega)
  have z1 := hW.free (s.next * 8 + 1)
  have t2 := hW.tabGet (j := s.next * 8 + 2) (by omega)
  have z2 := hW.free (s.next * 8 + 2)
  have t3 := hW.tabGet (j := s.next * 8 + 3) (by omega)
  have z3 := hW.free (s.next * 8 + 3)
  have t4 := hW.tabGet (j := s.next * 8 + 4) (by omega)
  have z4 := hW.free (s.next * 8 + 4)
  have t5 := hW.tabGet (j := s.next * 8 + 5) (by omega)
  have z5 := hW.free (s.next * 8 + 5)
  have t6 := hW.tabGet (j := s.next * 8 + 6) (by omega)
  have z6 := hW.free (s.next * 8 + 6)
  have t7 := hW.tabGet (j := s.next * 8 + 7) (by omega)
  have z7 := hW.free (s.next * 8 + 7)
  have h4 := (((((((hW.tabSet (s.next * 8) ((Value.int .u64) 0)).tabSet (s.next * 8 + 1) ((Value.int .u64) 0)).tabSet (s.next * 8 + 2) ((Value.int .u64) 0)).tabSet (s.next * 8 + 3) ((Value.int .u64) 0)).tabSet (s.next * 8 + 4) ((Value.int .u64) 0)).tabSet (s.next * 8 + 5) ((Value.int .u64) 0)).tabSet (s.next * 8 + 6) ((Value.int .u64) 0)).tabSet (s.next * 8 + 7) ((Value.int .u64) 0)
  have h5 := (h4.tabExt (f' := wc (s.take s.next)) fun j _ => wc_take s s.next j)
  clear h2 h4 h3
  go_wp2
  go_ret
  refine ⟨.slice A 0 c, rfl, ?_, ((((((((((xv.set _ _).set _ _).set _ _).set _ _).set _ _).set _ _).set _ _).set _ _).set _ _).set _ _)⟩
  unfold memIn
  rw [hnx, hbk]
  have h6 := h5.in2.p2
  exact h6

theorem memTake_any (q gw gi : Nat) (vk : Value) (s : Ms) (k : Nat) (R : HProp) (w : World) (h : Has w (memIn q gw gi vk s R)) (i : s.Inv) (hn2 : s.n ≤ 1000) (hk : s.top = some k) :
    Calls Try.prog 65 #[.pointer (some ⟨q, 0, none⟩)] w fun e w' => ∃ vk', Res ((Value.int .i64) k) (memIn q gw gi vk' (s.take k) R) w e w' := by
  have hlt := Ms.top_lt i hk
  cases hb : s.back.getLast? with
  | some x =>
    have : x = k := by unfold Ms.top at hk; rw [hb] at hk; simpa using hk
    subst this
    exact memTake_back q gw gi vk s x R w h hb hlt.1
  | none =>
    have he : s.back = [] := by simpa using hb
    have : s.next < s.n ∧ s.next = k := by
      unfold Ms.top at hk
      rw [hb] at hk
      simp only at hk
      split at hk
      · exact ⟨by assumption, by simpa using hk⟩
      · cases hk
    obtain ⟨h1, rfl⟩ := this
    exact memTake_next q gw gi vk s R w h he h1 hn2

theorem tc_give (s : Ms) (k j : Nat) : fput (tc s) k (Value.bool false) j = tc (s.give k) j := by
  unfold fput tc Ms.give
  dsimp only
  unfold fput
  by_cases h : j = k
  · rw [if_pos h, if_pos h]
  · rw [if_neg h, if_neg h]
theorem memGive_no (q gw gi : Nat) (vk : Value) (s : Ms) (k : Int) (R : HProp) (w : World) (h : Has w (memIn q gw gi vk s R)) (hk : s.has k = false) :
    Calls Try.prog 52 #[.pointer (some ⟨q, 0, none⟩), .int .i64 k] w (Same (Value.bool false) w) := by
  go_enter Try.func52, Try.ntmps52
  go_wp2_with (go_at_call 99; refine (memTaken_any q gw gi vk s _ _ _ h).mono ?_; rintro e w' ⟨rfl, rfl⟩)
  go_ret
  exact ⟨rfl, rfl⟩
theorem memGive_yes (q gw gi : Nat) (vk : Value) (s : Ms) (k : Nat) (R : HProp) (w : World) (h : Has w (memIn q gw gi vk s R)) (hk : s.has k = true) (hlen : s.back.length < 1000000) :
    Calls Try.prog 52 #[.pointer (some ⟨q, 0, none⟩), .int .i64 k] w fun e w' => ∃ vk', Res (Value.bool true) (memIn q gw gi vk' (s.give k) R) w e w' := by
  obtain ⟨k0, k1, _⟩ := Ms.has_iff.1 hk
  obtain ⟨c0, c1, c2, c3⟩ := h.cells4
  obtain ⟨A, c, rfl⟩ := h.right.right.right.rowForm
  have e0 := h.lt
  have e1 := h.right.right.lt
  have hc := h.right.right.tabGet (j := k) (by omega)
  have hf := h.right.right.free k
  have hne : q ≠ gi := h.in2.ne
  have h2 := ((h.in2.p2.tabSet k (Value.bool false)).tabExt (f' := tc (s.give k)) fun j _ => tc_give s k j)
  have h3 : Has (w.setCell ⟨gi, k, none⟩ (Value.bool false)) (row 3 1 (.slice A s.back.length c) s.back.length (ints s.back) * (blk q #[.slice (some ⟨gw, 0, none⟩) s.n s.n, .slice (some ⟨gi, 0, none⟩) s.n s.n, .slice A s.back.length c, (Value.int .i64) (s.next : Nat)] 74 *
      (blk gw (tabA (s.n * 8) (wc s)) 70 * (blk gi (tabA s.n (tc (s.give k))) 4 * R)))) := h2.eq (by (simp only [star_assoc, star_left_comm, star_comm]))
  obtain ⟨d0, d1, d2, d3⟩ := h3.right.cells4
  have e2 := h3.right.lt
  have hrow := h3.alloc (.cells #[(Value.int .i64) k] 3)
  have hlen' : (s.give k).back.length = s.back.length + 1 := by simp [Ms.give]
  have hints : ints (s.give k).back = ints s.back ++ [(Value.int .i64) (k : Int)] := by simp [Ms.give, ints]
  have hnews := news_one (w.setCell ⟨gi, k, none⟩ (Value.bool false)) ((Value.int .i64) k) 3
  rw [show (w.setCell ⟨gi, k, none⟩ (Value.bool false)).heap.size = w.heap.size by simp [World.setCell]] at hnews
  have HT := fun k' => memTaken_any q gw gi _ s k' _ _ h
  generalize s.back.length = m at *
  have hL := Lib.hid hlen'
  clear h h2 hlen'
  go_enter Try.func52, Try.ntmps52
  go_wp2_with (first | (go_at_call 99; refine (HT _).mono ?_; rintro e w' ⟨rfl, rfl⟩) | (at_builtin; refine wpList_append_has rfl _ _ 56 rfl Try.underlying56 elemI _ _ _ rfl hrow ⟨w.heap.size, 0, none⟩ 1 1 [(Value.int .i64) k] rfl rfl hnews ?c1 ?c2 ?c3 ?_))
  case c1 => intro u hu; simp at hu; subst hu; rfl
  case c2 => unfold maxLen; omega
  case c3 => omega
  intro v' w2 h' x'
  obtain ⟨A', c', rfl⟩ := h'.rowForm
  have g0 := h'.right.lt
  have g1 := h'.right.free 2
  obtain ⟨y0, y1, y2, y3⟩ := h'.right.cells4
  have h5 := (h'.p2.set 2 (.slice A' (m + 1) c')).in2.in3
  clear hrow d0 d1 d2 d3 e2 h3
  go_wp2
  go_ret
  refine ⟨.slice A' (m + 1) c', rfl, ?_, by (repeat (first | with_reducible assumption | with_reducible exact Ext.refl _ | with_reducible refine Ext.set ?_ _ _ | with_reducible refine Ext.alloc ?_ _ | with_reducible refine Ext.drew ?_ | with_reducible refine Ext.drewN ?_ _ | assumption | exact Ext.refl _ | refine Ext.alloc ?_ _ | refine Ext.set ?_ _ _ | refine Ext.drew ?_ | refine Ext.drewN ?_ _ | refine Ext.below ?_ (by assumption) | refine Ext.trans ?_ (by assumption)))⟩
  unfold memIn
  rw [hL.out, hints]
  exact h5
end Go.Proofs.Ytndhgomikpokpaa

namespace Go.Proofs.Ytndhgomikpokpaa
open Go.RowKit
set_option maxRecDepth 100000

def wordsZero : Value := .agg #[(Value.int .u64) 0, (Value.int .u64) 0, (Value.int .u64) 0, (Value.int .u64) 0, (Value.int .u64) 0, (Value.int .u64) 0, (Value.int .u64) 0, (Value.int .u64) 0]
theorem wordsInfo : (Try.prog.info? 70).map (fun i => (i.zero, i.size, i.bytes)) = some (some wordsZero, 8, 64) := by kernel_rfl
theorem boolInfo : (Try.prog.info? 4).map (fun i => (i.zero, i.size, i.bytes)) = some (some (Value.bool false), 1, 1) := by kernel_rfl
theorem mod8n (j : Nat) : j % 8 = 0 ∨ j % 8 = 1 ∨ j % 8 = 2 ∨ j % 8 = 3 ∨ j % 8 = 4 ∨ j % 8 = 5 ∨ j % 8 = 6 ∨ j % 8 = 7 := by omega
theorem wc_new (n j : Nat) : wordsZero.cells[j % 8]! = wc (Ms.new n) j := by
  unfold wc Ms.new
  dsimp only
  rcases mod8n j with h | h | h | h | h | h | h | h <;> rw [h] <;> rfl
theorem make_words (n : Nat) (hn : n ≤ 128) (w : World) : (Instr.makeSlice 71 (.int .i64 (n : Int)) (.int .i64 (n : Int))).run Try.prog w = .ok (.slice (some ⟨w.heap.size, 0, none⟩) n n) (w.alloc (.cells (tabA (n * 8) (wc (Ms.new n))) 70)) := by
  rw [run_make_tab (P := Try.prog) 71 70 wordsZero 8 64 Try.underlying71 wordsInfo rfl n (by omega) (by omega) w, tabA_ext (fun j _ => wc_new n j)]
theorem make_bools (n : Nat) (hn : n ≤ 128) (w : World) : (Instr.makeSlice 72 (.int .i64 (n : Int)) (.int .i64 (n : Int))).run Try.prog w = .ok (.slice (some ⟨w.heap.size, 0, none⟩) n n) (w.alloc (.cells (tabA n (tc (Ms.new n))) 4)) := by
  rw [run_make_tab (P := Try.prog) 72 4 (Value.bool false) 1 1 Try.underlying72 boolInfo rfl n (by omega) (by omega) w, Nat.mul_one, tabA_ext (f := fun j => (Value.bool false).cells[j % 1]!) (g := tc (Ms.new n)) (fun j _ => by
    show (Value.bool false).cells[j % 1]! = Value.bool false
    rw [Nat.mod_one]
    rfl)]
theorem newMem_any (n : Nat) (hn : n ≤ 128) (R : HProp) (w : World) (h : Has w R) :
    Calls Try.prog 98 #[.int .i64 n] w fun e w' => ∃ q gw gi vk, Res (.pointer (some ⟨q, 0, none⟩)) (memIn q gw gi vk (Ms.new n) R) w e w' := by
  have hW := make_words n hn
  have hB := make_bools n hn
  go_enter Try.func98, Try.ntmps98
  go_wp2
  go_region
  · have h1 := h.new (tabA (n * 8) (wc (Ms.new n))) 70
    have h2 := h1.new (tabA n (tc (Ms.new n))) 4
    have h3 := h2.new #[.slice (some ⟨w.heap.size, 0, none⟩) n n, .slice (some ⟨w.heap.size + 1, 0, none⟩) n n, .slice none 0 0, (Value.int .i64) 0] 74
    have x3 := (((Ext.refl w).alloc (.cells (tabA (n * 8) (wc (Ms.new n))) 70)).alloc (.cells (tabA n (tc (Ms.new n))) 4)).alloc (.cells #[.slice (some ⟨w.heap.size, 0, none⟩) n n, .slice (some ⟨w.heap.size + 1, 0, none⟩) n n, .slice none 0 0, (Value.int .i64) 0] 74)
    simp only [World.size_alloc] at h2 h3
    have h4 := Has.rowNil (e := 3) (size := 1) h3
    have h5 := h4.p2.in2.in3
    have h6 := h5.in2
    go_wp2
    go_ret
    exact ⟨_, w.heap.size, w.heap.size + 1, .slice none 0 0, rfl, h6.drew, x3.drew⟩
  · have h1 := h.new (tabA n (tc (Ms.new n))) 4
    have h2 := h1.new (tabA (n * 8) (wc (Ms.new n))) 70
    have h3 := h2.new #[.slice (some ⟨w.heap.size + 1, 0, none⟩) n n, .slice (some ⟨w.heap.size, 0, none⟩) n n, .slice none 0 0, (Value.int .i64) 0] 74
    have x3 := (((Ext.refl w).alloc (.cells (tabA n (tc (Ms.new n))) 4)).alloc (.cells (tabA (n * 8) (wc (Ms.new n))) 70)).alloc (.cells #[.slice (some ⟨w.heap.size + 1, 0, none⟩) n n, .slice (some ⟨w.heap.size, 0, none⟩) n n, .slice none 0 0, (Value.int .i64) 0] 74)
    simp only [World.size_alloc] at h2 h3
    have h4 := Has.rowNil (e := 3) (size := 1) h3
    have h5 := h4.p2.in2.in3
    go_wp2
    go_ret
    exact ⟨_, w.heap.size + 1, w.heap.size, .slice none 0 0, rfl, h5.drew, x3.drew⟩
end Go.Proofs.Ytndhgomikpokpaa
