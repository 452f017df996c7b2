/- More contracts of the document's own memory: Take of a frame that was never taken; Give; NewMem. -/
import Derived.Test.YtndhgomikpokpaaMem2
namespace Go.Proofs.Ytndhgomikpokpaa
open Go.RowKit
set_option maxRecDepth 100000

theorem memTake_next (q gw gi : Nat) (vk : Value) (s : Ms) (R : HProp) (w : World) (h : Has w (memIn q gw gi vk s R)) (hb : s.back = []) (hn : s.next < s.n) (hn2 : s.n ≤ 1000) :
    Calls Try.prog 65 #[.pointer (some ⟨q, 0, none⟩)] w fun e w' => ∃ vk', Res ((Value.int .i64) (s.next : Nat)) (memIn q gw gi vk' (s.take s.next) R) w e w' := by
  have hnx : (s.take s.next).next = s.next + 1 := by simp [Ms.take, hb]
  have hbk : (s.take s.next).back = [] := by simp [Ms.take, hb]
  obtain ⟨A, c, rfl⟩ := h.right.right.right.rowForm
  unfold memIn at h
  rw [hb] at h
  dsimp only [List.length_nil] at h
  obtain ⟨c0, c1, c2, c3⟩ := h.cells4
  have v0 := via_cell c0
  have v1 := via_cell c1
  have v3 := via_cell c3
  go_enter Try.func65, Try.ntmps65
  go_wp2
  refine wp_region_via (by kernel_rfl) (by kernel_rfl) ?_
  repeat (first | go_big_quiet_step (fail) | quiet_step (fail))
  refine wpQuiet_nil ?_
  intro _ hw'
  obtain ⟨uq, hw''⟩ := hw'
  subst hw''
  have hv := h.via uq
  have xv := (Ext.refl w).below (via_below w uq)
  generalize via w uq = w1 at *
  clear v0 v1 v3 c0 c1 c2 c3 h
  obtain ⟨c0, c1, c2, c3⟩ := hv.cells4
  have e0 := hv.lt
  have f3 := hv.free 3
  have n1 := hv.ne
  have n2 : q ≠ gi := hv.in2.ne
  have n3 : gw ≠ gi := hv.right.ne
  have h2 := hv.set 3 ((Value.int .i64) ((s.next + 1 : Nat) : Int))
  rw [show (((s.next + 1 : Nat)) : Int) = (s.next : Int) + 1 by omega] at h2
  have h3 := h2.in2.p2
  have hg := h3.lt
  have i0 := h3.tabGet (j := s.next) hn
  have i1 := h3.free s.next
  have hW := ((h3.tabSet s.next (Value.bool true)).tabExt (f' := tc (s.take s.next)) fun j _ => tc_take s s.next j).in2.p2
  have e1 := hW.lt
  have t0 := hW.tabGet (j := s.next * 8) (by omega)
  have z0 := hW.free (s.next * 8)
  have t1 := hW.tabGet (j := s.next * 8 + 1) (by omega)
  have z1 := hW.free (s.next * 8 + 1)
  have t2 := hW.tabGet (j := s.next * 8 + 2) (by omega)
  have z2 := hW.free (s.next * 8 + 2)
  have t3 := hW.tabGet (j := s.next * 8 + 3) (by omega)
  have z3 := hW.free (s.next * 8 + 3)
  have t4 := hW.tabGet (j := s.next * 8 + 4) (by omega)
  have z4 := hW.free (s.next * 8 + 4)
  have t5 := hW.tabGet (j := s.next * 8 + 5) (by omega)
  have z5 := hW.free (s.next * 8 + 5)
  have t6 := hW.tabGet (j := s.next * 8 + 6) (by omega)
  have z6 := hW.free (s.next * 8 + 6)
  have t7 := hW.tabGet (j := s.next * 8 + 7) (by omega)
  have z7 := hW.free (s.next * 8 + 7)
  have h4 := (((((((hW.tabSet (s.next * 8) ((Value.int .u64) 0)).tabSet (s.next * 8 + 1) ((Value.int .u64) 0)).tabSet (s.next * 8 + 2) ((Value.int .u64) 0)).tabSet (s.next * 8 + 3) ((Value.int .u64) 0)).tabSet (s.next * 8 + 4) ((Value.int .u64) 0)).tabSet (s.next * 8 + 5) ((Value.int .u64) 0)).tabSet (s.next * 8 + 6) ((Value.int .u64) 0)).tabSet (s.next * 8 + 7) ((Value.int .u64) 0)
  have h5 := (h4.tabExt (f' := wc (s.take s.next)) fun j _ => wc_take s s.next j)
  clear h2 h4 h3
  go_wp2
  go_ret
  refine ⟨.slice A 0 c, rfl, ?_, ((((((((((xv.set _ _).set _ _).set _ _).set _ _).set _ _).set _ _).set _ _).set _ _).set _ _).set _ _)⟩
  unfold memIn
  rw [hnx, hbk]
  have h6 := h5.in2.p2
  exact h6

theorem memTake_any (q gw gi : Nat) (vk : Value) (s : Ms) (k : Nat) (R : HProp) (w : World) (h : Has w (memIn q gw gi vk s R)) (i : s.Inv) (hn2 : s.n ≤ 1000) (hk : s.top = some k) :
    Calls Try.prog 65 #[.pointer (some ⟨q, 0, none⟩)] w fun e w' => ∃ vk', Res ((Value.int .i64) k) (memIn q gw gi vk' (s.take k) R) w e w' := by
  have hlt := Ms.top_lt i hk
  cases hb : s.back.getLast? with
  | some x =>
    have : x = k := by unfold Ms.top at hk; rw [hb] at hk; simpa using hk
    subst this
    exact memTake_back q gw gi vk s x R w h hb hlt.1
  | none =>
    have he : s.back = [] := by simpa using hb
    have : s.next < s.n ∧ s.next = k := by
      unfold Ms.top at hk
      rw [hb] at hk
      simp only at hk
      split at hk
      · exact ⟨by assumption, by simpa using hk⟩
      · cases hk
    obtain ⟨h1, rfl⟩ := this
    exact memTake_next q gw gi vk s R w h he h1 hn2

theorem tc_give (s : Ms) (k j : Nat) : fput (tc s) k (Value.bool false) j = tc (s.give k) j := by
  unfold fput tc Ms.give
  dsimp only
  unfold fput
  by_cases h : j = k
  · rw [if_pos h, if_pos h]
  · rw [if_neg h, if_neg h]
theorem memGive_no (q gw gi : Nat) (vk : Value) (s : Ms) (k : Int) (R : HProp) (w : World) (h : Has w (memIn q gw gi vk s R)) (hk : s.has k = false) :
    Calls Try.prog 52 #[.pointer (some ⟨q, 0, none⟩), .int .i64 k] w (Same (Value.bool false) w) := by
  go_enter Try.func52, Try.ntmps52
  go_wp2_with (go_at_call 99; refine (memTaken_any q gw gi vk s _ _ _ h).mono ?_; rintro e w' ⟨rfl, rfl⟩)
  go_ret
  exact ⟨rfl, rfl⟩
theorem memGive_yes (q gw gi : Nat) (vk : Value) (s : Ms) (k : Nat) (R : HProp) (w : World) (h : Has w (memIn q gw gi vk s R)) (hk : s.has k = true) (hlen : s.back.length < 1000000) :
    Calls Try.prog 52 #[.pointer (some ⟨q, 0, none⟩), .int .i64 k] w fun e w' => ∃ vk', Res (Value.bool true) (memIn q gw gi vk' (s.give k) R) w e w' := by
  obtain ⟨k0, k1, _⟩ := Ms.has_iff.1 hk
  obtain ⟨c0, c1, c2, c3⟩ := h.cells4
  obtain ⟨A, c, rfl⟩ := h.right.right.right.rowForm
  have e0 := h.lt
  have e1 := h.right.right.lt
  have hc := h.right.right.tabGet (j := k) (by omega)
  have hf := h.right.right.free k
  have hne : q ≠ gi := h.in2.ne
  have h2 := ((h.in2.p2.tabSet k (Value.bool false)).tabExt (f' := tc (s.give k)) fun j _ => tc_give s k j)
  have h3 : Has (w.setCell ⟨gi, k, none⟩ (Value.bool false)) (row 3 1 (.slice A s.back.length c) s.back.length (ints s.back) * (blk q #[.slice (some ⟨gw, 0, none⟩) s.n s.n, .slice (some ⟨gi, 0, none⟩) s.n s.n, .slice A s.back.length c, (Value.int .i64) (s.next : Nat)] 74 *
      (blk gw (tabA (s.n * 8) (wc s)) 70 * (blk gi (tabA s.n (tc (s.give k))) 4 * R)))) := h2.eq (by (simp only [star_assoc, star_left_comm, star_comm]))
  obtain ⟨d0, d1, d2, d3⟩ := h3.right.cells4
  have e2 := h3.right.lt
  have hrow := h3.alloc (.cells #[(Value.int .i64) k] 3)
  have hlen' : (s.give k).back.length = s.back.length + 1 := by simp [Ms.give]
  have hints : ints (s.give k).back = ints s.back ++ [(Value.int .i64) (k : Int)] := by simp [Ms.give, ints]
  have hnews := news_one (w.setCell ⟨gi, k, none⟩ (Value.bool false)) ((Value.int .i64) k) 3
  rw [show (w.setCell ⟨gi, k, none⟩ (Value.bool false)).heap.size = w.heap.size by simp [World.setCell]] at hnews
  have HT := fun k' => memTaken_any q gw gi _ s k' _ _ h
  generalize s.back.length = m at *
  have hL := Lib.hid hlen'
  clear h h2 hlen'
  go_enter Try.func52, Try.ntmps52
  go_wp2_with (first | (go_at_call 99; refine (HT _).mono ?_; rintro e w' ⟨rfl, rfl⟩) | (at_builtin; refine wpList_append_has rfl _ _ 56 rfl Try.underlying56 elemI _ _ _ rfl hrow ⟨w.heap.size, 0, none⟩ 1 1 [(Value.int .i64) k] rfl rfl hnews ?c1 ?c2 ?c3 ?_))
  case c1 => intro u hu; simp at hu; subst hu; rfl
  case c2 => unfold maxLen; omega
  case c3 => omega
  intro v' w2 h' x'
  obtain ⟨A', c', rfl⟩ := h'.rowForm
  have g0 := h'.right.lt
  have g1 := h'.right.free 2
  obtain ⟨y0, y1, y2, y3⟩ := h'.right.cells4
  have h5 := (h'.p2.set 2 (.slice A' (m + 1) c')).in2.in3
  clear hrow d0 d1 d2 d3 e2 h3
  go_wp2
  go_ret
  refine ⟨.slice A' (m + 1) c', rfl, ?_, by (repeat (first | with_reducible assumption | with_reducible exact Ext.refl _ | with_reducible refine Ext.set ?_ _ _ | with_reducible refine Ext.alloc ?_ _ | with_reducible refine Ext.drew ?_ | with_reducible refine Ext.drewN ?_ _ | assumption | exact Ext.refl _ | refine Ext.alloc ?_ _ | refine Ext.set ?_ _ _ | refine Ext.drew ?_ | refine Ext.drewN ?_ _ | refine Ext.below ?_ (by assumption) | refine Ext.trans ?_ (by assumption)))⟩
  unfold memIn
  rw [hL.out, hints]
  exact h5
end Go.Proofs.Ytndhgomikpokpaa
