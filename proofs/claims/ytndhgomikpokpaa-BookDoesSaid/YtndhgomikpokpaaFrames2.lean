/- More contracts of package frames: Take, Give, New. -/
import Derived.Test.YtndhgomikpokpaaFrames
namespace Go.Proofs.Ytndhgomikpokpaa
open Go.RowKit
set_option maxRecDepth 100000

theorem ints_get {l : List Nat} {j k : Nat} (h : l[j]? = some k) : (ints l)[j]? = some ((Value.int .i64) (k : Int)) := by simp [ints, h]
theorem fc_take (s : Ms) (k : Nat) (j : Nat) :
    fput (fput (fput (fput (fput (fput (fput (fput (fput (fc s) (k * 9) (Value.bool true)) (k * 9 + 1) ((Value.int .u64) 0)) (k * 9 + 2) ((Value.int .u64) 0)) (k * 9 + 3) ((Value.int .u64) 0)) (k * 9 + 4) ((Value.int .u64) 0)) (k * 9 + 5) ((Value.int .u64) 0)) (k * 9 + 6) ((Value.int .u64) 0)) (k * 9 + 7) ((Value.int .u64) 0)) (k * 9 + 8) ((Value.int .u64) 0) j = fc (s.take k) j := by
  unfold fput fc Ms.take
  dsimp only
  unfold fput
  by_cases h : j / 9 = k
  · by_cases h0 : j % 9 = 0
    · rw [if_neg (by omega), if_neg (by omega), if_neg (by omega), if_neg (by omega), if_neg (by omega), if_neg (by omega), if_neg (by omega), if_neg (by omega), if_pos (by omega), if_pos h0, if_pos h]
    · rw [if_neg h0, if_neg h0, if_pos h]
      by_cases h8 : j = k * 9 + 8
      · rw [if_pos h8]
      by_cases h7 : j = k * 9 + 7
      · rw [if_neg h8, if_pos h7]
      by_cases h6 : j = k * 9 + 6
      · rw [if_neg h8, if_neg h7, if_pos h6]
      by_cases h5 : j = k * 9 + 5
      · rw [if_neg h8, if_neg h7, if_neg h6, if_pos h5]
      by_cases h4 : j = k * 9 + 4
      · rw [if_neg h8, if_neg h7, if_neg h6, if_neg h5, if_pos h4]
      by_cases h3 : j = k * 9 + 3
      · rw [if_neg h8, if_neg h7, if_neg h6, if_neg h5, if_neg h4, if_pos h3]
      by_cases h2 : j = k * 9 + 2
      · rw [if_neg h8, if_neg h7, if_neg h6, if_neg h5, if_neg h4, if_neg h3, if_pos h2]
      by_cases h1 : j = k * 9 + 1
      · rw [if_neg h8, if_neg h7, if_neg h6, if_neg h5, if_neg h4, if_neg h3, if_neg h2, if_pos h1]
      omega
  · rw [if_neg (by omega), if_neg (by omega), if_neg (by omega), if_neg (by omega), if_neg (by omega), if_neg (by omega), if_neg (by omega), if_neg (by omega), if_neg (by omega), if_neg h, if_neg h]
theorem take_any (p g : Nat) (vf : Value) (s : Ms) (k : Nat) (R : HProp) (w : World) (h : Has w (framesIn p g vf s R)) (hk : s.top = some k) (hn : k < s.n) :
    Calls Try.prog 64 #[.pointer (some ⟨p, 0, none⟩)] w fun e w' => ∃ vf', Res ((Value.int .i64) k) (framesIn p g vf' (s.take k) R) w e w' := by
  have hfr := Ms.frees_take s k hk
  obtain ⟨m, hm⟩ : ∃ m, s.frees.length = m + 1 := ⟨(s.take k).frees.length, by rw [← hfr]; simp⟩
  have hm' : (s.take k).frees.length = m := by rw [← hfr] at hm; simpa using hm
  have hlast : s.frees[m]? = some k := by rw [← hfr, ← hm']; simp
  have hints : (ints s.frees).take m = ints (s.take k).frees := by rw [← hfr, ← hm']; simp [ints]
  obtain ⟨c0, c1⟩ := h.cells2
  have e0 := h.lt
  have f1 := h.free 1
  have h1 : Has w (row 3 1 vf (m + 1) (ints s.frees) * (blk p #[.slice (some ⟨g, 0, none⟩) s.n s.n, vf] 184 * (blk g (tabA (s.n * 9) (fc s)) 181 * R))) := by
    have := h
    unfold framesIn at this
    rw [hm] at this
    exact this.eq (by (simp only [star_assoc, star_left_comm, star_comm]))
  obtain ⟨gf, cap, rfl, hcap, hcap2, hgf, hx⟩ := h1.rowHead
  have hx' := hx _ (ints_get hlast)
  have h2 := h1.rowPop.p2.set 1 (.slice (some ⟨gf, 0, none⟩) m cap)
  have e1 := h.right.lt
  have hm63 : m + 1 ≤ 9223372036854775807 := by unfold maxLen at hcap2; omega
  have h3 := h2.a2.p2
  have hg1 := h3.tabGet (j := k * 9) (by omega)
  have t1 := h3.tabGet (j := k * 9 + 1) (by omega)
  have z1 := h3.free (k * 9 + 1)
  have t2 := h3.tabGet (j := k * 9 + 2) (by omega)
  have z2 := h3.free (k * 9 + 2)
  have t3 := h3.tabGet (j := k * 9 + 3) (by omega)
  have z3 := h3.free (k * 9 + 3)
  have t4 := h3.tabGet (j := k * 9 + 4) (by omega)
  have z4 := h3.free (k * 9 + 4)
  have t5 := h3.tabGet (j := k * 9 + 5) (by omega)
  have z5 := h3.free (k * 9 + 5)
  have t6 := h3.tabGet (j := k * 9 + 6) (by omega)
  have z6 := h3.free (k * 9 + 6)
  have t7 := h3.tabGet (j := k * 9 + 7) (by omega)
  have z7 := h3.free (k * 9 + 7)
  have t8 := h3.tabGet (j := k * 9 + 8) (by omega)
  have z8 := h3.free (k * 9 + 8)
  have z0 := h3.free (k * 9)
  have h4 := ((((((((h3.tabSet (k * 9) (Value.bool true)).tabSet (k * 9 + 1) ((Value.int .u64) 0)).tabSet (k * 9 + 2) ((Value.int .u64) 0)).tabSet (k * 9 + 3) ((Value.int .u64) 0)).tabSet (k * 9 + 4) ((Value.int .u64) 0)).tabSet (k * 9 + 5) ((Value.int .u64) 0)).tabSet (k * 9 + 6) ((Value.int .u64) 0)).tabSet (k * 9 + 7) ((Value.int .u64) 0)).tabSet (k * 9 + 8) ((Value.int .u64) 0)
  go_enter Try.func64, Try.ntmps64
  go_wp2
  go_ret
  refine ⟨.slice (some ⟨gf, 0, none⟩) m cap, rfl, ?_, (((((((((((Ext.refl w).set _ _).set _ _).set _ _).set _ _).set _ _).set _ _).set _ _).set _ _).set _ _).set _ _)⟩
  have h5 := (h4.tabExt (f' := fc (s.take k)) fun j _ => fc_take s k j).p2.a1.in2
  unfold framesIn
  rw [hm', ← hints]
  exact h5
theorem take_none (p g : Nat) (vf : Value) (s : Ms) (R : HProp) (w : World) (h : Has w (framesIn p g vf s R)) (hk : s.top = none) :
    Calls Try.prog 64 #[.pointer (some ⟨p, 0, none⟩)] w (Same ((Value.int .i64) (-1)) w) := by
  have he : s.frees = [] := by rw [← Ms.frees_top] at hk; simpa using hk
  obtain ⟨c0, c1⟩ := h.cells2
  obtain ⟨A, c, rfl⟩ := h.right.right.rowForm
  have hn : s.frees.length = 0 := by rw [he]; rfl
  rw [hn] at c1
  go_enter Try.func64, Try.ntmps64
  go_wp2
  go_ret
  exact ⟨rfl, rfl⟩

theorem elemI : Elem Try.prog 3 ((Value.int .i64) 0) 1 8 := ⟨by kernel_rfl, rfl, by omega⟩
theorem fc_give (s : Ms) (k : Nat) (j : Nat) : fput (fc s) (k * 9) (Value.bool false) j = fc (s.give k) j := by
  unfold fput fc Ms.give
  dsimp only
  unfold fput
  by_cases h : j = k * 9
  · rw [if_pos h, if_pos (by omega), if_pos (by omega)]
  · rw [if_neg h]
    by_cases h0 : j % 9 = 0
    · rw [if_pos h0, if_pos h0, if_neg (by omega)]
    · rw [if_neg h0, if_neg h0]
theorem give_no (p g : Nat) (vf : Value) (s : Ms) (k : Int) (R : HProp) (w : World) (h : Has w (framesIn p g vf s R)) (hk : s.has k = false) :
    Calls Try.prog 51 #[.pointer (some ⟨p, 0, none⟩), .int .i64 k] w (Same (Value.bool false) w) := by
  go_enter Try.func51, Try.ntmps51
  go_wp2_with (go_at_call 89; refine (taken_any p g vf s _ _ _ h).mono ?_; rintro e w' ⟨rfl, rfl⟩)
  go_ret
  exact ⟨rfl, rfl⟩
theorem give_yes (p g : Nat) (vf : Value) (s : Ms) (k : Nat) (R : HProp) (w : World) (h : Has w (framesIn p g vf s R)) (hk : s.has k = true) (hlen : s.frees.length < 1000000) :
    Calls Try.prog 51 #[.pointer (some ⟨p, 0, none⟩), .int .i64 k] w fun e w' => ∃ vf', Res (Value.bool true) (framesIn p g vf' (s.give k) R) w e w' := by
  obtain ⟨k0, k1, _⟩ := Ms.has_iff.1 hk
  obtain ⟨c0, c1⟩ := h.cells2
  obtain ⟨A, c, rfl⟩ := h.right.right.rowForm
  have e0 := h.lt
  have e1 := h.right.lt
  have hc := h.right.tabGet (j := k * 9) (by omega)
  have hf := h.right.free (k * 9)
  have f1 := h.free 1
  have hne := h.ne
  have h2 := ((h.p2.tabSet (k * 9) (Value.bool false)).tabExt (f' := fc (s.give k)) fun j _ => fc_give s k j)
  have h3 : Has (w.setCell ⟨g, k * 9, none⟩ (Value.bool false)) (row 3 1 (.slice A s.frees.length c) s.frees.length (ints s.frees) * (blk p #[.slice (some ⟨g, 0, none⟩) s.n s.n, .slice A s.frees.length c] 184 * (blk g (tabA (s.n * 9) (fc (s.give k))) 181 * R))) := h2.eq (by (simp only [star_assoc, star_left_comm, star_comm]))
  have d0 := h3.right.cells2.1
  have d1 := h3.right.cells2.2
  have e2 := h3.right.lt
  have hrow := h3.alloc (.cells #[(Value.int .i64) k] 3)
  have hlen' : (s.give k).frees.length = s.frees.length + 1 := by rw [Ms.frees_give]; simp
  have hints : ints (s.give k).frees = ints s.frees ++ [(Value.int .i64) (k : Int)] := by rw [Ms.frees_give]; simp [ints]
  have hnews := news_one (w.setCell ⟨g, k * 9, none⟩ (Value.bool false)) ((Value.int .i64) k) 3
  rw [show (w.setCell ⟨g, k * 9, none⟩ (Value.bool false)).heap.size = w.heap.size by simp [World.setCell]] at hnews
  have HT := fun k' => taken_any p g _ s k' _ _ h
  generalize s.frees.length = m at *
  have hL := Lib.hid hlen'
  clear h h2 hlen'
  go_enter Try.func51, Try.ntmps51
  go_wp2_with (first | (go_at_call 89; refine (HT _).mono ?_; rintro e w' ⟨rfl, rfl⟩) | (at_builtin; refine wpList_append_has rfl _ _ 56 rfl Try.underlying56 elemI _ _ _ rfl hrow ⟨w.heap.size, 0, none⟩ 1 1 [(Value.int .i64) k] rfl rfl hnews ?c1 ?c2 ?c3 ?_))
  case c1 => intro u hu; simp at hu; subst hu; rfl
  case c2 => unfold maxLen; omega
  case c3 => omega
  intro v' w2 h' x'
  obtain ⟨A', c', rfl⟩ := h'.rowForm
  have g0 := h'.right.lt
  have g1 := h'.right.free 1
  have g2 := h'.right.cells2.1
  have g3 := h'.right.cells2.2
  have h5 := (h'.p2.set 1 (.slice A' (m + 1) c')).in2
  clear hrow d0 d1 e2 h3
  go_wp2
  go_ret
  refine ⟨.slice A' (m + 1) c', rfl, ?_, by (repeat (first | with_reducible assumption | with_reducible exact Ext.refl _ | with_reducible refine Ext.set ?_ _ _ | with_reducible refine Ext.alloc ?_ _ | with_reducible refine Ext.drew ?_ | with_reducible refine Ext.drewN ?_ _ | assumption | exact Ext.refl _ | refine Ext.alloc ?_ _ | refine Ext.set ?_ _ _ | refine Ext.drew ?_ | refine Ext.drewN ?_ _ | refine Ext.below ?_ (by assumption) | refine Ext.trans ?_ (by assumption)))⟩
  unfold framesIn
  rw [hL.out, hints]
  exact h5
end Go.Proofs.Ytndhgomikpokpaa
