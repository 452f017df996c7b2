/- More contracts of package frames: Take, Give, New. -/
import Derived.Test.YtmfheghbgihdmaaTblM3
import Derived.Test.YtmfheghbgihdmaaSep
import Derived.Lib.Hide
import Derived.WalkSpells
import Derived.Outline
import Derived.BigQuiet
import Derived.Laws.IdiomCopy
import Derived.ArgAppend
import Derived.Deep.RegionLaw
import Derived.Deep.RegionHeld3
import Derived.Deep.LoopGhost
import Derived.Deep.DeepCutAuto
import Derived.Deep.CutBlock
import Derived.Defers
import Derived.Recover
import Derived.WalkLawsBesides
import Derived.Laws.Pointers
namespace Go.Proofs.Ytmfheghbgihdmaa
open Go.RowKit
set_option maxRecDepth 100000
theorem ints_get {l : List Nat} {j k : Nat} (h : l[j]? = some k) : (ints l)[j]? = some ((Value.int .i64) (k : Int)) := by simp [ints, h]
theorem fc_take (s : Ms) (k : Nat) (j : Nat) :
    fput (fput (fput (fput (fput (fput (fput (fput (fput (fc s) (k * 9) (Value.bool true)) (k * 9 + 1) ((Value.int .u64) 0)) (k * 9 + 2) ((Value.int .u64) 0)) (k * 9 + 3) ((Value.int .u64) 0)) (k * 9 + 4) ((Value.int .u64) 0)) (k * 9 + 5) ((Value.int .u64) 0)) (k * 9 + 6) ((Value.int .u64) 0)) (k * 9 + 7) ((Value.int .u64) 0)) (k * 9 + 8) ((Value.int .u64) 0) j = fc (s.take k) j := by
  unfold fput fc Ms.take
  dsimp only
  unfold fput
  by_cases h : j / 9 = k
  · by_cases h0 : j % 9 = 0
    · rw [if_neg (by omega), if_neg (by omega), if_neg (by omega), if_neg (by omega), if_neg (by omega), if_neg (by omega), if_neg (by omega), if_neg (by omega), if_pos (by omega), if_pos h0, if_pos h]
    · rw [if_neg h0, if_neg h0, if_pos h]
      by_cases h8 : j = k * 9 + 8
      · rw [if_pos h8]
      by_cases h7 : j = k * 9 + 7
      · rw [if_neg h8, if_pos h7]
      by_cases h6 : j = k * 9 + 6
      · rw [if_neg h8, if_neg h7, if_pos h6]
      by_cases h5 : j = k * 9 + 5
      · rw [if_neg h8, if_neg h7, if_neg h6, if_pos h5]
      by_cases h4 : j = k * 9 + 4
      · rw [if_neg h8, if_neg h7, if_neg h6, if_neg h5, if_pos h4]
      by_cases h3 : j = k * 9 + 3
      · rw [if_neg h8, if_neg h7, if_neg h6, if_neg h5, if_neg h4, if_pos h3]
      by_cases h2 : j = k * 9 + 2
      · rw [if_neg h8, if_neg h7, if_neg h6, if_neg h5, if_neg h4, if_neg h3, if_pos h2]
      by_cases h1 : j = k * 9 + 1
      · rw [if_neg h8, if_neg h7, if_neg h6, if_neg h5, if_neg h4, if_neg h3, if_neg h2, if_pos h1]
      omega
  · rw [if_neg (by omega), if_neg (by omega), if_neg (by omega), if_neg (by omega), if_neg (by omega), if_neg (by omega), if_neg (by omega), if_neg (by omega), if_neg (by omega), if_neg h, if_neg h]
theorem take_any (p g : Nat) (vf : Value) (s : Ms) (k : Nat) (R : HProp) (w : World) (h : Has w (framesIn p g vf s R)) (hk : s.top = some k) (hn : k < s.n) :
    Calls Try.prog 18 #[.pointer (some ⟨p, 0, none⟩)] w fun e w' => ∃ vf', Res ((Value.int .i64) k) (framesIn p g vf' (s.take k) R) w e w' := by
  have hfr := Ms.frees_take s k hk
  obtain ⟨m, hm⟩ : ∃ m, s.frees.length = m + 1 := ⟨(s.take k).frees.length, by rw [← hfr]; simp⟩
  have hm' : (s.take k).frees.length = m := by rw [← hfr] at hm; simpa using hm
  have hlast : s.frees[m]? = some k := by rw [← hfr, ← hm']; simp
  have hints : (ints s.frees).take m = ints (s.take k).frees := by rw [← hfr, ← hm']; simp [ints]
  obtain ⟨c0, c1⟩ := h.cells2
  have e0 := h.lt
  have f1 := h.free 1
  have h1 : Has w (row 3 1 vf (m + 1) (ints s.frees) * (blk p #[.slice (some ⟨g, 0, none⟩) s.n s.n, vf] 82 * (blk g (tabA (s.n * 9) (fc s)) 86 * R))) := by
    have := h
    unfold framesIn at this
    rw [hm] at this
    exact this.eq (by (simp only [star_assoc, star_left_comm, star_comm]))
  obtain ⟨gf, cap, rfl, hcap, hcap2, hgf, hx⟩ := h1.rowHead
  have hx' := hx _ (ints_get hlast)
  have h2 := h1.rowPop.p2.set 1 (.slice (some ⟨gf, 0, none⟩) m cap)
  have e1 := h.right.lt
  have hm63 : m + 1 ≤ 9223372036854775807 := by unfold maxLen at hcap2; omega
  have h3 := h2.a2.p2
  have hg1 := h3.tabGet (j := k * 9) (by omega)
  have t1 := h3.tabGet (j := k * 9 + 1) (by omega)
  have z1 := h3.free (k * 9 + 1)
  have t2 := h3.tabGet (j := k * 9 + 2) (by omega)
  have z2 := h3.free (k * 9 + 2)
  have t3 := h3.tabGet (j := k * 9 + 3) (by omega)
  have z3 := h3.free (k * 9 + 3)
  have t4 := h3.tabGet (j := k * 9 + 4) (by omega)
  have z4 := h3.free (k * 9 + 4)
  have t5 := h3.tabGet (j := k * 9 + 5) (by omega)
  have z5 := h3.free (k * 9 + 5)
  have t6 := h3.tabGet (j := k * 9 + 6) (by omega)
  have z6 := h3.free (k * 9 + 6)
  have t7 := h3.tabGet (j := k * 9 + 7) (by omega)
  have z7 := h3.free (k * 9 + 7)
  have t8 := h3.tabGet (j := k * 9 + 8) (by omega)
  have z8 := h3.free (k * 9 + 8)
  have z0 := h3.free (k * 9)
  have h4 := ((((((((h3.tabSet (k * 9) (Value.bool true)).tabSet (k * 9 + 1) ((Value.int .u64) 0)).tabSet (k * 9 + 2) ((Value.int .u64) 0)).tabSet (k * 9 + 3) ((Value.int .u64) 0)).tabSet (k * 9 + 4) ((Value.int .u64) 0)).tabSet (k * 9 + 5) ((Value.int .u64) 0)).tabSet (k * 9 + 6) ((Value.int .u64) 0)).tabSet (k * 9 + 7) ((Value.int .u64) 0)).tabSet (k * 9 + 8) ((Value.int .u64) 0)
  go_enter Try.func18, Try.ntmps18
  go_wp2
  go_ret
  refine ⟨.slice (some ⟨gf, 0, none⟩) m cap, rfl, ?_, (((((((((((Ext.refl w).set _ _).set _ _).set _ _).set _ _).set _ _).set _ _).set _ _).set _ _).set _ _).set _ _)⟩
  have h5 := (h4.tabExt (f' := fc (s.take k)) fun j _ => fc_take s k j).p2.a1.in2
  unfold framesIn
  rw [hm', ← hints]
  exact h5
theorem take_none (p g : Nat) (vf : Value) (s : Ms) (R : HProp) (w : World) (h : Has w (framesIn p g vf s R)) (hk : s.top = none) :
    Calls Try.prog 18 #[.pointer (some ⟨p, 0, none⟩)] w (Same ((Value.int .i64) (-1)) w) := by
  have he : s.frees = [] := by rw [← Ms.frees_top] at hk; simpa using hk
  obtain ⟨c0, c1⟩ := h.cells2
  obtain ⟨A, c, rfl⟩ := h.right.right.rowForm
  have hn : s.frees.length = 0 := by rw [he]; rfl
  rw [hn] at c1
  go_enter Try.func18, Try.ntmps18
  go_wp2
  go_ret
  exact ⟨rfl, rfl⟩
theorem elemI : Elem Try.prog 3 ((Value.int .i64) 0) 1 8 := ⟨by kernel_rfl, rfl, by omega⟩
theorem fc_give (s : Ms) (k : Nat) (j : Nat) : fput (fc s) (k * 9) (Value.bool false) j = fc (s.give k) j := by
  unfold fput fc Ms.give
  dsimp only
  unfold fput
  by_cases h : j = k * 9
  · rw [if_pos h, if_pos (by omega), if_pos (by omega)]
  · rw [if_neg h]
    by_cases h0 : j % 9 = 0
    · rw [if_pos h0, if_pos h0, if_neg (by omega)]
    · rw [if_neg h0, if_neg h0]
theorem give_no (p g : Nat) (vf : Value) (s : Ms) (k : Int) (R : HProp) (w : World) (h : Has w (framesIn p g vf s R)) (hk : s.has k = false) :
    Calls Try.prog 50 #[.pointer (some ⟨p, 0, none⟩), .int .i64 k] w (Same (Value.bool false) w) := by
  go_enter Try.func50, Try.ntmps50
  go_wp2_with (go_at_call 75; refine (taken_any p g vf s _ _ _ h).mono ?_; rintro e w' ⟨rfl, rfl⟩)
  go_ret
  exact ⟨rfl, rfl⟩
theorem give_yes (p g : Nat) (vf : Value) (s : Ms) (k : Nat) (R : HProp) (w : World) (h : Has w (framesIn p g vf s R)) (hk : s.has k = true) (hlen : s.frees.length < 1000000) :
    Calls Try.prog 50 #[.pointer (some ⟨p, 0, none⟩), .int .i64 k] w fun e w' => ∃ vf', Res (Value.bool true) (framesIn p g vf' (s.give k) R) w e w' := by
  obtain ⟨k0, k1, _⟩ := Ms.has_iff.1 hk
  obtain ⟨c0, c1⟩ := h.cells2
  obtain ⟨A, c, rfl⟩ := h.right.right.rowForm
  have e0 := h.lt
  have e1 := h.right.lt
  have hc := h.right.tabGet (j := k * 9) (by omega)
  have hf := h.right.free (k * 9)
  have f1 := h.free 1
  have hne := h.ne
  have h2 := ((h.p2.tabSet (k * 9) (Value.bool false)).tabExt (f' := fc (s.give k)) fun j _ => fc_give s k j)
  have h3 : Has (w.setCell ⟨g, k * 9, none⟩ (Value.bool false)) (row 3 1 (.slice A s.frees.length c) s.frees.length (ints s.frees) * (blk p #[.slice (some ⟨g, 0, none⟩) s.n s.n, .slice A s.frees.length c] 82 * (blk g (tabA (s.n * 9) (fc (s.give k))) 86 * R))) := h2.eq (by (simp only [star_assoc, star_left_comm, star_comm]))
  have d0 := h3.right.cells2.1
  have d1 := h3.right.cells2.2
  have e2 := h3.right.lt
  have hrow := h3.alloc (.cells #[(Value.int .i64) k] 3)
  have hlen' : (s.give k).frees.length = s.frees.length + 1 := by rw [Ms.frees_give]; simp
  have hints : ints (s.give k).frees = ints s.frees ++ [(Value.int .i64) (k : Int)] := by rw [Ms.frees_give]; simp [ints]
  have hnews := news_one (w.setCell ⟨g, k * 9, none⟩ (Value.bool false)) ((Value.int .i64) k) 3
  rw [show (w.setCell ⟨g, k * 9, none⟩ (Value.bool false)).heap.size = w.heap.size by simp [World.setCell]] at hnews
  have HT := fun k' => taken_any p g _ s k' _ _ h
  generalize s.frees.length = m at *
  have hL := Lib.hid hlen'
  clear h h2 hlen'
  go_enter Try.func50, Try.ntmps50
  go_wp2_with (first | (go_at_call 75; refine (HT _).mono ?_; rintro e w' ⟨rfl, rfl⟩) | (at_builtin; refine wpList_append_has rfl _ _ 47 rfl Try.underlying47 elemI _ _ _ rfl hrow ⟨w.heap.size, 0, none⟩ 1 1 [(Value.int .i64) k] rfl rfl hnews ?c1 ?c2 ?c3 ?_))
  case c1 => intro u hu; simp at hu; subst hu; rfl
  case c2 => unfold maxLen; omega
  case c3 => omega
  intro v' w2 h' x'
  obtain ⟨A', c', rfl⟩ := h'.rowForm
  have g0 := h'.right.lt
  have g1 := h'.right.free 1
  have g2 := h'.right.cells2.1
  have g3 := h'.right.cells2.2
  have h5 := (h'.p2.set 1 (.slice A' (m + 1) c')).in2
  clear hrow d0 d1 e2 h3
  go_wp2
  go_ret
  refine ⟨.slice A' (m + 1) c', rfl, ?_, by (repeat (first | with_reducible assumption | with_reducible exact Ext.refl _ | with_reducible refine Ext.set ?_ _ _ | with_reducible refine Ext.alloc ?_ _ | with_reducible refine Ext.drew ?_ | with_reducible refine Ext.drewN ?_ _ | assumption | exact Ext.refl _ | refine Ext.alloc ?_ _ | refine Ext.set ?_ _ _ | refine Ext.drew ?_ | refine Ext.drewN ?_ _ | refine Ext.below ?_ (by assumption) | refine Ext.trans ?_ (by assumption)))⟩
  unfold framesIn
  rw [hL.out, hints]
  exact h5
end Go.Proofs.Ytmfheghbgihdmaa
namespace Go.Proofs.Ytmfheghbgihdmaa
open Go.RowKit
set_option maxRecDepth 100000
def tableZero : Value := .agg #[Value.bool false, (Value.int .u64) 0, (Value.int .u64) 0, (Value.int .u64) 0, (Value.int .u64) 0, (Value.int .u64) 0, (Value.int .u64) 0, (Value.int .u64) 0, (Value.int .u64) 0]
theorem tableInfo : (Try.prog.info? 86).map (fun i => (i.zero, i.size, i.bytes)) = some (some tableZero, 9, 72) := by kernel_rfl
theorem mod9 (j : Nat) : j % 9 = 0 ∨ j % 9 = 1 ∨ j % 9 = 2 ∨ j % 9 = 3 ∨ j % 9 = 4 ∨ j % 9 = 5 ∨ j % 9 = 6 ∨ j % 9 = 7 ∨ j % 9 = 8 := by omega
theorem fc_new (n j : Nat) : tableZero.cells[j % 9]! = fc (Ms.new n) j := by
  unfold fc Ms.new
  dsimp only
  rcases mod9 j with h | h | h | h | h | h | h | h | h <;> rw [h] <;> rfl
theorem frees_part (n k : Nat) (h : k < n) : (List.range' (n - (k + 1)) (k + 1)).reverse = (List.range' (n - k) k).reverse ++ [n - 1 - k] := by
  rw [Ms.range'_rev, show n - (k + 1) + 1 = n - k by omega, show n - (k + 1) = n - 1 - k by omega]
theorem new_no (n : Int) (w : World) (h : ¬ (0 ≤ n ∧ n ≤ 128)) :
    Calls Try.prog 17 #[.int .i64 n] w (Pure (.tuple #[.pointer none, .agg #[(Value.int .i64) 1, (Value.int .i64) (-1)]]) w) := by
  have b2 := below_of1 (Has.new (has_old w) #[(Value.int .i64) 1, (Value.int .i64) (-1)] 27).right ((Ext.refl w).alloc (.cells #[(Value.int .i64) 1, (Value.int .i64) (-1)] 27))
  by_cases h0 : n < 0
  · go_enter Try.func17, Try.ntmps17
    go_wp2
    exact bodyPost_ret (v := .tuple #[.pointer none, .agg #[(Value.int .i64) 1, (Value.int .i64) (-1)]]) (by simp [results, Try.results17, go_sem]) rfl ⟨rfl, b2⟩
  · have h8 : 128 < n := by omega
    go_enter Try.func17, Try.ntmps17
    go_wp2
    exact bodyPost_ret (v := .tuple #[.pointer none, .agg #[(Value.int .i64) 1, (Value.int .i64) (-1)]]) (by simp [results, Try.results17, go_sem]) rfl ⟨rfl, b2⟩
theorem make_tables (n : Nat) (hn : n ≤ 128) (w : World) : (Instr.makeSlice 80 (.int .i64 (n : Int)) (.int .i64 (n : Int))).run Try.prog w = .ok (.slice (some ⟨w.heap.size, 0, none⟩) n n) (w.alloc (.cells (tabA (n * 9) (fc (Ms.new n))) 86)) := by
  rw [run_make_tab (P := Try.prog) 80 86 tableZero 9 72 Try.underlying80 tableInfo rfl n (by omega) (by omega) w, tabA_ext (fun j _ => fc_new n j)]
theorem new_frames (n : Nat) (hn : n ≤ 128) (R : HProp) (w : World) (h : Has w R) :
    Calls Try.prog 17 #[.int .i64 n] w fun e w' => ∃ p g vf, Res (.tuple #[.pointer (some ⟨p, 0, none⟩), .agg #[(Value.int .i64) 0, (Value.int .i64) 0]]) (framesIn p g vf (Ms.new n) R) w e w' := by
  have hmk := make_tables n hn
  have h1 := h.new #[(Value.int .i64) 0, (Value.int .i64) 0] 27
  have h2 := h1.new (tabA (n * 9) (fc (Ms.new n))) 86
  have h3 := h2.new #[.slice (some ⟨w.heap.size + 1, 0, none⟩) n n, .slice none 0 0] 82
  have x3 := (((Ext.refl w).alloc (.cells #[(Value.int .i64) 0, (Value.int .i64) 0] 27)).alloc (.cells (tabA (n * 9) (fc (Ms.new n))) 86)).alloc (.cells #[.slice (some ⟨w.heap.size + 1, 0, none⟩) n n, .slice none 0 0] 82)
  simp only [World.size_alloc] at h2 h3
  have h4 : Has (((w.alloc (.cells #[(Value.int .i64) 0, (Value.int .i64) 0] 27)).alloc (.cells (tabA (n * 9) (fc (Ms.new n))) 86)).alloc (.cells #[.slice (some ⟨w.heap.size + 1, 0, none⟩) n n, .slice none 0 0] 82))
      (row 3 1 (.slice none 0 0) 0 (ints (List.range' (n - 0) 0).reverse) * (blk (w.heap.size + 1 + 1) #[.slice (some ⟨w.heap.size + 1, 0, none⟩) n n, .slice none 0 0] 82 * (blk (w.heap.size + 1) (tabA (n * 9) (fc (Ms.new n))) 86 * (blk w.heap.size #[(Value.int .i64) 0, (Value.int .i64) 0] 27 * R)))) :=
    Has.rowNil h3
  clear h1 h2 h3
  go_enter Try.func17, Try.ntmps17
  go_wp2
  go_loopw [18] (fun t wz => ∃ (j : Nat) (A : Option Addr) (c : Nat), j ≤ n ∧ t = (Value.int .i64) j ∧
      Has wz (row 3 1 (.slice A j c) j (ints (List.range' (n - j) j).reverse) * (blk (w.heap.size + 1 + 1) #[.slice (some ⟨w.heap.size + 1, 0, none⟩) n n, .slice A j c] 82 * (blk (w.heap.size + 1) (tabA (n * 9) (fc (Ms.new n))) 86 * (blk w.heap.size #[(Value.int .i64) 0, (Value.int .i64) 0] 27 * R)))) ∧ Ext w wz)
    (fun t _ => n - (intOf t).toNat)
  case atStart => exact ⟨0, none, 0, by omega, rfl, h4, x3⟩
  case round =>
    obtain ⟨j, A, c, hj, rfl, hz, hx⟩ := hrel
    clear h4 x3
    obtain ⟨c0, c1⟩ := hz.right.cells2
    have e0 := hz.right.lt
    have e1 := hz.right.right.right.lt
    by_cases hjn : j < n
    · have hp := Lib.hid (frees_part n j hjn)
      have hrow := hz.alloc (.cells #[(Value.int .i64) (((n - 1 - j : Nat)) : Int)] 3)
      have hv : (((n - 1 - j : Nat)) : Int) = (n : Int) - 1 - j := by omega
      rw [hv] at hrow
      go_wp2_with (at_builtin; refine wpList_append_has rfl _ _ 47 rfl Try.underlying47 elemI _ _ _ rfl hrow ⟨wr.heap.size, 0, none⟩ 1 1 [(Value.int .i64) ((n : Int) - 1 - j)] rfl rfl (news_one _ _ _) ?c1 ?c2 ?c3 ?_)
      case c1 => intro u hu; simp at hu; subst hu; rfl
      case c2 => unfold maxLen; omega
      case c3 => omega
      intro v' w2 h' x'
      obtain ⟨A', c', rfl⟩ := h'.rowForm
      have g0 := h'.right.lt
      have g1 := h'.right.free 1
      have g2 := h'.right.cells2.1
      have g3 := h'.right.cells2.2
      have h5 := (h'.p2.set 1 (.slice A' (j + 1) c')).p2
      go_wp2
      go_roundw
      case rel =>
        refine ⟨j + 1, A', c', by omega, by go_num, ?_, by (repeat (first | with_reducible assumption | with_reducible exact Ext.refl _ | with_reducible refine Ext.set ?_ _ _ | with_reducible refine Ext.alloc ?_ _ | with_reducible refine Ext.drew ?_ | with_reducible refine Ext.drewN ?_ _ | assumption | exact Ext.refl _ | refine Ext.alloc ?_ _ | refine Ext.set ?_ _ _ | refine Ext.drew ?_ | refine Ext.drewN ?_ _ | refine Ext.below ?_ (by assumption) | refine Ext.trans ?_ (by assumption)))⟩
        rw [hp.out]
        simpa [ints, hv] using h5
      case measure => simp [intOf]; omega
    · obtain rfl : j = n := by omega
      have h6 : Has wr (blk w.heap.size #[(Value.int .i64) 0, (Value.int .i64) 0] 27 * (blk (w.heap.size + 1 + 1) #[.slice (some ⟨w.heap.size + 1, 0, none⟩) j j, .slice A j c] 82 * (blk (w.heap.size + 1) (tabA (j * 9) (fc (Ms.new j))) 86 * (row 3 1 (.slice A j c) j (ints (List.range' (j - j) j).reverse) * R)))) := hz.eq (by (simp only [star_assoc, star_left_comm, star_comm]))
      have f0 := h6.free 0
      have f1 := h6.free 1
      obtain ⟨d0, d1⟩ := h6.cells2
      have h7 := (h6.set 0 ((Value.int .i64) 0)).set 1 ((Value.int .i64) 0)
      obtain ⟨k0, k1⟩ := h7.cells2
      have h8 := h7.right
      have hfr : (Ms.new j).frees = (List.range' (j - j) j).reverse := by rw [Ms.frees_new, Nat.sub_self]
      have HF := Lib.hid hfr
      clear hfr
      go_wp2
      refine bodyPost_ret (v := .tuple #[.pointer (some ⟨w.heap.size + 1 + 1, 0, none⟩), .agg #[(Value.int .i64) 0, (Value.int .i64) 0]]) (by simp [results, Try.results17, go_sem, d0, d1]) rfl ⟨w.heap.size + 1 + 1, w.heap.size + 1, .slice A j c, rfl, ?_, by (repeat (first | with_reducible assumption | with_reducible exact Ext.refl _ | with_reducible refine Ext.set ?_ _ _ | with_reducible refine Ext.alloc ?_ _ | with_reducible refine Ext.drew ?_ | with_reducible refine Ext.drewN ?_ _ | assumption | exact Ext.refl _ | refine Ext.alloc ?_ _ | refine Ext.set ?_ _ _ | refine Ext.drew ?_ | refine Ext.drewN ?_ _ | refine Ext.below ?_ (by assumption) | refine Ext.trans ?_ (by assumption)))⟩
      unfold framesIn
      rw [HF.out]
      have e : (List.range' (j - j) j).reverse.length = j := by simp
      rw [e]
      exact h8
end Go.Proofs.Ytmfheghbgihdmaa
namespace Go.Proofs.Ytmfheghbgihdmaa
open Go.RowKit
set_option maxRecDepth 100000
def wc (s : Ms) : Nat → Value := fun j => (Value.int .u64) (s.wd (j / 8) (j % 8))
end Go.Proofs.Ytmfheghbgihdmaa
namespace Go.Proofs.Ytmfheghbgihdmaa
open Go.RowKit
set_option maxRecDepth 100000
end Go.Proofs.Ytmfheghbgihdmaa
namespace Go.Proofs.Ytmfheghbgihdmaa
open Go.RowKit
set_option maxRecDepth 100000
end Go.Proofs.Ytmfheghbgihdmaa
namespace Go.Proofs.Ytmfheghbgihdmaa
open Go.RowKit
set_option maxRecDepth 100000
end Go.Proofs.Ytmfheghbgihdmaa
namespace Go.Proofs.Ytmfheghbgihdmaa
open Go.RowKit
set_option maxRecDepth 100000
theorem span_any (s : Int) (w : World) : Calls Try.prog 83 #[.int .i64 s] w (Same ((Value.int .i64) (span s)) w) := by
  unfold span
  by_cases h0 : s = 0
  · subst h0
    go_enter Try.func83, Try.ntmps83
    go_wp2
    go_ret
    exact ⟨rfl, rfl⟩
  by_cases h1 : s = 1
  · subst h1
    go_enter Try.func83, Try.ntmps83
    go_wp2
    go_ret
    exact ⟨rfl, rfl⟩
  by_cases h2 : s = 2
  · subst h2
    go_enter Try.func83, Try.ntmps83
    go_wp2
    go_ret
    exact ⟨rfl, rfl⟩
  rw [if_neg h0, if_neg h1, if_neg h2]
  go_enter Try.func83, Try.ntmps83
  go_wp2
  go_ret
  exact ⟨rfl, rfl⟩
theorem has_any (p : Int) (w : World) : Calls Try.prog 68 #[.int .i64 p] w (Same (Value.bool (hasB p)) w) := by
  unfold hasB
  by_cases h0 : 0 ≤ p
  · go_enter Try.func68, Try.ntmps68
    go_wp2
    go_ret
    exact ⟨by simp [h0], rfl⟩
  · have hd : decide (0 ≤ p) = false := by simpa using h0
    go_enter Try.func68, Try.ntmps68
    go_wp2
    go_ret
    exact ⟨rfl, rfl⟩
theorem over_yes {m : Mp} {p : Int} (hm : i64 m.page) (hp : i64 p) (h : m.page ≤ p) :
    decide (IntKind.u64.wrap (IntKind.u64.wrap p - IntKind.u64.wrap m.page) < IntKind.u64.wrap (span m.size)) = over m p := by
  obtain ⟨hm1, hm2⟩ := hm
  obtain ⟨hp1, hp2⟩ := hp
  have hs : 0 ≤ span m.size ∧ span m.size ≤ 64 := by unfold span; split <;> (try split) <;> (try split) <;> omega
  have e : ∀ x : Int, IntKind.u64.wrap x = x % 18446744073709551616 := fun x => by simp [IntKind.wrap, IntKind.signed, IntKind.bits]
  rw [e, e, e, e]
  unfold over
  have e1 : (p % 18446744073709551616 - m.page % 18446744073709551616) % 18446744073709551616 = p - m.page := by omega
  have e2 : span m.size % 18446744073709551616 = span m.size := by omega
  rw [e1, e2]
  simp [h]
theorem over_page (m : Mp) (p : Int) (w : World) (hm : i64 m.page) (hp : i64 p) :
    Calls Try.prog 71 #[.agg #[(Value.int .i64) m.page, (Value.int .i64) m.size, (Value.int .i64) m.frame, (Value.int .i64) m.rights], .int .i64 p] w (Pure (Value.bool (over m p)) w) := by
  have hb := Has.new (has_old w) #[(Value.int .i64) m.page, (Value.int .i64) m.size, (Value.int .i64) m.frame, (Value.int .i64) m.rights] 31
  obtain ⟨c0, c1, c2, c3⟩ := hb.cells4
  have v0 := via_cell c0
  have v1 := via_cell c1
  have bl := (Below.refl w.heap.size w).alloc (Nat.le_refl _) (.cells #[(Value.int .i64) m.page, (Value.int .i64) m.size, (Value.int .i64) m.frame, (Value.int .i64) m.rights] 31)
  by_cases h0 : m.page ≤ p
  · have hy := Lib.hid (over_yes hm hp h0)
    go_enter Try.func71, Try.ntmps71
    go_wp2
    refine wp_region_via (by kernel_rfl) (by kernel_rfl) ?_
    repeat (first | go_big_quiet_step ((go_at_call 83; exact Same.via (span_any _ _))) | quiet_step ((go_at_call 83; exact Same.via (span_any _ _))))
    refine wpQuiet_nil ?_
    intro _ hw'
    obtain ⟨uq, hw''⟩ := hw'
    subst hw''
    go_wp2
    go_ret
    exact ⟨by rw [← hy.out]; rfl, bl.trans ((via_below _ _).mono (by simp))⟩
  · have hd : decide (m.page ≤ p) = false := by simpa using h0
    have hy := Lib.hid (show over m p = false by unfold over; rw [hd]; rfl)
    go_enter Try.func71, Try.ntmps71
    go_wp2
    refine wp_region_via (by kernel_rfl) (by kernel_rfl) ?_
    repeat (first | go_big_quiet_step (fail) | quiet_step (fail))
    refine wpQuiet_nil ?_
    intro _ hw'
    obtain ⟨uq, hw''⟩ := hw'
    subst hw''
    go_wp2
    go_ret
    exact ⟨by rw [hy.out]; rfl, bl.trans ((via_below _ _).mono (by simp))⟩
theorem meet_any (a b : Mp) (w : World) (ha : i64 a.page) (hb : i64 b.page) :
    Calls Try.prog 91 #[.agg #[(Value.int .i64) a.page, (Value.int .i64) a.size, (Value.int .i64) a.frame, (Value.int .i64) a.rights], .agg #[(Value.int .i64) b.page, (Value.int .i64) b.size, (Value.int .i64) b.frame, (Value.int .i64) b.rights]] w (Pure (Value.bool (meet a b)) w) := by
  have h1 := Has.new (has_old w) #[(Value.int .i64) a.page, (Value.int .i64) a.size, (Value.int .i64) a.frame, (Value.int .i64) a.rights] 31
  have h2 := h1.new #[(Value.int .i64) b.page, (Value.int .i64) b.size, (Value.int .i64) b.frame, (Value.int .i64) b.rights] 31
  have x2 := ((Ext.refl w).alloc (.cells #[(Value.int .i64) a.page, (Value.int .i64) a.size, (Value.int .i64) a.frame, (Value.int .i64) a.rights] 31)).alloc (.cells #[(Value.int .i64) b.page, (Value.int .i64) b.size, (Value.int .i64) b.frame, (Value.int .i64) b.rights] 31)
  simp only [World.size_alloc] at h2
  go_enter Try.func91, Try.ntmps91
  go_wp2_with fail
  refine (over_page a b.page _ ha hb).mono ?_; rintro e w2 ⟨rfl, b2⟩
  have h3 := h2.below b2
  obtain ⟨c0, c1, c2, c3⟩ := h3.cells4
  obtain ⟨d0, d1, d2, d3⟩ := h3.right.cells4
  cases ho : over a b.page with
  | true =>
    have hy := Lib.hid (show meet a b = true by unfold meet; rw [ho]; rfl)
    go_wp2_with fail
    go_ret
    exact ⟨by rw [hy.out]; rfl, below_of1 h3.right.right (x2.below b2)⟩
  | false =>
    go_wp2_with fail
    refine (over_page b a.page _ hb ha).mono ?_; rintro e w3 ⟨rfl, b3⟩
    have h4 := h3.below b3
    have hy := Lib.hid (show meet a b = over b a.page by unfold meet; rw [ho]; rfl)
    go_wp2_with fail
    go_ret
    exact ⟨by rw [hy.out]; rfl, below_of1 h4.right.right ((x2.below b2).below b3)⟩
theorem check_any (m : Mp) (w : World) : Calls Try.prog 58 #[.agg #[(Value.int .i64) m.page, (Value.int .i64) m.size, (Value.int .i64) m.frame, (Value.int .i64) m.rights]] w (Pure ((Value.int .i64) (check m)) w) := by
  have h1 := Has.new (has_old w) #[(Value.int .i64) m.page, (Value.int .i64) m.size, (Value.int .i64) m.frame, (Value.int .i64) m.rights] 31
  have x1 := (Ext.refl w).alloc (.cells #[(Value.int .i64) m.page, (Value.int .i64) m.size, (Value.int .i64) m.frame, (Value.int .i64) m.rights] 31)
  have bl := below_of1 h1.right x1
  by_cases s0 : span m.size = 0
  · skip
    have hy := Lib.hid (show check m = 2 by unfold check; rw [if_pos s0])
    go_enter Try.func58, Try.ntmps58
    go_wp2_with (first | (go_at_call 83; refine (span_any _ _).mono ?_; rintro e w' ⟨rfl, rfl⟩) | (go_at_call 68; refine (has_any _ _).mono ?_; rintro e w' ⟨rfl, rfl⟩))
    go_ret
    exact ⟨by rw [hy.out]; rfl, bl⟩
  have s1 : 1 ≤ span m.size := by unfold span at *; split <;> (try split) <;> (try split) <;> simp_all
  have s0' : (span m.size == 0) = false := by simpa using s0
  by_cases hp : hasB m.page = true
  · have hp' : 0 ≤ m.page ∧ m.page < 4096 := by simpa [hasB] using hp
    obtain ⟨p0, p1⟩ := hp'
    by_cases f0 : m.frame < 0
    · skip
      have hy := Lib.hid (show check m = 1 by unfold check; rw [if_neg s0, if_pos (by omega)])
      go_enter Try.func58, Try.ntmps58
      go_wp2_with (first | (go_at_call 83; refine (span_any _ _).mono ?_; rintro e w' ⟨rfl, rfl⟩) | (go_at_call 68; refine (has_any _ _).mono ?_; rintro e w' ⟨rfl, rfl⟩))
      go_ret
      exact ⟨by rw [hy.out]; rfl, bl⟩
    by_cases f1 : 1048576 ≤ m.frame
    · skip
      have hy := Lib.hid (show check m = 1 by unfold check; rw [if_neg s0, if_pos (by omega)])
      go_enter Try.func58, Try.ntmps58
      go_wp2_with (first | (go_at_call 83; refine (span_any _ _).mono ?_; rintro e w' ⟨rfl, rfl⟩) | (go_at_call 68; refine (has_any _ _).mono ?_; rintro e w' ⟨rfl, rfl⟩))
      go_ret
      exact ⟨by rw [hy.out]; rfl, bl⟩
    by_cases r0 : m.rights < 0
    · skip
      have hy := Lib.hid (show check m = 1 by unfold check; rw [if_neg s0, if_pos (by omega)])
      go_enter Try.func58, Try.ntmps58
      go_wp2_with (first | (go_at_call 83; refine (span_any _ _).mono ?_; rintro e w' ⟨rfl, rfl⟩) | (go_at_call 68; refine (has_any _ _).mono ?_; rintro e w' ⟨rfl, rfl⟩))
      go_ret
      exact ⟨by rw [hy.out]; rfl, bl⟩
    by_cases r1 : 7 < m.rights
    · skip
      have hy := Lib.hid (show check m = 1 by unfold check; rw [if_neg s0, if_pos (by omega)])
      go_enter Try.func58, Try.ntmps58
      go_wp2_with (first | (go_at_call 83; refine (span_any _ _).mono ?_; rintro e w' ⟨rfl, rfl⟩) | (go_at_call 68; refine (has_any _ _).mono ?_; rintro e w' ⟨rfl, rfl⟩))
      go_ret
      exact ⟨by rw [hy.out]; rfl, bl⟩
    have hno : ¬ (m.page < 0 ∨ 4096 ≤ m.page ∨ m.frame < 0 ∨ 1048576 ≤ m.frame ∨ m.rights < 0 ∨ 7 < m.rights) := by omega
    have hn := Lib.hid hno
    clear hno
    cases q0 : (m.page % span m.size != 0) with
    | true =>
      have g := Lib.hid q0
      have hy := Lib.hid (show check m = 3 by unfold check; rw [if_neg s0, if_neg hn.out, if_pos (.inl (by simpa using g.out))])
      go_enter Try.func58, Try.ntmps58
      go_wp2_with (first | (go_at_call 83; refine (span_any _ _).mono ?_; rintro e w' ⟨rfl, rfl⟩) | (go_at_call 68; refine (has_any _ _).mono ?_; rintro e w' ⟨rfl, rfl⟩))
      go_ret
      exact ⟨by rw [hy.out]; rfl, bl⟩
    | false =>
      cases q1 : (m.frame % span m.size != 0) with
      | true =>
        have g := Lib.hid q1
        have hy := Lib.hid (show check m = 3 by unfold check; rw [if_neg s0, if_neg hn.out, if_pos (.inr (by simpa using g.out))])
        go_enter Try.func58, Try.ntmps58
        go_wp2_with (first | (go_at_call 83; refine (span_any _ _).mono ?_; rintro e w' ⟨rfl, rfl⟩) | (go_at_call 68; refine (has_any _ _).mono ?_; rintro e w' ⟨rfl, rfl⟩))
        go_ret
        exact ⟨by rw [hy.out]; rfl, bl⟩
      | false =>
        have g := Lib.hid q0
        have g' := Lib.hid q1
        have hy := Lib.hid (show check m = 0 by unfold check; rw [if_neg s0, if_neg hn.out, if_neg (by have a := g.out; have b := g'.out; simp at a b; omega)])
        go_enter Try.func58, Try.ntmps58
        go_wp2_with (first | (go_at_call 83; refine (span_any _ _).mono ?_; rintro e w' ⟨rfl, rfl⟩) | (go_at_call 68; refine (has_any _ _).mono ?_; rintro e w' ⟨rfl, rfl⟩))
        go_ret
        exact ⟨by rw [hy.out]; rfl, bl⟩
  · have hp0 : hasB m.page = false := by simpa using hp
    have hp' := Lib.hid (show m.page < 0 ∨ 4096 ≤ m.page by unfold hasB at hp0; simp at hp0; omega)
    clear hp
    have hy := Lib.hid (show check m = 1 by unfold check; rw [if_neg s0, if_pos (by have := hp'.out; omega)])
    go_enter Try.func58, Try.ntmps58
    go_wp2_with (first | (go_at_call 83; refine (span_any _ _).mono ?_; rintro e w' ⟨rfl, rfl⟩) | (go_at_call 68; refine (has_any _ _).mono ?_; rintro e w' ⟨rfl, rfl⟩))
    go_ret
    exact ⟨by rw [hy.out]; rfl, bl⟩
theorem pow8_posP : ∀ n, 0 < pow8 n
  | 0 => by simp [pow8]
  | n + 1 => by have := pow8_posP n; unfold pow8; omega
theorem div_pow8 (p : Int) (n : Nat) : p / pow8 n / 8 = p / pow8 (n + 1) := by
  have h := pow8_posP n
  rw [Int.ediv_ediv_of_nonneg (by omega), show pow8 (n + 1) = 8 * pow8 n from rfl, Int.mul_comm]
theorem div_pow8_bd {p : Int} (h0 : 0 ≤ p) (h1 : p < 4096) (n : Nat) : 0 ≤ p / pow8 n ∧ p / pow8 n < 4096 := by
  have h := pow8_posP n
  refine ⟨Int.ediv_nonneg h0 (by omega), ?_⟩
  exact Int.lt_of_le_of_lt (Int.ediv_le_self _ h0) h1
theorem index_any (p l : Int) (w : World) : Calls Try.prog 62 #[.int .i64 p, .int .i64 l] w (Same ((Value.int .i64) (index p l)) w) := by
  by_cases hp : hasB p = true
  · have hp' : 0 ≤ p ∧ p < 4096 := by simpa [hasB] using hp
    obtain ⟨p0, p1⟩ := hp'
    by_cases l0 : 0 ≤ l
    · by_cases l1 : l < 4
      · obtain ⟨l, rfl⟩ := Int.eq_ofNat_of_zero_le l0
        have hy := Lib.hid (show index p l = p / pow8 l % 8 by unfold index; rw [if_pos ⟨p0, p1, l0, l1⟩]; simp)
        go_enter Try.func62, Try.ntmps62
        go_wp2_with (first | (go_at_call 68; refine (has_any _ _).mono ?_; rintro e w' ⟨rfl, rfl⟩))
        go_loop [0, 17] (fun x t => ∃ j : Nat, j ≤ l ∧ t = (Value.int .i64) j ∧ x = (Value.int .i64) (p / pow8 j)) (fun _ t => l - (intOf t).toNat)
        case atStart => exact ⟨0, by omega, rfl, by simp [pow8]⟩
        case round =>
          obtain ⟨j, hj, rfl, rfl⟩ := hrel
          obtain ⟨b0, b1⟩ := div_pow8_bd p0 p1 j
          have hd := Lib.hid (div_pow8 p j)
          by_cases hjl : j < l
          · go_wp2
            go_round
            case rel => exact ⟨j + 1, by omega, by go_num, by rw [← hd.out]⟩
            case measure => simp [intOf]; omega
          · obtain rfl : j = l := by omega
            go_wp2
            go_ret
            exact ⟨by rw [hy.out]; rfl, rfl⟩
      · have hy := Lib.hid (show index p l = -1 by unfold index; rw [if_neg (by omega)])
        go_enter Try.func62, Try.ntmps62
        go_wp2_with (first | (go_at_call 68; refine (has_any _ _).mono ?_; rintro e w' ⟨rfl, rfl⟩))
        go_ret
        exact ⟨by rw [hy.out]; rfl, rfl⟩
    · have hy := Lib.hid (show index p l = -1 by unfold index; rw [if_neg (by omega)])
      go_enter Try.func62, Try.ntmps62
      go_wp2_with (first | (go_at_call 68; refine (has_any _ _).mono ?_; rintro e w' ⟨rfl, rfl⟩))
      go_ret
      exact ⟨by rw [hy.out]; rfl, rfl⟩
  · have hp0 : hasB p = false := by simpa using hp
    have hy := Lib.hid (show index p l = -1 by unfold index; rw [if_neg (by unfold hasB at hp0; simp at hp0; omega)])
    go_enter Try.func62, Try.ntmps62
    go_wp2_with (first | (go_at_call 68; refine (has_any _ _).mono ?_; rintro e w' ⟨rfl, rfl⟩))
    go_ret
    exact ⟨by rw [hy.out]; rfl, rfl⟩
theorem and_mod8 (r : Int) (k : Nat) (hk : k < 8) : bits .and .i64 r (k : Int) = (((r % 8).toNat &&& k : Nat) : Int) := by
  have h1 : (BitVec.ofInt 64 r).toNat = (r % 18446744073709551616).toNat := by simp [BitVec.toNat_ofInt]
  have h2 : (BitVec.ofInt 64 (k : Int)).toNat = k := by rw [BitVec.ofInt_natCast, BitVec.toNat_ofNat]; omega
  have h3 : ((r % 18446744073709551616).toNat &&& k) = ((r % 8).toNat &&& k) := by
    have hle : ((r % 18446744073709551616).toNat &&& k) ≤ k := Nat.and_le_right
    have hle2 : ((r % 8).toNat &&& k) ≤ k := Nat.and_le_right
    have e1 : ((r % 18446744073709551616).toNat &&& k) % 2 ^ 3 = ((r % 18446744073709551616).toNat % 2 ^ 3) &&& (k % 2 ^ 3) := Nat.and_mod_two_pow
    have e2 : (r % 18446744073709551616).toNat % 2 ^ 3 = (r % 8).toNat := by omega
    rw [e2, Nat.mod_eq_of_lt (show k < 2 ^ 3 by omega), Nat.mod_eq_of_lt (by omega)] at e1
    exact e1
  show IntKind.i64.wrap ((BitVec.ofInt 64 r &&& BitVec.ofInt 64 (k : Int)).toNat : Int) = _
  rw [BitVec.toNat_and, h1, h2, h3, IntKind.wrap_i64]
  have hle2 : ((r % 8).toNat &&& k) ≤ k := Nat.and_le_right
  omega
theorem mod8 (r : Int) : r % 8 = 0 ∨ r % 8 = 1 ∨ r % 8 = 2 ∨ r % 8 = 3 ∨ r % 8 = 4 ∨ r % 8 = 5 ∨ r % 8 = 6 ∨ r % 8 = 7 := by omega
theorem and_1 (r : Int) : (bits .and .i64 r 1 == 1) = bitOf r 1 := by
  have h' : bits .and .i64 r 1 = (((r % 8).toNat &&& 1 : Nat) : Int) := and_mod8 r 1 (by omega)
  rw [h']
  unfold bitOf
  have e1 : r / 1 % 2 = r % 8 % 2 := by omega
  have e2 : r / 2 % 2 = r % 8 / 2 % 2 := by omega
  have e4 : r / 4 % 2 = r % 8 / 4 % 2 := by omega
  first | rw [e1, e2] | rw [e4, e2] | rw [e1] | rw [e2] | rw [e4]
  rcases mod8 r with h | h | h | h | h | h | h | h <;> rw [h] <;> rfl
theorem and_2 (r : Int) : (bits .and .i64 r 2 == 2) = bitOf r 2 := by
  have h' : bits .and .i64 r 2 = (((r % 8).toNat &&& 2 : Nat) : Int) := and_mod8 r 2 (by omega)
  rw [h']
  unfold bitOf
  have e1 : r / 1 % 2 = r % 8 % 2 := by omega
  have e2 : r / 2 % 2 = r % 8 / 2 % 2 := by omega
  have e4 : r / 4 % 2 = r % 8 / 4 % 2 := by omega
  first | rw [e1, e2] | rw [e4, e2] | rw [e1] | rw [e2] | rw [e4]
  rcases mod8 r with h | h | h | h | h | h | h | h <;> rw [h] <;> rfl
theorem and_3 (r : Int) : (bits .and .i64 r 3 == 3) = (bitOf r 1 && bitOf r 2) := by
  have h' : bits .and .i64 r 3 = (((r % 8).toNat &&& 3 : Nat) : Int) := and_mod8 r 3 (by omega)
  rw [h']
  unfold bitOf
  have e1 : r / 1 % 2 = r % 8 % 2 := by omega
  have e2 : r / 2 % 2 = r % 8 / 2 % 2 := by omega
  have e4 : r / 4 % 2 = r % 8 / 4 % 2 := by omega
  first | rw [e1, e2] | rw [e4, e2] | rw [e1] | rw [e2] | rw [e4]
  rcases mod8 r with h | h | h | h | h | h | h | h <;> rw [h] <;> rfl
theorem and_4 (r : Int) : (bits .and .i64 r 4 == 4) = bitOf r 4 := by
  have h' : bits .and .i64 r 4 = (((r % 8).toNat &&& 4 : Nat) : Int) := and_mod8 r 4 (by omega)
  rw [h']
  unfold bitOf
  have e1 : r / 1 % 2 = r % 8 % 2 := by omega
  have e2 : r / 2 % 2 = r % 8 / 2 % 2 := by omega
  have e4 : r / 4 % 2 = r % 8 / 4 % 2 := by omega
  first | rw [e1, e2] | rw [e4, e2] | rw [e1] | rw [e2] | rw [e4]
  rcases mod8 r with h | h | h | h | h | h | h | h <;> rw [h] <;> rfl
theorem and_6 (r : Int) : (bits .and .i64 r 6 == 6) = (bitOf r 4 && bitOf r 2) := by
  have h' : bits .and .i64 r 6 = (((r % 8).toNat &&& 6 : Nat) : Int) := and_mod8 r 6 (by omega)
  rw [h']
  unfold bitOf
  have e1 : r / 1 % 2 = r % 8 % 2 := by omega
  have e2 : r / 2 % 2 = r % 8 / 2 % 2 := by omega
  have e4 : r / 4 % 2 = r % 8 / 4 % 2 := by omega
  first | rw [e1, e2] | rw [e4, e2] | rw [e1] | rw [e2] | rw [e4]
  rcases mod8 r with h | h | h | h | h | h | h | h <;> rw [h] <;> rfl
theorem and_0 (r : Int) : (bits .and .i64 r 0 == 0) = true := by
  have h' : bits .and .i64 r 0 = (((r % 8).toNat &&& 0 : Nat) : Int) := and_mod8 r 0 (by omega)
  rw [h', Nat.and_zero]
  rfl
theorem may_any (r p k : Int) (u : Bool) (w : World) : Calls Try.prog 42 #[.int .i64 r, .agg #[(Value.int .i64) p, (Value.int .i64) k, Value.bool u]] w (Pure (Value.bool (may r ⟨p, k, u⟩)) w) := by
  have h1 := Has.new (has_old w) #[(Value.int .i64) p, (Value.int .i64) k, Value.bool u] 33
  have bl := below_of1 h1.right ((Ext.refl w).alloc (.cells #[(Value.int .i64) p, (Value.int .i64) k, Value.bool u] 33))
  clear h1
  by_cases k1 : k = 1
  · subst k1
    cases u with
    | true =>
      have hy := Lib.hid (show may r ⟨p, 1, true⟩ = (bitOf r 1 && bitOf r 2) by unfold may; simp)
      go_enter Try.func42, Try.ntmps42
      go_wp2
      go_ret
      refine ⟨?_, bl⟩
      rw [hy.out]
      first | rfl | exact congrArg (fun b => Ending.returned (Value.bool b)) (and_1 r) | exact congrArg (fun b => Ending.returned (Value.bool b)) (and_2 r) | exact congrArg (fun b => Ending.returned (Value.bool b)) (and_3 r) | exact congrArg (fun b => Ending.returned (Value.bool b)) (and_4 r) | exact congrArg (fun b => Ending.returned (Value.bool b)) (and_6 r) | exact congrArg (fun b => Ending.returned (Value.bool b)) (and_0 r)
    | false =>
      have hy := Lib.hid (show may r ⟨p, 1, false⟩ = (bitOf r 1) by unfold may; simp)
      go_enter Try.func42, Try.ntmps42
      go_wp2
      go_ret
      refine ⟨?_, bl⟩
      rw [hy.out]
      first | rfl | exact congrArg (fun b => Ending.returned (Value.bool b)) (and_1 r) | exact congrArg (fun b => Ending.returned (Value.bool b)) (and_2 r) | exact congrArg (fun b => Ending.returned (Value.bool b)) (and_3 r) | exact congrArg (fun b => Ending.returned (Value.bool b)) (and_4 r) | exact congrArg (fun b => Ending.returned (Value.bool b)) (and_6 r) | exact congrArg (fun b => Ending.returned (Value.bool b)) (and_0 r)
  by_cases k2 : k = 2
  · subst k2
    cases u with
    | true =>
      have hy := Lib.hid (show may r ⟨p, 2, true⟩ = (bitOf r 4 && bitOf r 2) by unfold may; simp)
      go_enter Try.func42, Try.ntmps42
      go_wp2
      go_ret
      refine ⟨?_, bl⟩
      rw [hy.out]
      first | rfl | exact congrArg (fun b => Ending.returned (Value.bool b)) (and_1 r) | exact congrArg (fun b => Ending.returned (Value.bool b)) (and_2 r) | exact congrArg (fun b => Ending.returned (Value.bool b)) (and_3 r) | exact congrArg (fun b => Ending.returned (Value.bool b)) (and_4 r) | exact congrArg (fun b => Ending.returned (Value.bool b)) (and_6 r) | exact congrArg (fun b => Ending.returned (Value.bool b)) (and_0 r)
    | false =>
      have hy := Lib.hid (show may r ⟨p, 2, false⟩ = (bitOf r 4) by unfold may; simp)
      go_enter Try.func42, Try.ntmps42
      go_wp2
      go_ret
      refine ⟨?_, bl⟩
      rw [hy.out]
      first | rfl | exact congrArg (fun b => Ending.returned (Value.bool b)) (and_1 r) | exact congrArg (fun b => Ending.returned (Value.bool b)) (and_2 r) | exact congrArg (fun b => Ending.returned (Value.bool b)) (and_3 r) | exact congrArg (fun b => Ending.returned (Value.bool b)) (and_4 r) | exact congrArg (fun b => Ending.returned (Value.bool b)) (and_6 r) | exact congrArg (fun b => Ending.returned (Value.bool b)) (and_0 r)
  have g1 : (k == 1) = false := by simpa using k1
  have g2 : (k == 2) = false := by simpa using k2
  cases u with
  | true =>
    have hy := Lib.hid (show may r ⟨p, k, true⟩ = (bitOf r 2) by unfold may; simp [k1, k2])
    go_enter Try.func42, Try.ntmps42
    go_wp2
    go_ret
    refine ⟨?_, bl⟩
    rw [hy.out]
    first | rfl | exact congrArg (fun b => Ending.returned (Value.bool b)) (and_1 r) | exact congrArg (fun b => Ending.returned (Value.bool b)) (and_2 r) | exact congrArg (fun b => Ending.returned (Value.bool b)) (and_3 r) | exact congrArg (fun b => Ending.returned (Value.bool b)) (and_4 r) | exact congrArg (fun b => Ending.returned (Value.bool b)) (and_6 r) | exact congrArg (fun b => Ending.returned (Value.bool b)) (and_0 r)
  | false =>
    have hy := Lib.hid (show may r ⟨p, k, false⟩ = (true) by unfold may; simp [k1, k2])
    go_enter Try.func42, Try.ntmps42
    go_wp2
    go_ret
    refine ⟨?_, bl⟩
    rw [hy.out]
    first | rfl | exact congrArg (fun b => Ending.returned (Value.bool b)) (and_1 r) | exact congrArg (fun b => Ending.returned (Value.bool b)) (and_2 r) | exact congrArg (fun b => Ending.returned (Value.bool b)) (and_3 r) | exact congrArg (fun b => Ending.returned (Value.bool b)) (and_4 r) | exact congrArg (fun b => Ending.returned (Value.bool b)) (and_6 r) | exact congrArg (fun b => Ending.returned (Value.bool b)) (and_0 r)
theorem checkAccess_any (p k : Int) (u : Bool) (w : World) : Calls Try.prog 40 #[.agg #[(Value.int .i64) p, (Value.int .i64) k, Value.bool u]] w (Pure ((Value.int .i64) (checkAccess ⟨p, k, u⟩)) w) := by
  have h1 := Has.new (has_old w) #[(Value.int .i64) p, (Value.int .i64) k, Value.bool u] 33
  have bl := below_of1 h1.right ((Ext.refl w).alloc (.cells #[(Value.int .i64) p, (Value.int .i64) k, Value.bool u] 33))
  clear h1
  by_cases k0 : k < 0
  · have hy := Lib.hid (show checkAccess ⟨p, k, u⟩ = 2 by unfold checkAccess; rw [if_pos (by simp; omega)])
    go_enter Try.func40, Try.ntmps40
    go_wp2
    go_ret
    exact ⟨by rw [hy.out]; rfl, bl⟩
  by_cases k2 : 2 < k
  · have hy := Lib.hid (show checkAccess ⟨p, k, u⟩ = 2 by unfold checkAccess; rw [if_pos (by simp; omega)])
    go_enter Try.func40, Try.ntmps40
    go_wp2
    go_ret
    exact ⟨by rw [hy.out]; rfl, bl⟩
  cases hp : hasB p with
  | true =>
    have hy := Lib.hid (show checkAccess ⟨p, k, u⟩ = 0 by
      unfold checkAccess
      unfold hasB at hp
      simp at hp
      rw [if_neg (by simp; omega), if_neg (by simp; omega)])
    go_enter Try.func40, Try.ntmps40
    go_wp2_with (first | (go_at_call 68; refine (has_any _ _).mono ?_; rintro e w' ⟨rfl, rfl⟩))
    go_ret
    exact ⟨by rw [hy.out]; rfl, bl⟩
  | false =>
    have hy := Lib.hid (show checkAccess ⟨p, k, u⟩ = 1 by
      unfold checkAccess
      unfold hasB at hp
      simp at hp
      rw [if_neg (by simp; omega), if_pos (by simp; omega)])
    go_enter Try.func40, Try.ntmps40
    go_wp2_with (first | (go_at_call 68; refine (has_any _ _).mono ?_; rintro e w' ⟨rfl, rfl⟩))
    go_ret
    exact ⟨by rw [hy.out]; rfl, bl⟩
theorem answer_any (m : Mp) (p k : Int) (u : Bool) (w : World) :
    Calls Try.prog 43 #[.agg #[(Value.int .i64) m.page, (Value.int .i64) m.size, (Value.int .i64) m.frame, (Value.int .i64) m.rights], .agg #[(Value.int .i64) p, (Value.int .i64) k, Value.bool u]] w (Pure (answer m ⟨p, k, u⟩).val w) := by
  have h1 := Has.new (has_old w) #[(Value.int .i64) m.page, (Value.int .i64) m.size, (Value.int .i64) m.frame, (Value.int .i64) m.rights] 31
  have h2 := h1.new #[(Value.int .i64) p, (Value.int .i64) k, Value.bool u] 33
  have h3 := h2.new #[(Value.int .i64) 0, (Value.int .i64) 0, (Value.int .i64) 0] 37
  have x3 := (((Ext.refl w).alloc (.cells #[(Value.int .i64) m.page, (Value.int .i64) m.size, (Value.int .i64) m.frame, (Value.int .i64) m.rights] 31)).alloc (.cells #[(Value.int .i64) p, (Value.int .i64) k, Value.bool u] 33)).alloc (.cells #[(Value.int .i64) 0, (Value.int .i64) 0, (Value.int .i64) 0] 37)
  simp only [World.size_alloc] at h3
  cases hm : may m.rights ⟨p, k, u⟩ with
  | true =>
    have hy := Lib.hid (show answer m ⟨p, k, u⟩ = ⟨0, wrap64 (wrap64 (m.frame + p) - m.page), m.rights⟩ by unfold answer; rw [hm]; rfl)
    go_enter Try.func43, Try.ntmps43
    go_wp2_with fail
    refine (may_any _ _ _ _ _).mono ?_; rintro e w1 ⟨rfl, b1⟩
    have h4 := h3.below b1
    have e1 := h4.lt
    obtain ⟨c0, c1, c2⟩ := h4.cells3
    obtain ⟨d0, d1, d2⟩ := h4.right.cells3
    obtain ⟨m0, m1, m2, m3⟩ := h4.right.right.cells4
    obtain ⟨f0, f1, f2⟩ := h4.frees3
    have h5 := ((h4.set 0 ((Value.int .i64) 0)).set 1 ((Value.int .i64) (wrap64 (wrap64 (m.frame + p) - m.page)))).set 2 ((Value.int .i64) m.rights)
    go_wp2_with fail
    exact bodyPost_ret (v := .agg #[(Value.int .i64) 0, (Value.int .i64) (wrap64 (wrap64 (m.frame + p) - m.page)), (Value.int .i64) m.rights]) (by simp [results, Try.results43, go_sem, c0, c1, c2]) rfl
      ⟨by rw [hy.out]; rfl, below_of1 h5.right.right.right (by (repeat (first | with_reducible assumption | with_reducible exact Ext.refl _ | with_reducible refine Ext.set ?_ _ _ | with_reducible refine Ext.alloc ?_ _ | with_reducible refine Ext.drew ?_ | with_reducible refine Ext.drewN ?_ _ | assumption | exact Ext.refl _ | refine Ext.alloc ?_ _ | refine Ext.set ?_ _ _ | refine Ext.drew ?_ | refine Ext.drewN ?_ _ | refine Ext.below ?_ (by assumption) | refine Ext.trans ?_ (by assumption))))⟩
  | false =>
    have hy := Lib.hid (show answer m ⟨p, k, u⟩ = ⟨2, 0, 0⟩ by unfold answer; rw [hm]; rfl)
    go_enter Try.func43, Try.ntmps43
    go_wp2_with fail
    refine (may_any _ _ _ _ _).mono ?_; rintro e w1 ⟨rfl, b1⟩
    have h4 := h3.below b1
    have e1 := h4.lt
    obtain ⟨c0, c1, c2⟩ := h4.cells3
    obtain ⟨f0, f1, f2⟩ := h4.frees3
    have h5 := ((h4.set 0 ((Value.int .i64) 2)).set 1 ((Value.int .i64) 0)).set 2 ((Value.int .i64) 0)
    go_wp2_with fail
    exact bodyPost_ret (v := .agg #[(Value.int .i64) 2, (Value.int .i64) 0, (Value.int .i64) 0]) (by simp [results, Try.results43, go_sem, c0, c1, c2]) rfl
      ⟨by rw [hy.out]; rfl, below_of1 h5.right.right.right (by (repeat (first | with_reducible assumption | with_reducible exact Ext.refl _ | with_reducible refine Ext.set ?_ _ _ | with_reducible refine Ext.alloc ?_ _ | with_reducible refine Ext.drew ?_ | with_reducible refine Ext.drewN ?_ _ | assumption | exact Ext.refl _ | refine Ext.alloc ?_ _ | refine Ext.set ?_ _ _ | refine Ext.drew ?_ | refine Ext.drewN ?_ _ | refine Ext.below ?_ (by assumption) | refine Ext.trans ?_ (by assumption))))⟩
end Go.Proofs.Ytmfheghbgihdmaa
namespace Go.Proofs.Ytmfheghbgihdmaa
open Go.RowKit
set_option maxRecDepth 100000
instance : Std.Associative (α := HProp) (fun a b => a * b) := ⟨star_assoc⟩
instance : Std.Commutative (α := HProp) (fun a b => a * b) := ⟨star_comm⟩
namespace Ms
def topV (s : Ms) : Int := match s.top with | some k => (k : Int) | none => -1
def takeS (s : Ms) : Ms := match s.top with | some k => s.take k | none => s
def giveS (s : Ms) (k : Int) : Ms := if s.has k then s.give k.toNat else s
/-- It is whole, and no greater than may be. -/
structure Ok (s : Ms) : Prop where
  inv : s.Inv
  small : s.n ≤ 128
theorem takeS_n (s : Ms) : s.takeS.n = s.n := by unfold takeS; split <;> rfl
theorem giveS_n (s : Ms) (k : Int) : (s.giveS k).n = s.n := by unfold giveS; split <;> rfl
theorem Ok.new {n : Nat} (h : n ≤ 128) : (Ms.new n).Ok := ⟨Inv.new n, h⟩
theorem Ok.takeS {s : Ms} (h : s.Ok) : s.takeS.Ok := by
  refine ⟨?_, by rw [takeS_n]; exact h.small⟩
  unfold Ms.takeS
  split
  · rename_i k hk
    exact h.inv.take hk
  · exact h.inv
theorem Ok.giveS {s : Ms} (h : s.Ok) (k : Int) : (s.giveS k).Ok := by
  refine ⟨?_, by rw [giveS_n]; exact h.small⟩
  unfold Ms.giveS
  split
  · rename_i hk
    exact h.inv.give (has_iff.1 hk).2.2
  · exact h.inv
end Ms
theorem storeS_n (s : Ms) (k i v : Int) : (storeS s k i v).n = s.n := by unfold storeS; split <;> rfl
theorem swapS_n (s : Ms) (k i o v : Int) : (swapS s k i o v).n = s.n := by unfold swapS; split <;> rfl
theorem Ms.Ok.storeS {s : Ms} (h : s.Ok) (k i : Int) {v : Int} (hv : u64 v) : (storeS s k i v).Ok := by
  refine ⟨?_, by rw [storeS_n]; exact h.small⟩
  unfold Go.Proofs.Ytmfheghbgihdmaa.storeS
  split
  · exact h.inv.setW _ _ hv
  · exact h.inv
theorem Ms.Ok.swapS {s : Ms} (h : s.Ok) (k i o : Int) {v : Int} (hv : u64 v) : (swapS s k i o v).Ok := by
  refine ⟨?_, by rw [swapS_n]; exact h.small⟩
  unfold Go.Proofs.Ytmfheghbgihdmaa.swapS
  split
  · exact h.inv.setW _ _ hv
  · exact h.inv
section
variable {p q g gw gi : Nat} {vf vk : Value} {s : Ms} {R : HProp} {w : World}
end
section
variable (p q : Nat) (s : Ms) (k i v o : Int) (R : HProp) (w : World)
theorem takenF (h : Has w (framesAt p s * R)) : Calls Try.prog 75 #[.pointer (some ⟨p, 0, none⟩), .int .i64 k] w (Same (Value.bool (s.has k)) w) := by
  obtain ⟨g, vf, h⟩ := framesAt_open h
  exact taken_any p g vf s k R w h
theorem loadF (h : Has w (framesAt p s * R)) : Calls Try.prog 80 #[.pointer (some ⟨p, 0, none⟩), .int .i64 k, .int .i64 i] w (Same (.tuple #[(Value.int .u64) (loadV s k i), Value.bool (s.hasW k i)]) w) := by
  obtain ⟨g, vf, h⟩ := framesAt_open h
  exact load_any p g vf s k i R w h
theorem freeF (h : Has w (framesAt p s * R)) : Calls Try.prog 29 #[.pointer (some ⟨p, 0, none⟩)] w (Same ((Value.int .i64) (s.frees.length : Nat)) w) := by
  obtain ⟨g, vf, h⟩ := framesAt_open h
  exact free_any p g vf s R w h
theorem storeF (h : Has w (framesAt p s * R)) :
    Calls Try.prog 64 #[.pointer (some ⟨p, 0, none⟩), .int .i64 k, .int .i64 i, .int .u64 v] w (Res (Value.bool (s.hasW k i)) (framesAt p (storeS s k i v) * R) w) := by
  obtain ⟨g, vf, h⟩ := framesAt_open h
  exact (store_any p g vf s k i v R w h).mono fun _ _ ⟨a, b, c⟩ => ⟨a, framesAt_shut b, c⟩
theorem swapF (h : Has w (framesAt p s * R)) :
    Calls Try.prog 74 #[.pointer (some ⟨p, 0, none⟩), .int .i64 k, .int .i64 i, .int .u64 o, .int .u64 v] w (Res (Value.bool (swapB s k i o)) (framesAt p (swapS s k i o v) * R) w) := by
  obtain ⟨g, vf, h⟩ := framesAt_open h
  exact (swap_any p g vf s k i o v R w h).mono fun _ _ ⟨a, b, c⟩ => ⟨a, framesAt_shut b, c⟩
theorem takeF (h : Has w (framesAt p s * R)) (hs : s.Ok) : Calls Try.prog 18 #[.pointer (some ⟨p, 0, none⟩)] w (Res ((Value.int .i64) s.topV) (framesAt p s.takeS * R) w) := by
  obtain ⟨g, vf, h⟩ := framesAt_open h
  unfold Ms.topV Ms.takeS
  cases ht : s.top with
  | some k => exact (take_any p g vf s k R w h ht (Ms.top_lt hs.inv ht).1).mono fun _ _ ⟨_, a, b, c⟩ => ⟨a, framesAt_shut b, c⟩
  | none => exact (take_none p g vf s R w h ht).mono fun _ _ ⟨a, b⟩ => ⟨a, b ▸ framesAt_shut h, b ▸ Ext.refl _⟩
theorem giveF (h : Has w (framesAt p s * R)) (hs : s.Ok) : Calls Try.prog 50 #[.pointer (some ⟨p, 0, none⟩), .int .i64 k] w (Res (Value.bool (s.has k)) (framesAt p (s.giveS k) * R) w) := by
  obtain ⟨g, vf, h⟩ := framesAt_open h
  unfold Ms.giveS
  cases ht : s.has k with
  | true =>
    obtain ⟨k0, k1, _⟩ := Ms.has_iff.1 ht
    obtain ⟨k, rfl⟩ := Int.eq_ofNat_of_zero_le k0
    have := Ms.frees_le hs.inv
    have := hs.small
    exact (give_yes p g vf s k R w h ht (by omega)).mono fun _ _ ⟨_, a, b, c⟩ => ⟨a, framesAt_shut (by simpa using b), c⟩
  | false => exact (give_no p g vf s k R w h ht).mono fun _ _ ⟨a, b⟩ => ⟨a, b ▸ framesAt_shut h, b ▸ Ext.refl _⟩
theorem newF (n : Int) (h : Has w R) (h0 : 0 ≤ n) (h1 : n ≤ 128) :
    Calls Try.prog 17 #[.int .i64 n] w fun e w' => ∃ p, Res (.tuple #[.pointer (some ⟨p, 0, none⟩), .agg #[(Value.int .i64) 0, (Value.int .i64) 0]]) (framesAt p (Ms.new n.toNat) * R) w e w' := by
  obtain ⟨n, rfl⟩ := Int.eq_ofNat_of_zero_le h0
  exact (new_frames n (by omega) R w h).mono fun _ _ ⟨p, _, _, a, b, c⟩ => ⟨p, a, framesAt_shut b, c⟩
end
end Go.Proofs.Ytmfheghbgihdmaa
namespace Go.Proofs.Ytmfheghbgihdmaa
open Go.RowKit
section
variable {w : World} {R : HProp} {e size : Nat} {A : Option Addr} {n c : Nat} {xs : List Value}
/-- A row of one's own that has an element stands at the head of a block. -/
theorem Has.rowAt (h : Has w (row e size (.slice A n c) n xs * R)) (hn : 0 < n) :
    ∃ g cur, A = some ⟨g, 0, none⟩ ∧ n ≤ c ∧ c ≤ maxLen ∧ cur.size = c * size ∧ cur.toList.take (n * size) = xs ∧ Has w (blk g cur e * R) := by
  rcases h.rowCases with ⟨hv, rfl, _, _⟩ | ⟨g, cap, cur, hv, h1, h2, h3, h4, hb⟩
  · omega
  · injection hv with e1 e2 e3
    subst e1; subst e3
    exact ⟨g, cur, rfl, h1, h2, h3, h4, hb⟩
theorem Has.rowLens (h : Has w (row e size (.slice A n c) n xs * R)) : xs.length = n * size ∧ n ≤ 9223372036854775807 := by
  have := h.ownsRow.1
  refine ⟨this, ?_⟩
  rcases h.rowCases with ⟨hv, rfl, _, _⟩ | ⟨g, cap, cur, hv, h1, h2, h3, h4, hb⟩
  · omega
  · unfold maxLen at h2; omega
/-- One cell of it. -/
theorem Has.rowGet (h : Has w (row e size (.slice A n c) n xs * R)) {i : Nat} {u : Value} (hu : xs[i]? = some u) :
    ∃ g, A = some ⟨g, 0, none⟩ ∧ g < w.heap.size ∧ w.cell? ⟨g, i, none⟩ = some u ∧ w.frozen? ⟨g, i, none⟩ = false := by
  have hl := h.rowLens.1
  have hi : i < xs.length := (List.getElem?_eq_some_iff.1 hu).1
  have hn : 0 < n := by
    rcases Nat.eq_zero_or_pos n with h0 | h0
    · subst h0; omega
    · exact h0
  obtain ⟨g, cur, rfl, h1, h2, h3, h4, hb⟩ := h.rowAt hn
  refine ⟨g, rfl, hb.lt, ?_, hb.free i⟩
  rw [hb.cell, ← hu, ← h4, List.getElem?_take, if_pos (by omega)]
  simp
/-- A cell of it is written. -/
theorem Has.rowSet {g : Nat} (h : Has w (row e size (.slice (some ⟨g, 0, none⟩) n c) n xs * R)) {i : Nat} (hi : i < n * size) (u : Value) :
    Has (w.setCell ⟨g, i, none⟩ u) (row e size (.slice (some ⟨g, 0, none⟩) n c) n (xs.set i u) * R) := by
  have hl := h.rowLens.1
  have hn : 0 < n := by
    rcases Nat.eq_zero_or_pos n with h0 | h0
    · subst h0; omega
    · exact h0
  obtain ⟨g', cur, hg, h1, h2, h3, h4, hb⟩ := h.rowAt hn
  injection hg with hg
  injection hg with hg
  subst hg
  refine (hb.set i u).rowOf ?_ h1 h2 (by simp [h3]) ?_
  · simp [hl]
  · rw [← h4]
    simp [List.take_set]
/-- Its first k elements. -/
theorem Has.rowCut {g k : Nat} (h : Has w (row e size (.slice (some ⟨g, 0, none⟩) n c) n xs * R)) (hk : k ≤ n) :
    Has w (row e size (.slice (some ⟨g, 0, none⟩) k c) k (xs.take (k * size)) * R) := by
  have hl := h.rowLens.1
  rcases h.rowCases with ⟨hv, _, _, _⟩ | ⟨g', cap, cur, hv, h1, h2, h3, h4, hb⟩
  · injection hv with a; cases a
  · injection hv with e1 e2 e3
    injection e1 with e1
    injection e1 with e1
    subst e1; subst e3
    have hks : k * size ≤ n * size := Nat.mul_le_mul_right _ hk
    refine hb.rowOf ?_ (by omega) h2 h3 ?_
    · rw [List.length_take, hl]; omega
    · rw [← h4, List.take_take, Nat.min_eq_left hks]
/-- A cell of its spare room is written. -/
theorem Has.rowSpare {g : Nat} (h : Has w (row e size (.slice (some ⟨g, 0, none⟩) n c) n xs * R)) {i : Nat} (hi : n * size ≤ i) (u : Value) :
    Has (w.setCell ⟨g, i, none⟩ u) (row e size (.slice (some ⟨g, 0, none⟩) n c) n xs * R) := by
  have hl := h.rowLens.1
  rcases h.rowCases with ⟨hv, _, _, _⟩ | ⟨g', cap, cur, hv, h1, h2, h3, h4, hb⟩
  · injection hv with a; cases a
  · injection hv with e1 e2 e3
    injection e1 with e1
    injection e1 with e1
    subst e1; subst e3
    refine (hb.set i u).rowOf hl h1 h2 (by simp [h3]) ?_
    rw [← h4, Array.toList_setIfInBounds, List.take_set_of_le hi]
/-- Many cells of it are written, one behind the other. -/
theorem Has.rowSetCells {g : Nat} : ∀ (vs : List Value) {w : World} {xs : List Value} (i : Nat), Has w (row e size (.slice (some ⟨g, 0, none⟩) n c) n xs * R) → i + vs.length ≤ n * size →
    Has (w.setCells g i vs) (row e size (.slice (some ⟨g, 0, none⟩) n c) n (xs.take i ++ (vs ++ xs.drop (i + vs.length))) * R)
  | [], w, xs, i, h, _ => by
    have e1 : xs.take i ++ ([] ++ xs.drop (i + ([] : List Value).length)) = xs := by simp
    rw [e1]
    exact h
  | v :: r, w, xs, i, h, hi => by
    simp only [List.length_cons] at hi
    have h1 := h.rowSet (i := i) (by omega) v
    have h2 := Has.rowSetCells r (i + 1) h1 (by omega)
    have hl := h.rowLens.1
    have e1 : (xs.set i v).take (i + 1) ++ (r ++ (xs.set i v).drop (i + 1 + r.length)) = xs.take i ++ (v :: r ++ xs.drop (i + (v :: r).length)) := by
      rw [List.drop_set_of_lt (by omega), List.take_succ_eq_append_getElem (by simp; omega)]
      rw [List.getElem_set_self, List.take_set_of_le (Nat.le_refl i), List.append_assoc]
      simp only [List.length_cons, List.cons_append, List.nil_append]
      rw [show i + 1 + r.length = i + (r.length + 1) by omega]
    rw [e1] at h2
    exact h2
theorem Has.rowSpareCells {g : Nat} : ∀ (vs : List Value) {w : World} (i : Nat), Has w (row e size (.slice (some ⟨g, 0, none⟩) n c) n xs * R) → n * size ≤ i →
    Has (w.setCells g i vs) (row e size (.slice (some ⟨g, 0, none⟩) n c) n xs * R)
  | [], _, _, h, _ => h
  | v :: r, _, i, h, hi => Has.rowSpareCells r (i + 1) (h.rowSpare hi v) (by omega)
end
end Go.Proofs.Ytmfheghbgihdmaa
namespace Go.Proofs.Ytmfheghbgihdmaa
open Go.RowKit
section
variable {α : Type} (cells : α → List Value) (sz : Nat)
/-- Cells of many elements, one behind the other. -/
def flat (l : List α) : List Value := l.flatMap cells
variable {cells} {sz}
theorem flat_append (a b : List α) : flat cells (a ++ b) = flat cells a ++ flat cells b := by simp [flat]
theorem flat_drop (hs : ∀ x, (cells x).length = sz) : ∀ (l : List α) (k : Nat), (flat cells l).drop (k * sz) = flat cells (l.drop k)
  | [], k => by simp [flat]
  | x :: l, 0 => by simp
  | x :: l, k + 1 => by
    show (cells x ++ flat cells l).drop ((k + 1) * sz) = _
    rw [Nat.succ_mul, Nat.add_comm, List.drop_append, hs, List.drop_eq_nil_of_le (by rw [hs]; omega), Nat.add_sub_cancel_left, flat_drop hs l k]
    rfl
theorem flat_take (hs : ∀ x, (cells x).length = sz) : ∀ (l : List α) (k : Nat), (flat cells l).take (k * sz) = flat cells (l.take k)
  | [], k => by simp [flat]
  | x :: l, 0 => by simp [flat]
  | x :: l, k + 1 => by
    show (cells x ++ flat cells l).take ((k + 1) * sz) = _
    rw [Nat.succ_mul, Nat.add_comm, List.take_append, hs, List.take_of_length_le (by rw [hs]; omega), Nat.add_sub_cancel_left, flat_take hs l k]
    rfl
theorem flat_get (hs : ∀ x, (cells x).length = sz) {l : List α} {k t : Nat} (hk : k < l.length) (ht : t < sz) : (flat cells l)[k * sz + t]? = (cells l[k])[t]? := by
  have h1 : (flat cells l)[k * sz + t]? = ((flat cells l).drop (k * sz))[t]? := by rw [List.getElem?_drop]
  rw [h1, flat_drop hs, List.drop_eq_getElem_cons hk]
  show (cells l[k] ++ flat cells (l.drop (k + 1)))[t]? = _
  rw [List.getElem?_append_left (by rw [hs]; omega)]
/-- An element in the place of another. -/
theorem flat_set (hs : ∀ x, (cells x).length = sz) {l : List α} {k : Nat} (hk : k < l.length) (x : α) :
    (flat cells l).take (k * sz) ++ (cells x ++ (flat cells l).drop (k * sz + sz)) = flat cells (l.set k x) := by
  rw [flat_take hs, show k * sz + sz = (k + 1) * sz by rw [Nat.succ_mul], flat_drop hs, List.set_eq_take_append_cons_drop, if_pos hk, flat_append]
  rfl
end
/-- 'clear(s)', s a slice of n > 0 elements of several cells each. -/
theorem run_clear_cells {P : Program} (w : World) (t e ty : TypeId) (z : Value) (size : Nat) (ht : P.underlying t = some (.slice e)) (hv : ∀ w, (zeroValue e).run P w = .ok z w) (hz : z.cells.size = size) (h1 : ∀ v ∈ z.cells.toList, v.oneCell' = true) (b o n c : Nat) (hn : 0 < n) (hs : 0 < size)
    (hc : ∀ j, j < n * size → (w.cell? ⟨b, o + j, none⟩).isSome = true) (hf : ∀ j, j < n * size → w.frozen? ⟨b, o + j, none⟩ = false) :
    (Builtin.clear_ #[t] ty #[.slice (some ⟨b, o, none⟩) n c]).run P w = .ok (.tuple #[]) (w.setCells b o (Builtin.zeroCells z.cells n).toList) := by
  have hl : (Builtin.zeroCells z.cells n).toList.length = n * size := by rw [Array.length_toList, size_zeroCells, hz]
  have hst := run_storeCells_cells (P := P) b o (Builtin.zeroCells z.cells n).toList 0 w (by rw [hl]; simpa using hc) (by rw [hl]; simpa using hf) (by
    intro v hv'
    obtain ⟨i, hi, rfl⟩ := List.getElem_of_mem hv'
    have hi' : i < n * z.cells.size := by simpa [hz] using (hl ▸ hi : i < n * size)
    have hm : i % z.cells.size < z.cells.size := Nat.mod_lt _ (by rw [hz]; exact hs)
    refine h1 _ ?_
    simp only [Builtin.zeroCells, Array.toList_map, Array.toList_range, List.getElem_map, List.getElem_range]
    rw [getElem!_pos z.cells (i % z.cells.size) hm]
    exact Array.getElem_mem_toList hm)
  simp only [Nat.add_zero] at hst
  obtain ⟨m, rfl⟩ : ∃ m, n = m + 1 := ⟨n - 1, by omega⟩
  simp [Builtin.clear_, run_underlying ht, hv, hst]
section
variable {w w' : World} {R : HProp} {e size : Nat} {A : Option Addr} {n c : Nat} {xs : List Value}
/-- What follows an element that is cut out comes to its place. -/
theorem Has.rowDelete {g i j : Nat} (h : Has w (row e size (.slice (some ⟨g, 0, none⟩) n c) n xs * R)) (hij : i ≤ j) (hj : j ≤ n) (zs : List Value) :
    Has ((w.setCells g (i * size) (xs.drop (j * size))).setCells g ((i + (n - j)) * size) zs)
      (row e size (.slice (some ⟨g, 0, none⟩) (i + (n - j)) c) (i + (n - j)) (xs.take (i * size) ++ xs.drop (j * size)) * R) := by
  have hl := h.rowLens.1
  have e1 : j * size ≤ n * size := Nat.mul_le_mul_right _ hj
  have e2 : i * size ≤ j * size := Nat.mul_le_mul_right _ hij
  have e3 : (i + (n - j)) * size = i * size + (n * size - j * size) := by rw [Nat.add_mul, Nat.sub_mul]
  have h1 := Has.rowSetCells (xs.drop (j * size)) (i * size) h (by rw [List.length_drop, hl]; omega)
  have h2 := h1.rowCut (k := i + (n - j)) (by omega)
  have h3 := Has.rowSpareCells zs ((i + (n - j)) * size) h2 (Nat.le_refl _)
  have e4 : (xs.take (i * size) ++ (xs.drop (j * size) ++ xs.drop (i * size + (xs.drop (j * size)).length))).take ((i + (n - j)) * size) = xs.take (i * size) ++ xs.drop (j * size) := by
    have e5 : (xs.take (i * size) ++ xs.drop (j * size)).length = (i + (n - j)) * size := by rw [List.length_append, List.length_take, List.length_drop, hl]; omega
    rw [← List.append_assoc, List.take_append_of_le_length (by omega), List.take_of_length_le (by omega)]
  rw [e4] at h3
  exact h3
end
/-! ### append onto a row of one's own, as a step of a region that draws -/
theorem step_append_has {P : Program} {ops : Array Oper} {o : Oper} {a : Act} {w : World} {R : HProp} {K : Act → World → Prop} {Q : Exit → Act → World → Prop} {E : Prop}
    (hg : o.guard = none) (s x : Operand) (t : TypeId) (hop : o.op = Op.call { callee := Callee.builtin Builtin.append, args := #[s, x], argTypes := #[t, t] })
    {e : TypeId} {z : Value} {size bytes : Nat} (hT : P.underlying t = some (.slice e)) (hE : Elem P e z size bytes)
    (v : Value) (n : Nat) (xs : List Value) (hs : a.eval s = v) (h : Has w (row e size v n xs * R))
    (ad : Addr) (m c : Nat) (news : List Value) (hx : a.eval x = .slice (some ad) m c) (hl : news.length = m * size) (hnews : ∀ j u, news[j]? = some u → w.cell? (ad.add j) = some u) (h1 : ∀ u ∈ news, u.oneCell' = true)
    (h63 : n + m ≤ maxLen) (hbytes : (n + m) * bytes ≤ 140737488355328)
    (hK : ∀ A c w', Has w' (row e size (.slice A (n + m) c) (n + m) (xs ++ news) * R) → Ext w w' → K (a.put o.dst (.slice A (n + m) c)) w') :
    if Region.wanted o (yielded ops a.tmps) = true then Oper.wp P o a w K Q else E := by
  have hw : Region.wanted o (yielded ops a.tmps) = true := by simp [Region.wanted, hg]
  rw [if_pos hw]
  obtain ⟨v', w', hrun, h2, h3⟩ := run_append_has (ty := o.type) hT hE v n xs h ad m c news hl hnews h1 h63 hbytes
  unfold Oper.wp
  simp [execOp, hop, resolve, invoke, builtin, hs, hx, hrun, Result.andThen]
  have hf : ∃ A c, v' = .slice A (n + m) c := by
    rcases h2.rowCases with ⟨hv, hn, _, _⟩ | ⟨g, cap, cur, hv, _⟩
    · exact ⟨none, 0, by rw [hv, hn]⟩
    · exact ⟨_, _, hv⟩
  obtain ⟨A, c', rfl⟩ := hf
  exact hK A c' w' h2 h3
end Go.Proofs.Ytmfheghbgihdmaa
namespace Go.Proofs.Ytmfheghbgihdmaa
open Go.RowKit
/-- A step of the laws on what is kept. -/
structure Lst where
  op : Int
  k : Int
  m : Mp
def Lst.cells (x : Lst) : List Value := [(Value.int .i64) x.op, (Value.int .i64) x.k, (Value.int .i64) x.m.page, (Value.int .i64) x.m.size, (Value.int .i64) x.m.frame, (Value.int .i64) x.m.rights]
def Lst.ok (x : Lst) : Prop := i64 x.op ∧ i64 x.k ∧ x.m.ok
/-- A step of a script. -/
structure Stp where
  kind : Int
  core : Int
  m : Mp
  a : Ac
def Stp.cells (x : Stp) : List Value := [(Value.int .i64) x.kind, (Value.int .i64) x.core, (Value.int .i64) x.m.page, (Value.int .i64) x.m.size, (Value.int .i64) x.m.frame, (Value.int .i64) x.m.rights, (Value.int .i64) x.a.page, (Value.int .i64) x.a.kind, Value.bool x.a.user]
def Stp.ok (x : Stp) : Prop := i64 x.kind ∧ i64 x.core ∧ x.m.ok ∧ x.a.ok
theorem cells_stp {cs : List Value} (h : CellsOk [some .i64, some .i64, some .i64, some .i64, some .i64, some .i64, some .i64, some .i64, none] cs) : ∃ x : Stp, cs = x.cells ∧ x.ok := by
  obtain ⟨a, c1, rfl, wa, g1⟩ := h.int
  obtain ⟨b, c2, rfl, wb, g2⟩ := g1.int
  obtain ⟨c, c3, rfl, wc, g3⟩ := g2.int
  obtain ⟨d, c4, rfl, wd, g4⟩ := g3.int
  obtain ⟨e, c5, rfl, we, g5⟩ := g4.int
  obtain ⟨f, c6, rfl, wf, g6⟩ := g5.int
  obtain ⟨p, c7, rfl, wp, g7⟩ := g6.int
  obtain ⟨k, c8, rfl, wk, g8⟩ := g7.int
  obtain ⟨u, c9, rfl, g9⟩ := g8.bool
  obtain rfl := g9.nil
  exact ⟨⟨a, b, ⟨c, d, e, f⟩, ⟨p, k, u⟩⟩, rfl, wf_i64' wa, wf_i64' wb, ⟨wf_i64' wc, wf_i64' wd, wf_i64' we, wf_i64' wf⟩, wf_i64' wp, wf_i64' wk⟩
/-- A step of the laws on walks. -/
structure Wst where
  op : Int
  k : Int
  i : Int
  w : Int
  a : Ac
def Wst.cells (x : Wst) : List Value := [(Value.int .i64) x.op, (Value.int .i64) x.k, (Value.int .i64) x.i, (Value.int .u64) x.w, (Value.int .i64) x.a.page, (Value.int .i64) x.a.kind, Value.bool x.a.user]
def Wst.ok (x : Wst) : Prop := i64 x.op ∧ i64 x.k ∧ i64 x.i ∧ u64 x.w ∧ x.a.ok
end Go.Proofs.Ytmfheghbgihdmaa
namespace Go.Proofs.Ytmfheghbgihdmaa
open Go.RowKit
set_option maxRecDepth 100000
def takeN (s : Ms) : Nat → Ms | 0 => s | k + 1 => (takeN s k).takeS
/-- Words from the i-th place on. -/
def putWords (s : Ms) : Nat → List Int → Ms | _, [] => s | i, w :: ws => putWords (storeS s ((i : Int) / 8) ((i : Int) % 8) w) (i + 1) ws
def memS (n taken : Int) (words : List Int) : Ms := putWords (takeN (Ms.new n.toNat) (min taken.toNat n.toNat)) 0 words
theorem takeN_ok {s : Ms} (h : s.Ok) : ∀ k, (takeN s k).Ok | 0 => h | k + 1 => (takeN_ok h k).takeS
theorem takeN_n (s : Ms) : ∀ k, (takeN s k).n = s.n | 0 => rfl | k + 1 => by unfold takeN; rw [Ms.takeS_n, takeN_n s k]
theorem putWords_ok : ∀ (ws : List Int) {s : Ms} (i : Nat), s.Ok → (∀ x ∈ ws, u64 x) → (putWords s i ws).Ok
  | [], _, _, h, _ => h
  | w :: ws, _, i, h, hw => putWords_ok ws (i + 1) (h.storeS _ _ (hw w (by simp))) fun x hx => hw x (by simp [hx])
theorem putWords_n : ∀ (ws : List Int) (s : Ms) (i : Nat), (putWords s i ws).n = s.n
  | [], _, _ => rfl
  | w :: ws, s, i => by unfold putWords; rw [putWords_n ws, storeS_n]
theorem memS_ok {n taken : Int} {ws : List Int} (_ : 0 ≤ n) (h1 : n ≤ 128) (hw : ∀ x ∈ ws, u64 x) : (memS n taken ws).Ok := putWords_ok ws 0 (takeN_ok (Ms.Ok.new (by omega)) _) hw
theorem memS_n {n taken : Int} {ws : List Int} : (memS n taken ws).n = n.toNat := by unfold memS; rw [putWords_n, takeN_n]; rfl
theorem Has.onto' {w w' : World} {P Q : HProp} (h : Has w P) (h' : Has w' (Q * old w w.heap.size)) : Has w' (Q * P) := by
  obtain ⟨x, s, px⟩ := h
  obtain ⟨_, s', h1, h2, d, rfl, q, rfl⟩ := h'
  have sub : ∀ b o, x b = some o → (fun b => if b < w.heap.size then w.heap[b]? else none) b = some o := fun b o e => by
    have h0 : w.heap[b]? = some o := s b o e
    have hlt : b < w.heap.size := (Array.getElem?_eq_some_iff.1 h0).1
    show (if b < w.heap.size then w.heap[b]? else none) = some o
    rw [if_pos hlt]
    exact h0
  refine ⟨Hpm.union h1 x, ?_, h1, x, ?_, rfl, q, px⟩
  · refine Hpm.sub_union (Hpm.sub_union_left s') fun b o e => ?_
    exact Hpm.sub_union_right d s' b o (sub b o e)
  · intro b
    rcases d b with e | e
    · exact .inl e
    · right
      cases hx : x b with
      | none => rfl
      | some o => rw [sub b o hx] at e; cases e
end Go.Proofs.Ytmfheghbgihdmaa
namespace Go.Proofs.Ytmfheghbgihdmaa
open Go.RowKit
/-- What is taken, the first one first. -/
def tops (s : Ms) : Nat → List Int | 0 => [] | k + 1 => tops s k ++ [(takeN s k).topV]
def giveL (s : Ms) (l : List Int) : Ms := l.foldl Ms.giveS s
theorem tops_len (s : Ms) : ∀ k, (tops s k).length = k | 0 => rfl | k + 1 => by simp [tops, tops_len s k]
theorem giveL_ok {s : Ms} (h : s.Ok) : ∀ l, (giveL s l).Ok
  | [] => h
  | k :: l => giveL_ok (h.giveS k) l
theorem giveL_snoc (s : Ms) (l : List Int) (k : Int) : giveL s (l ++ [k]) = (giveL s l).giveS k := by simp [giveL]
theorem takeS_frees {s : Ms} {k : Nat} (h : s.top = some k) : s.takeS.frees ++ [k] = s.frees := by
  unfold Ms.takeS
  rw [h]
  exact Ms.frees_take s k h
theorem takeN_frees (s : Ms) : ∀ k, k ≤ s.frees.length → (takeN s k).frees = s.frees.take (s.frees.length - k)
  | 0, _ => by simp [takeN]
  | k + 1, h => by
    have ih := takeN_frees s k (by omega)
    obtain ⟨t, ht⟩ := top_of (s := takeN s k) (by rw [ih]; simp; omega)
    have h1 := takeS_frees ht
    show (takeN s k).takeS.frees = _
    have h2 : (takeN s k).takeS.frees = (takeN s k).frees.dropLast := by rw [← h1]; simp
    rw [h2, ih, List.dropLast_eq_take, List.take_take, List.length_take]
    congr 1
    omega
theorem Agree.giveS {s s' : Ms} (h : Agree s s') (k : Int) : Agree (s.giveS k) (s'.giveS k) := by
  unfold Ms.giveS
  rw [← h.has k]
  split
  · refine ⟨h.n, fun j => ?_, ?_, fun j i hj => ?_⟩
    · show fput s.tk k.toNat false j = fput s'.tk k.toNat false j
      unfold fput
      rw [h.tk]
    · rw [Ms.frees_give, Ms.frees_give, h.fr]
    · have hj : fput s.tk k.toNat false j = true := hj
      unfold fput at hj
      split at hj
      · cases hj
      · exact h.wd j i hj
  · exact h
theorem Agree.giveL {s s' : Ms} : ∀ (l : List Int), Agree s s' → Agree (giveL s l) (giveL s' l)
  | [], h => h
  | k :: l, h => Agree.giveL l (h.giveS k)
/-- What is taken and given back is as it was. -/
theorem take_give {s : Ms} (hs : s.Ok) {k : Nat} (h : s.top = some k) : Agree (s.takeS.giveS (k : Int)) s := by
  have hl := Ms.top_lt hs.inv h
  have h1 := takeS_frees h
  have hts : s.takeS = s.take k := by unfold Ms.takeS; rw [h]
  have hh : s.takeS.has (k : Int) = true := by rw [hts]; exact has_take_self hl.1
  have hg : s.takeS.giveS (k : Int) = s.takeS.give k := by unfold Ms.giveS; rw [if_pos hh]; rfl
  rw [hg]
  refine ⟨?_, fun j => ?_, ?_, fun j i hj => ?_⟩
  · show s.takeS.n = s.n
    exact Ms.takeS_n s
  · show fput s.takeS.tk k false j = s.tk j
    rw [hts]
    show fput (fput s.tk k true) k false j = s.tk j
    unfold fput
    by_cases e : j = k
    · rw [if_pos e, e, hl.2]
    · rw [if_neg e, if_neg e]
  · rw [Ms.frees_give, h1]
  · have hj : fput s.takeS.tk k false j = true := hj
    unfold fput at hj
    split at hj
    · cases hj
    · rename_i e
      show s.takeS.wd j i = s.wd j i
      rw [hts]
      show (if j = k then (0 : Int) else s.wd j i) = s.wd j i
      rw [if_neg e]
theorem takeN_give {s : Ms} (hs : s.Ok) : ∀ k, k ≤ s.frees.length → Agree (giveL (takeN s k) (tops s k).reverse) s
  | 0, _ => Agree.refl s
  | k + 1, h => by
    have hlen : 0 < (takeN s k).frees.length := by rw [takeN_frees s k (by omega)]; simp; omega
    obtain ⟨t, ht⟩ := top_of hlen
    have e1 : (takeN s k).topV = (t : Int) := by unfold Ms.topV; rw [ht]
    show Agree (giveL (takeN s k).takeS (tops s k ++ [(takeN s k).topV]).reverse) s
    rw [List.reverse_append, e1]
    show Agree (giveL ((takeN s k).takeS.giveS (t : Int)) (tops s k).reverse) s
    exact (Agree.giveL _ (take_give (takeN_ok hs k) ht)).trans (takeN_give hs k (by omega))
theorem takeN_top {s : Ms} {k : Nat} (hk : k ≤ s.frees.length) : ((takeN s k).topV < 0) ↔ k = s.frees.length := by
  have hf := takeN_frees s k hk
  constructor
  · intro h
    apply Classical.byContradiction
    intro hn
    obtain ⟨t, ht⟩ := top_of (s := takeN s k) (by rw [hf]; simp; omega)
    unfold Ms.topV at h
    rw [ht] at h
    have : (0 : Int) ≤ t := by omega
    dsimp only at h
    omega
  · intro h
    have he : (takeN s k).frees = [] := by rw [hf, h]; simp
    have ht : (takeN s k).top = none := by rw [← Ms.frees_top, he]; rfl
    unfold Ms.topV
    rw [ht]
    decide
end Go.Proofs.Ytmfheghbgihdmaa
namespace Go.Proofs.Ytmfheghbgihdmaa
open Go.RowKit
set_option maxRecDepth 100000
theorem spanOf_any (s : Int) (w : World) : Calls Try.prog 33 #[.int .i64 s] w (Same ((Value.int .i64) (span s)) w) := by
  by_cases h0 : s < 0
  · have hy := Lib.hid (show span s = 0 by unfold span; rw [if_neg (by omega), if_neg (by omega), if_neg (by omega)])
    go_enter Try.func33, Try.ntmps33
    go_wp2
    go_ret
    exact ⟨by rw [hy.out]; rfl, rfl⟩
  by_cases h2 : 2 < s
  · have hy := Lib.hid (show span s = 0 by unfold span; rw [if_neg (by omega), if_neg (by omega), if_neg (by omega)])
    go_enter Try.func33, Try.ntmps33
    go_wp2
    go_ret
    exact ⟨by rw [hy.out]; rfl, rfl⟩
  obtain ⟨k, rfl⟩ := Int.eq_ofNat_of_zero_le (show 0 ≤ s by omega)
  have hk : k ≤ 2 := by omega
  have hy := Lib.hid (show span (k : Int) = pow8 k by
    have : k = 0 ∨ k = 1 ∨ k = 2 := by omega
    rcases this with rfl | rfl | rfl <;> rfl)
  go_enter Try.func33, Try.ntmps33
  go_wp2
  go_loop [3, 4] (fun x t => ∃ j : Nat, j ≤ k ∧ t = (Value.int .i64) j ∧ x = (Value.int .i64) (pow8 j)) (fun _ t => k - (intOf t).toNat)
  case atStart => exact ⟨0, by omega, rfl, rfl⟩
  case round =>
    obtain ⟨j, hj, rfl, rfl⟩ := hrel
    have hb : 0 ≤ pow8 j ∧ pow8 j ≤ 64 := by
      have : j = 0 ∨ j = 1 ∨ j = 2 := by omega
      rcases this with rfl | rfl | rfl <;> decide
    obtain ⟨hb0, hb1⟩ := hb
    by_cases hjk : j < k
    · go_wp2
      go_round
      case rel => exact ⟨j + 1, by omega, by go_num, by rw [show pow8 (j + 1) = pow8 j * 8 from Int.mul_comm _ _]⟩
      case measure => simp [intOf]; omega
    · obtain rfl : j = k := by omega
      go_wp2
      go_ret
      exact ⟨by rw [hy.out]; rfl, rfl⟩
end Go.Proofs.Ytmfheghbgihdmaa
namespace Go.Proofs.Ytmfheghbgihdmaa
open Go.RowKit
set_option maxRecDepth 100000
theorem span_le (s : Int) : 0 ≤ span s ∧ span s ≤ 64 := by unfold span; split <;> (try split) <;> (try split) <;> omega
theorem refHas_any (m : Mp) (p : Int) (w : World) (hm : i64 m.page) (hp : i64 p) :
    Calls Try.prog 16 #[.agg #[(Value.int .i64) m.page, (Value.int .i64) m.size, (Value.int .i64) m.frame, (Value.int .i64) m.rights], .int .i64 p] w (Pure (Value.bool (over m p)) w) := by
  have h1 := Has.new (has_old w) #[(Value.int .i64) m.page, (Value.int .i64) m.size, (Value.int .i64) m.frame, (Value.int .i64) m.rights] 31
  have x1 := (Ext.refl w).alloc (.cells #[(Value.int .i64) m.page, (Value.int .i64) m.size, (Value.int .i64) m.frame, (Value.int .i64) m.rights] 31)
  have bl := below_of1 h1.right x1
  obtain ⟨c0, c1, c2, c3⟩ := h1.cells4
  obtain ⟨hm0, hm1⟩ := hm
  obtain ⟨hp0, hp1⟩ := hp
  clear h1 x1
  by_cases h0 : p < m.page
  · have hy := Lib.hid (show over m p = false by unfold over; simp; omega)
    go_enter Try.func16, Try.ntmps16
    go_wp2_with fail
    go_ret
    exact ⟨by rw [hy.out]; rfl, bl⟩
  · obtain ⟨s0, s1⟩ := span_le m.size
    go_enter Try.func16, Try.ntmps16
    go_wp2_with fail
    refine (spanOf_any _ _).mono ?_; rintro e w' ⟨rfl, rfl⟩
    generalize hs : span m.size = n at *
    have hS := Lib.hid hs
    clear hs
    go_wp2_with fail
    go_loop [1, 6] (fun x t => ∃ j : Nat, (j : Int) ≤ n ∧ (j : Int) ≤ p - m.page ∧ t = (Value.int .i64) j ∧ x = (Value.int .i64) (p - j)) (fun _ t => n.toNat - (intOf t).toNat)
    case atStart => exact ⟨0, by omega, by omega, rfl, by simp⟩
    case round =>
      obtain ⟨j, hj, hjp, rfl, rfl⟩ := hrel
      by_cases hjn : (j : Int) < n
      · by_cases he : p - j = m.page
        · have hy := Lib.hid (show over m p = true by unfold over; rw [hS.out]; simp; omega)
          have he' : (p - (j : Int) == m.page) = true := by simpa using he
          go_wp2_with fail
          go_ret
          exact ⟨by rw [hy.out]; rfl, bl⟩
        · have he' : (p - (j : Int) == m.page) = false := by simpa using he
          have he2 : (p - (j : Int) == -9223372036854775808) = false := by simp; omega
          go_wp2_with fail
          go_round
          case rel => exact ⟨j + 1, by omega, by omega, by go_num, by go_num⟩
          case measure => simp [intOf]; omega
      · have hy := Lib.hid (show over m p = false by unfold over; rw [hS.out]; simp; omega)
        go_wp2_with fail
        go_ret
        exact ⟨by rw [hy.out]; rfl, bl⟩
end Go.Proofs.Ytmfheghbgihdmaa
namespace Go.Proofs.Ytmfheghbgihdmaa
open Go.RowKit
set_option maxRecDepth 100000
theorem fail_no (c : Int) (w : World) : Calls Try.prog 97 #[.bool false, .int .i64 c] w (Same (.tuple #[]) w) := by
  go_enter Try.func97, Try.ntmps97
  go_wp2
  go_end0
  exact ⟨rfl, rfl⟩
/-- It panics with a code; the world is the very same. -/
def Dies (c : Int) (w : World) (e : Ending) (w' : World) : Prop := e = .panicked [{ v := .iface 162 ((Value.int .i64) c), recovered := false }] ∧ w = w'
theorem fail_yes (c : Int) (w : World) : Calls Try.prog 97 #[.bool true, .int .i64 c] w (Dies c w) := by
  go_enter Try.func97, Try.ntmps97
  go_wp2
  exact ⟨rfl, rfl, rfl⟩
theorem size_any (l : Int) (w : World) : Calls Try.prog 84 #[.int .i64 l] w (Same ((Value.int .i64) l) w) := by
  go_enter Try.func84, Try.ntmps84
  go_wp2
  go_ret
  exact ⟨rfl, rfl⟩
theorem bit_any (b : Bool) (n : Int) (w : World) : Calls Try.prog 87 #[.bool b, .int .u64 n] w (Same ((Value.int .u64) (b2i b n)) w) := by
  cases b with
  | true =>
    go_enter Try.func87, Try.ntmps87
    go_wp2
    go_ret
    exact ⟨rfl, rfl⟩
  | false =>
    go_enter Try.func87, Try.ntmps87
    go_wp2
    go_ret
    exact ⟨rfl, rfl⟩
theorem assertFault (c : Int) (w : World) : (Instr.typeAssert (.iface 162 ((Value.int .i64) c)) 20 162 true).run Try.prog w = .ok (.tuple #[(Value.int .i64) c, Value.bool true]) w := by kernel_rfl
theorem caught1_panic (p : Addr) (x c : Int) (older : List PanicEntry) (w : World) (hc : w.cell? p = some ((Value.int .i64) x)) (hz : w.frozen? p = false) :
    CallsD Try.prog 96 #[.pointer (some p)] (.panicking ({ v := .iface 162 ((Value.int .i64) c), recovered := false } :: older)) w fun e u' w' =>
      e = .returned (.tuple #[]) ∧ u' = .panicking ({ v := .iface 162 ((Value.int .i64) c), recovered := true } :: older) ∧ w' = w.setCell p ((Value.int .i64) c) := by
  have hta := assertFault c
  refine callsD_of_wpS Try.func96 rfl fun c₀ cs hu => ?_
  apply wpS_seq
  apply wpS_region
  simp [wpOpsS, go_sem, recoverD, hu, Try.ntmps96, Exit.thenS]
  apply wpS_seq
  apply wpS_region
  simp [wpOpsS, go_sem, Exit.thenS]
  refine wpS_cond (t := true) (by simp [Act.eval, Array.replicate]) ?_
  simp only [if_true]
  apply wpS_seq
  apply wpS_region
  simp [wpOpsS, go_sem, Exit.thenS, hta]
  apply wpS_seq
  apply wpS_seq
  apply wpS_region
  simp [wpOpsS, go_sem, Exit.thenS]
  refine wpS_cond (t := false) (by simp [Act.eval, Array.replicate]) ?_
  simp only [Bool.false_eq_true, if_false]
  refine wpS_of_wp (wp_skip ?_)
  simp only [Exit.thenS]
  apply wpS_region
  simp [wpOpsS, go_sem, hc, hz, bodyPostS, results, Try.results96]
theorem caught1_idle (p : Addr) (w : World) :
    CallsD Try.prog 96 #[.pointer (some p)] .returning w fun e u' w' => e = .returned (.tuple #[]) ∧ u' = .returning ∧ w' = w := by
  refine callsD_of_wpS Try.func96 rfl fun c₀ cs hu => ?_
  apply wpS_seq
  apply wpS_region
  simp [wpOpsS, go_sem, recoverD, hu, Try.ntmps96, Exit.thenS]
  apply wpS_seq
  apply wpS_region
  simp [wpOpsS, go_sem, Exit.thenS]
  refine wpS_cond (t := false) (by simp [Act.eval, Array.replicate]) ?_
  simp only [Bool.false_eq_true, if_false]
  refine wpS_of_wp (wp_skip ?_)
  cases c₀
  simp_all [bodyPostS, results, Try.results96]
end Go.Proofs.Ytmfheghbgihdmaa
