/- The contract of frames.New. -/
import Derived.Test.YtndhgomikpokpaaFrames2
namespace Go.Proofs.Ytndhgomikpokpaa
open Go.RowKit
set_option maxRecDepth 100000

def tableZero : Value := .agg #[Value.bool false, (Value.int .u64) 0, (Value.int .u64) 0, (Value.int .u64) 0, (Value.int .u64) 0, (Value.int .u64) 0, (Value.int .u64) 0, (Value.int .u64) 0, (Value.int .u64) 0]
theorem tableInfo : (Try.prog.info? 181).map (fun i => (i.zero, i.size, i.bytes)) = some (some tableZero, 9, 72) := by kernel_rfl
theorem mod9 (j : Nat) : j % 9 = 0 ∨ j % 9 = 1 ∨ j % 9 = 2 ∨ j % 9 = 3 ∨ j % 9 = 4 ∨ j % 9 = 5 ∨ j % 9 = 6 ∨ j % 9 = 7 ∨ j % 9 = 8 := by omega
theorem fc_new (n j : Nat) : tableZero.cells[j % 9]! = fc (Ms.new n) j := by
  unfold fc Ms.new
  dsimp only
  rcases mod9 j with h | h | h | h | h | h | h | h | h <;> rw [h] <;> rfl
theorem frees_part (n k : Nat) (h : k < n) : (List.range' (n - (k + 1)) (k + 1)).reverse = (List.range' (n - k) k).reverse ++ [n - 1 - k] := by
  rw [Ms.range'_rev, show n - (k + 1) + 1 = n - k by omega, show n - (k + 1) = n - 1 - k by omega]
theorem new_no (n : Int) (w : World) (h : ¬ (0 ≤ n ∧ n ≤ 128)) :
    Calls Try.prog 97 #[.int .i64 n] w (Pure (.tuple #[.pointer none, .agg #[(Value.int .i64) 1, (Value.int .i64) (-1)]]) w) := by
  have b2 := below_of1 (Has.new (has_old w) #[(Value.int .i64) 1, (Value.int .i64) (-1)] 162).right ((Ext.refl w).alloc (.cells #[(Value.int .i64) 1, (Value.int .i64) (-1)] 162))
  by_cases h0 : n < 0
  · go_enter Try.func97, Try.ntmps97
    go_wp2
    exact bodyPost_ret (v := .tuple #[.pointer none, .agg #[(Value.int .i64) 1, (Value.int .i64) (-1)]]) (by simp [results, Try.results97, go_sem]) rfl ⟨rfl, b2⟩
  · have h8 : 128 < n := by omega
    go_enter Try.func97, Try.ntmps97
    go_wp2
    exact bodyPost_ret (v := .tuple #[.pointer none, .agg #[(Value.int .i64) 1, (Value.int .i64) (-1)]]) (by simp [results, Try.results97, go_sem]) rfl ⟨rfl, b2⟩

theorem make_tables (n : Nat) (hn : n ≤ 128) (w : World) : (Instr.makeSlice 182 (.int .i64 (n : Int)) (.int .i64 (n : Int))).run Try.prog w = .ok (.slice (some ⟨w.heap.size, 0, none⟩) n n) (w.alloc (.cells (tabA (n * 9) (fc (Ms.new n))) 181)) := by
  rw [run_make_tab (P := Try.prog) 182 181 tableZero 9 72 Try.underlying182 tableInfo rfl n (by omega) (by omega) w, tabA_ext (fun j _ => fc_new n j)]
theorem new_frames (n : Nat) (hn : n ≤ 128) (R : HProp) (w : World) (h : Has w R) :
    Calls Try.prog 97 #[.int .i64 n] w fun e w' => ∃ p g vf, Res (.tuple #[.pointer (some ⟨p, 0, none⟩), .agg #[(Value.int .i64) 0, (Value.int .i64) 0]]) (framesIn p g vf (Ms.new n) R) w e w' := by
  have hmk := make_tables n hn
  have h1 := h.new #[(Value.int .i64) 0, (Value.int .i64) 0] 162
  have h2 := h1.new (tabA (n * 9) (fc (Ms.new n))) 181
  have h3 := h2.new #[.slice (some ⟨w.heap.size + 1, 0, none⟩) n n, .slice none 0 0] 184
  have x3 := (((Ext.refl w).alloc (.cells #[(Value.int .i64) 0, (Value.int .i64) 0] 162)).alloc (.cells (tabA (n * 9) (fc (Ms.new n))) 181)).alloc (.cells #[.slice (some ⟨w.heap.size + 1, 0, none⟩) n n, .slice none 0 0] 184)
  simp only [World.size_alloc] at h2 h3
  have h4 : Has (((w.alloc (.cells #[(Value.int .i64) 0, (Value.int .i64) 0] 162)).alloc (.cells (tabA (n * 9) (fc (Ms.new n))) 181)).alloc (.cells #[.slice (some ⟨w.heap.size + 1, 0, none⟩) n n, .slice none 0 0] 184))
      (row 3 1 (.slice none 0 0) 0 (ints (List.range' (n - 0) 0).reverse) * (blk (w.heap.size + 1 + 1) #[.slice (some ⟨w.heap.size + 1, 0, none⟩) n n, .slice none 0 0] 184 * (blk (w.heap.size + 1) (tabA (n * 9) (fc (Ms.new n))) 181 * (blk w.heap.size #[(Value.int .i64) 0, (Value.int .i64) 0] 162 * R)))) :=
    Has.rowNil h3
  clear h1 h2 h3
  go_enter Try.func97, Try.ntmps97
  go_wp2
  go_loopw [18] (fun t wz => ∃ (j : Nat) (A : Option Addr) (c : Nat), j ≤ n ∧ t = (Value.int .i64) j ∧
      Has wz (row 3 1 (.slice A j c) j (ints (List.range' (n - j) j).reverse) * (blk (w.heap.size + 1 + 1) #[.slice (some ⟨w.heap.size + 1, 0, none⟩) n n, .slice A j c] 184 * (blk (w.heap.size + 1) (tabA (n * 9) (fc (Ms.new n))) 181 * (blk w.heap.size #[(Value.int .i64) 0, (Value.int .i64) 0] 162 * R)))) ∧ Ext w wz)
    (fun t _ => n - (intOf t).toNat)
  case atStart => exact ⟨0, none, 0, by omega, rfl, h4, x3⟩
  case round =>
    obtain ⟨j, A, c, hj, rfl, hz, hx⟩ := hrel
    clear h4 x3
    obtain ⟨c0, c1⟩ := hz.right.cells2
    have e0 := hz.right.lt
    have e1 := hz.right.right.right.lt
    by_cases hjn : j < n
    · have hp := Lib.hid (frees_part n j hjn)
      have hrow := hz.alloc (.cells #[(Value.int .i64) (((n - 1 - j : Nat)) : Int)] 3)
      have hv : (((n - 1 - j : Nat)) : Int) = (n : Int) - 1 - j := by omega
      rw [hv] at hrow
      go_wp2_with (at_builtin; refine wpList_append_has rfl _ _ 56 rfl Try.underlying56 elemI _ _ _ rfl hrow ⟨wr.heap.size, 0, none⟩ 1 1 [(Value.int .i64) ((n : Int) - 1 - j)] rfl rfl (news_one _ _ _) ?c1 ?c2 ?c3 ?_)
      case c1 => intro u hu; simp at hu; subst hu; rfl
      case c2 => unfold maxLen; omega
      case c3 => omega
      intro v' w2 h' x'
      obtain ⟨A', c', rfl⟩ := h'.rowForm
      have g0 := h'.right.lt
      have g1 := h'.right.free 1
      have g2 := h'.right.cells2.1
      have g3 := h'.right.cells2.2
      have h5 := (h'.p2.set 1 (.slice A' (j + 1) c')).p2
      go_wp2
      go_roundw
      case rel =>
        refine ⟨j + 1, A', c', by omega, by go_num, ?_, by (repeat (first | with_reducible assumption | with_reducible exact Ext.refl _ | with_reducible refine Ext.set ?_ _ _ | with_reducible refine Ext.alloc ?_ _ | with_reducible refine Ext.drew ?_ | with_reducible refine Ext.drewN ?_ _ | assumption | exact Ext.refl _ | refine Ext.alloc ?_ _ | refine Ext.set ?_ _ _ | refine Ext.drew ?_ | refine Ext.drewN ?_ _ | refine Ext.below ?_ (by assumption) | refine Ext.trans ?_ (by assumption)))⟩
        rw [hp.out]
        simpa [ints, hv] using h5
      case measure => simp [intOf]; omega
    · obtain rfl : j = n := by omega
      have h6 : Has wr (blk w.heap.size #[(Value.int .i64) 0, (Value.int .i64) 0] 162 * (blk (w.heap.size + 1 + 1) #[.slice (some ⟨w.heap.size + 1, 0, none⟩) j j, .slice A j c] 184 * (blk (w.heap.size + 1) (tabA (j * 9) (fc (Ms.new j))) 181 * (row 3 1 (.slice A j c) j (ints (List.range' (j - j) j).reverse) * R)))) := hz.eq (by (simp only [star_assoc, star_left_comm, star_comm]))
      have f0 := h6.free 0
      have f1 := h6.free 1
      obtain ⟨d0, d1⟩ := h6.cells2
      have h7 := (h6.set 0 ((Value.int .i64) 0)).set 1 ((Value.int .i64) 0)
      obtain ⟨k0, k1⟩ := h7.cells2
      have h8 := h7.right
      have hfr : (Ms.new j).frees = (List.range' (j - j) j).reverse := by rw [Ms.frees_new, Nat.sub_self]
      have HF := Lib.hid hfr
      clear hfr
      go_wp2
      refine bodyPost_ret (v := .tuple #[.pointer (some ⟨w.heap.size + 1 + 1, 0, none⟩), .agg #[(Value.int .i64) 0, (Value.int .i64) 0]]) (by simp [results, Try.results97, go_sem, d0, d1]) rfl ⟨w.heap.size + 1 + 1, w.heap.size + 1, .slice A j c, rfl, ?_, by (repeat (first | with_reducible assumption | with_reducible exact Ext.refl _ | with_reducible refine Ext.set ?_ _ _ | with_reducible refine Ext.alloc ?_ _ | with_reducible refine Ext.drew ?_ | with_reducible refine Ext.drewN ?_ _ | assumption | exact Ext.refl _ | refine Ext.alloc ?_ _ | refine Ext.set ?_ _ _ | refine Ext.drew ?_ | refine Ext.drewN ?_ _ | refine Ext.below ?_ (by assumption) | refine Ext.trans ?_ (by assumption)))⟩
      unfold framesIn
      rw [HF.out]
      have e : (List.range' (j - j) j).reverse.length = j := by simp
      rw [e]
      exact h8
end Go.Proofs.Ytndhgomikpokpaa
