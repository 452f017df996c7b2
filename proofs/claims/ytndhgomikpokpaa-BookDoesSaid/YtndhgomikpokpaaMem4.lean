/- The contract of NewMem. -/
import Derived.Test.YtndhgomikpokpaaMem3
namespace Go.Proofs.Ytndhgomikpokpaa
open Go.RowKit
set_option maxRecDepth 100000

def wordsZero : Value := .agg #[(Value.int .u64) 0, (Value.int .u64) 0, (Value.int .u64) 0, (Value.int .u64) 0, (Value.int .u64) 0, (Value.int .u64) 0, (Value.int .u64) 0, (Value.int .u64) 0]
theorem wordsInfo : (Try.prog.info? 70).map (fun i => (i.zero, i.size, i.bytes)) = some (some wordsZero, 8, 64) := by kernel_rfl
theorem boolInfo : (Try.prog.info? 4).map (fun i => (i.zero, i.size, i.bytes)) = some (some (Value.bool false), 1, 1) := by kernel_rfl
theorem mod8n (j : Nat) : j % 8 = 0 ∨ j % 8 = 1 ∨ j % 8 = 2 ∨ j % 8 = 3 ∨ j % 8 = 4 ∨ j % 8 = 5 ∨ j % 8 = 6 ∨ j % 8 = 7 := by omega
theorem wc_new (n j : Nat) : wordsZero.cells[j % 8]! = wc (Ms.new n) j := by
  unfold wc Ms.new
  dsimp only
  rcases mod8n j with h | h | h | h | h | h | h | h <;> rw [h] <;> rfl
theorem make_words (n : Nat) (hn : n ≤ 128) (w : World) : (Instr.makeSlice 71 (.int .i64 (n : Int)) (.int .i64 (n : Int))).run Try.prog w = .ok (.slice (some ⟨w.heap.size, 0, none⟩) n n) (w.alloc (.cells (tabA (n * 8) (wc (Ms.new n))) 70)) := by
  rw [run_make_tab (P := Try.prog) 71 70 wordsZero 8 64 Try.underlying71 wordsInfo rfl n (by omega) (by omega) w, tabA_ext (fun j _ => wc_new n j)]
theorem make_bools (n : Nat) (hn : n ≤ 128) (w : World) : (Instr.makeSlice 72 (.int .i64 (n : Int)) (.int .i64 (n : Int))).run Try.prog w = .ok (.slice (some ⟨w.heap.size, 0, none⟩) n n) (w.alloc (.cells (tabA n (tc (Ms.new n))) 4)) := by
  rw [run_make_tab (P := Try.prog) 72 4 (Value.bool false) 1 1 Try.underlying72 boolInfo rfl n (by omega) (by omega) w, Nat.mul_one, tabA_ext (f := fun j => (Value.bool false).cells[j % 1]!) (g := tc (Ms.new n)) (fun j _ => by
    show (Value.bool false).cells[j % 1]! = Value.bool false
    rw [Nat.mod_one]
    rfl)]
theorem newMem_any (n : Nat) (hn : n ≤ 128) (R : HProp) (w : World) (h : Has w R) :
    Calls Try.prog 98 #[.int .i64 n] w fun e w' => ∃ q gw gi vk, Res (.pointer (some ⟨q, 0, none⟩)) (memIn q gw gi vk (Ms.new n) R) w e w' := by
  have hW := make_words n hn
  have hB := make_bools n hn
  go_enter Try.func98, Try.ntmps98
  go_wp2
  go_region
  · have h1 := h.new (tabA (n * 8) (wc (Ms.new n))) 70
    have h2 := h1.new (tabA n (tc (Ms.new n))) 4
    have h3 := h2.new #[.slice (some ⟨w.heap.size, 0, none⟩) n n, .slice (some ⟨w.heap.size + 1, 0, none⟩) n n, .slice none 0 0, (Value.int .i64) 0] 74
    have x3 := (((Ext.refl w).alloc (.cells (tabA (n * 8) (wc (Ms.new n))) 70)).alloc (.cells (tabA n (tc (Ms.new n))) 4)).alloc (.cells #[.slice (some ⟨w.heap.size, 0, none⟩) n n, .slice (some ⟨w.heap.size + 1, 0, none⟩) n n, .slice none 0 0, (Value.int .i64) 0] 74)
    simp only [World.size_alloc] at h2 h3
    have h4 := Has.rowNil (e := 3) (size := 1) h3
    have h5 := h4.p2.in2.in3
    have h6 := h5.in2
    go_wp2
    go_ret
    exact ⟨_, w.heap.size, w.heap.size + 1, .slice none 0 0, rfl, h6.drew, x3.drew⟩
  · have h1 := h.new (tabA n (tc (Ms.new n))) 4
    have h2 := h1.new (tabA (n * 8) (wc (Ms.new n))) 70
    have h3 := h2.new #[.slice (some ⟨w.heap.size + 1, 0, none⟩) n n, .slice (some ⟨w.heap.size, 0, none⟩) n n, .slice none 0 0, (Value.int .i64) 0] 74
    have x3 := (((Ext.refl w).alloc (.cells (tabA n (tc (Ms.new n))) 4)).alloc (.cells (tabA (n * 8) (wc (Ms.new n))) 70)).alloc (.cells #[.slice (some ⟨w.heap.size + 1, 0, none⟩) n n, .slice (some ⟨w.heap.size, 0, none⟩) n n, .slice none 0 0, (Value.int .i64) 0] 74)
    simp only [World.size_alloc] at h2 h3
    have h4 := Has.rowNil (e := 3) (size := 1) h3
    have h5 := h4.p2.in2.in3
    go_wp2
    go_ret
    exact ⟨_, w.heap.size + 1, w.heap.size, .slice none 0 0, rfl, h5.drew, x3.drew⟩
end Go.Proofs.Ytndhgomikpokpaa
