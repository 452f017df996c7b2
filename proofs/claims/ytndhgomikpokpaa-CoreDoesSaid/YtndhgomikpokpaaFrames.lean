/- Contracts of package frames: what each call does to a memory of frames. -/
import Derived.Test.YtndhgomikpokpaaMs
import Derived.Test.YtndhgomikpokpaaFrame
import Derived.Test.YtndhgomikpokpaaEq
import Derived.Lib.Hide
import Derived.WalkSpells
import Derived.Outline
import Derived.BigQuiet
namespace Go.Proofs.Ytndhgomikpokpaa
open Go.RowKit
set_option maxRecDepth 100000

/-- The cells of the tables: of each whether it is in use, and its words. -/
def fc (s : Ms) : Nat → Value := fun j => if j % 9 = 0 then Value.bool (s.tk (j / 9)) else (Value.int .u64) (s.wd (j / 9) (j % 9 - 1))
theorem fc_tk (s : Ms) (k : Nat) : fc s (k * 9) = Value.bool (s.tk k) := by
  unfold fc
  rw [if_pos (by omega), show k * 9 / 9 = k by omega]
theorem fc_wd (s : Ms) (k i : Nat) (h : i < 8) : fc s (k * 9 + 1 + i) = (Value.int .u64) (s.wd k i) := by
  unfold fc
  rw [if_neg (by omega), show (k * 9 + 1 + i) / 9 = k by omega, show (k * 9 + 1 + i) % 9 - 1 = i by omega]
/-- The ints of a list of numbers. -/
def ints (l : List Nat) : List Value := l.map fun (k : Nat) => (Value.int .i64) (k : Int)
/-- Frames at block p, its tables at block g, the free ones' slice vf. -/
def framesIn (p g : Nat) (vf : Value) (s : Ms) (R : HProp) : HProp :=
  blk p #[.slice (some ⟨g, 0, none⟩) s.n s.n, vf] 184 * (blk g (tabA (s.n * 9) (fc s)) 181 * (row 3 1 vf s.frees.length (ints s.frees) * R))
def framesAt (p : Nat) (s : Ms) : HProp := ex fun g => ex fun vf => framesIn p g vf s (lift True)
theorem star_true (R : HProp) : lift True * R = R := by
  funext h
  apply propext
  constructor
  · rintro ⟨h1, h2, d, rfl, ⟨_, rfl⟩, q⟩
    have : Hpm.union Hpm.emp h2 = h2 := by funext b; simp [Hpm.union, Hpm.emp]
    rw [this]
    exact q
  · intro q
    exact ⟨Hpm.emp, h, fun b => .inl rfl, by funext b; simp [Hpm.union, Hpm.emp], ⟨trivial, rfl⟩, q⟩
theorem framesAt_open {p : Nat} {s : Ms} {R : HProp} {w : World} (h : Has w (framesAt p s * R)) : ∃ g vf, Has w (framesIn p g vf s R) := by
  unfold framesAt at h
  obtain ⟨g, h⟩ := has_ex_star.1 h
  obtain ⟨vf, h⟩ := has_ex_star.1 h
  refine ⟨g, vf, ?_⟩
  unfold framesIn at h ⊢
  simpa only [star_assoc, star_true] using h
theorem framesAt_shut {p g : Nat} {vf : Value} {s : Ms} {R : HProp} {w : World} (h : Has w (framesIn p g vf s R)) : Has w (framesAt p s * R) := by
  unfold framesAt
  refine has_ex_star.2 ⟨g, has_ex_star.2 ⟨vf, ?_⟩⟩
  unfold framesIn at h ⊢
  simpa only [star_assoc, star_true] using h

theorem has_no {s : Ms} {k : Int} (h : ¬ (0 ≤ k ∧ k < s.n)) : s.has k = false := by
  unfold Ms.has
  by_cases h0 : 0 ≤ k <;> by_cases h4 : k < s.n <;> simp [h0, h4]
  omega
theorem has_yes {s : Ms} {k : Nat} (h : k < s.n) : s.has k = s.tk k := by
  unfold Ms.has
  have h4 : (k : Int) < s.n := by omega
  simp [h]

theorem taken_any (p g : Nat) (vf : Value) (s : Ms) (k : Int) (R : HProp) (w : World) (h : Has w (framesIn p g vf s R)) :
    Calls Try.prog 89 #[.pointer (some ⟨p, 0, none⟩), .int .i64 k] w (Same (Value.bool (s.has k)) w) := by
  obtain ⟨c0, c1⟩ := h.cells2
  by_cases h0 : 0 ≤ k
  · by_cases h4 : k < s.n
    · obtain ⟨k, rfl⟩ := Int.eq_ofNat_of_zero_le h0
      have hc := h.right.tabGet (j := k * 9) (by omega)
      rw [fc_tk] at hc
      have hy := Lib.hid (has_yes (s := s) (k := k) (by omega))
      have hg := h.right.lt
      go_enter Try.func89, Try.ntmps89
      go_wp2
      go_ret
      exact ⟨by rw [hy.out]; rfl, rfl⟩
    · have hy := Lib.hid (has_no (s := s) (k := k) (by omega))
      go_enter Try.func89, Try.ntmps89
      go_wp2
      go_ret
      exact ⟨by rw [hy.out]; rfl, rfl⟩
  · have hy := Lib.hid (has_no (s := s) (k := k) (by omega))
    go_enter Try.func89, Try.ntmps89
    go_wp2
    go_ret
    exact ⟨by rw [hy.out]; rfl, rfl⟩

/-- Where a word stands; nil: nowhere. -/
def wordAt (s : Ms) (g : Nat) (k i : Int) : Value := if s.hasW k i then .pointer (some ⟨g, k.toNat * 9 + 1 + i.toNat, none⟩) else .pointer none
theorem hasW_iff {s : Ms} {k i : Int} : s.hasW k i = true ↔ s.has k = true ∧ 0 ≤ i ∧ i < 8 := by
  unfold Ms.hasW
  simp
theorem word_any (p g : Nat) (vf : Value) (s : Ms) (k i : Int) (R : HProp) (w : World) (h : Has w (framesIn p g vf s R)) :
    Calls Try.prog 114 #[.pointer (some ⟨p, 0, none⟩), .int .i64 k, .int .i64 i] w (Same (wordAt s g k i) w) := by
  obtain ⟨c0, c1⟩ := h.cells2
  cases hk : s.has k with
  | false =>
    have hy := Lib.hid (show wordAt s g k i = .pointer none by unfold wordAt Ms.hasW; rw [hk]; rfl)
    go_enter Try.func114, Try.ntmps114
    go_wp2_with (go_at_call 89; refine (taken_any p g vf s _ _ _ h).mono ?_; rintro e w' ⟨rfl, rfl⟩)
    go_ret
    exact ⟨by rw [hy.out]; rfl, rfl⟩
  | true =>
    by_cases i0 : i < 0
    · have hy := Lib.hid (show wordAt s g k i = .pointer none by unfold wordAt Ms.hasW; rw [if_neg]; simp; omega)
      go_enter Try.func114, Try.ntmps114
      go_wp2_with (go_at_call 89; refine (taken_any p g vf s _ _ _ h).mono ?_; rintro e w' ⟨rfl, rfl⟩)
      go_ret
      exact ⟨by rw [hy.out]; rfl, rfl⟩
    by_cases i8 : 8 ≤ i
    · have hy := Lib.hid (show wordAt s g k i = .pointer none by unfold wordAt Ms.hasW; rw [if_neg]; simp; omega)
      go_enter Try.func114, Try.ntmps114
      go_wp2_with (go_at_call 89; refine (taken_any p g vf s _ _ _ h).mono ?_; rintro e w' ⟨rfl, rfl⟩)
      go_ret
      exact ⟨by rw [hy.out]; rfl, rfl⟩
    have hk' := Ms.has_iff.1 hk
    obtain ⟨k0, k1, _⟩ := hk'
    obtain ⟨k, rfl⟩ := Int.eq_ofNat_of_zero_le k0
    obtain ⟨i, rfl⟩ := Int.eq_ofNat_of_zero_le (show 0 ≤ i by omega)
    have hy := Lib.hid (show wordAt s g k i = .pointer (some ⟨g, k * 9 + 1 + i, none⟩) by unfold wordAt; rw [if_pos (hasW_iff.2 ⟨hk, by omega, by omega⟩)]; simp)
    have hg := h.right.lt
    go_enter Try.func114, Try.ntmps114
    go_wp2_with (go_at_call 89; refine (taken_any p g vf s _ _ _ h).mono ?_; rintro e w' ⟨rfl, rfl⟩)
    go_ret
    exact ⟨by rw [hy.out]; rfl, rfl⟩

def loadV (s : Ms) (k i : Int) : Int := if s.hasW k i then s.wd k.toNat i.toNat else 0
theorem word_cell {p g : Nat} {vf : Value} {s : Ms} {k i : Int} {R : HProp} {w : World} (h : Has w (framesIn p g vf s R)) (hw : s.hasW k i = true) :
    w.cell? ⟨g, k.toNat * 9 + 1 + i.toNat, none⟩ = some ((Value.int .u64) (s.wd k.toNat i.toNat)) := by
  obtain ⟨hk, i0, i8⟩ := hasW_iff.1 hw
  obtain ⟨k0, k1, _⟩ := Ms.has_iff.1 hk
  rw [h.right.tabGet (by omega), fc_wd _ _ _ (by omega)]
theorem fc_setW (s : Ms) (k i : Nat) (v : Int) (hi : i < 8) (j : Nat) : fput (fc s) (k * 9 + 1 + i) ((Value.int .u64) v) j = fc (s.setW k i v) j := by
  unfold fput fc Ms.setW
  dsimp only
  by_cases h : j = k * 9 + 1 + i
  · subst h
    rw [if_pos rfl, if_neg (by omega), show (k * 9 + 1 + i) / 9 = k by omega, show (k * 9 + 1 + i) % 9 - 1 = i by omega, if_pos ⟨rfl, rfl⟩]
  · rw [if_neg h]
    by_cases h9 : j % 9 = 0
    · rw [if_pos h9, if_pos h9]
    · rw [if_neg h9, if_neg h9, if_neg (by omega)]
theorem framesIn_setW {p g : Nat} {vf : Value} {s : Ms} {k i : Nat} {R : HProp} {w : World} (h : Has w (framesIn p g vf s R)) (hi : i < 8) (v : Int) :
    Has (w.setCell ⟨g, k * 9 + 1 + i, none⟩ ((Value.int .u64) v)) (framesIn p g vf (s.setW k i v) R) :=
  ((h.p2.tabSet _ _).tabExt fun j _ => fc_setW s k i v hi j).p2
theorem load_any (p g : Nat) (vf : Value) (s : Ms) (k i : Int) (R : HProp) (w : World) (h : Has w (framesIn p g vf s R)) :
    Calls Try.prog 71 #[.pointer (some ⟨p, 0, none⟩), .int .i64 k, .int .i64 i] w (Same (.tuple #[(Value.int .u64) (loadV s k i), Value.bool (s.hasW k i)]) w) := by
  cases hw : s.hasW k i with
  | true =>
    have hc := word_cell h hw
    have hy := Lib.hid (show loadV s k i = s.wd k.toNat i.toNat by unfold loadV; rw [if_pos hw])
    have hp : wordAt s g k i = .pointer (some ⟨g, k.toNat * 9 + 1 + i.toNat, none⟩) := by unfold wordAt; rw [if_pos hw]
    clear hw
    generalize k.toNat * 9 + 1 + i.toNat = o at *
    generalize s.wd k.toNat i.toNat = x at *
    have hg := h.right.lt
    go_enter Try.func71, Try.ntmps71
    go_wp2_with (go_at_call 114; refine (word_any p g vf s _ _ _ _ h).mono ?_; rintro e w' ⟨rfl, rfl⟩)
    exact bodyPost_ret (v := .tuple #[(Value.int .u64) x, Value.bool true]) (by simp [results, Try.results71, go_sem]) rfl ⟨by rw [hy.out], rfl⟩
  | false =>
    have hy := Lib.hid (show loadV s k i = 0 by unfold loadV; rw [hw]; rfl)
    have hp : wordAt s g k i = .pointer none := by unfold wordAt; rw [hw]; rfl
    clear hw
    go_enter Try.func71, Try.ntmps71
    go_wp2_with (go_at_call 114; refine (word_any p g vf s _ _ _ _ h).mono ?_; rintro e w' ⟨rfl, rfl⟩)
    exact bodyPost_ret (v := .tuple #[(Value.int .u64) 0, Value.bool false]) (by simp [results, Try.results71, go_sem]) rfl ⟨by rw [hy.out], rfl⟩
def storeS (s : Ms) (k i : Int) (v : Int) : Ms := if s.hasW k i then s.setW k.toNat i.toNat v else s
theorem store_any (p g : Nat) (vf : Value) (s : Ms) (k i v : Int) (R : HProp) (w : World) (h : Has w (framesIn p g vf s R)) :
    Calls Try.prog 50 #[.pointer (some ⟨p, 0, none⟩), .int .i64 k, .int .i64 i, .int .u64 v] w (Res (Value.bool (s.hasW k i)) (framesIn p g vf (storeS s k i v) R) w) := by
  cases hw : s.hasW k i with
  | true =>
    have hc := word_cell h hw
    have h2 := framesIn_setW (k := k.toNat) (i := i.toNat) h (by have := (hasW_iff.1 hw).2; omega) v
    have hy := Lib.hid (show storeS s k i v = s.setW k.toNat i.toNat v by unfold storeS; rw [if_pos hw])
    have hp : wordAt s g k i = .pointer (some ⟨g, k.toNat * 9 + 1 + i.toNat, none⟩) := by unfold wordAt; rw [if_pos hw]
    clear hw
    generalize k.toNat * 9 + 1 + i.toNat = o at *
    have hf := h.right.free o
    have hg := h.right.lt
    go_enter Try.func50, Try.ntmps50
    go_wp2_with (go_at_call 114; refine (word_any p g vf s _ _ _ _ h).mono ?_; rintro e w' ⟨rfl, rfl⟩)
    go_ret
    exact ⟨rfl, by rw [hy.out]; exact h2, by (repeat (first | with_reducible assumption | with_reducible exact Ext.refl _ | with_reducible refine Ext.set ?_ _ _ | with_reducible refine Ext.alloc ?_ _ | with_reducible refine Ext.drew ?_ | with_reducible refine Ext.drewN ?_ _ | assumption | exact Ext.refl _ | refine Ext.alloc ?_ _ | refine Ext.set ?_ _ _ | refine Ext.drew ?_ | refine Ext.drewN ?_ _ | refine Ext.below ?_ (by assumption) | refine Ext.trans ?_ (by assumption)))⟩
  | false =>
    have hy := Lib.hid (show storeS s k i v = s by unfold storeS; rw [hw]; rfl)
    have hp : wordAt s g k i = .pointer none := by unfold wordAt; rw [hw]; rfl
    clear hw
    go_enter Try.func50, Try.ntmps50
    go_wp2_with (go_at_call 114; refine (word_any p g vf s _ _ _ _ h).mono ?_; rintro e w' ⟨rfl, rfl⟩)
    go_ret
    exact ⟨rfl, by rw [hy.out]; exact h, Ext.refl _⟩
/-- Does Swap swap? -/
def swapB (s : Ms) (k i old : Int) : Bool := s.hasW k i && (s.wd k.toNat i.toNat == old)
def swapS (s : Ms) (k i old : Int) (v : Int) : Ms := if swapB s k i old then s.setW k.toNat i.toNat v else s
theorem swap_any (p g : Nat) (vf : Value) (s : Ms) (k i old v : Int) (R : HProp) (w : World) (h : Has w (framesIn p g vf s R)) :
    Calls Try.prog 104 #[.pointer (some ⟨p, 0, none⟩), .int .i64 k, .int .i64 i, .int .u64 old, .int .u64 v] w (Res (Value.bool (swapB s k i old)) (framesIn p g vf (swapS s k i old v) R) w) := by
  cases hw : s.hasW k i with
  | true =>
    have hc := word_cell h hw
    have h2 := framesIn_setW (k := k.toNat) (i := i.toNat) h (by have := (hasW_iff.1 hw).2; omega) v
    have hp : wordAt s g k i = .pointer (some ⟨g, k.toNat * 9 + 1 + i.toNat, none⟩) := by unfold wordAt; rw [if_pos hw]
    have hs : swapB s k i old = (s.wd k.toNat i.toNat == old) := by unfold swapB; rw [hw]; rfl
    clear hw
    generalize hx : s.wd k.toNat i.toNat = x at *
    clear hx
    have hf := h.right.free (k.toNat * 9 + 1 + i.toNat)
    have hg := h.right.lt
    generalize k.toNat * 9 + 1 + i.toNat = o at *
    cases he : (x == old) with
    | true =>
      have hy := Lib.hid (show swapS s k i old v = s.setW k.toNat i.toNat v by unfold swapS; rw [hs, he]; rfl)
      have hz := Lib.hid (hs.trans he)
      clear hs
      go_enter Try.func104, Try.ntmps104
      go_wp2_with (go_at_call 114; refine (word_any p g vf s _ _ _ _ h).mono ?_; rintro e w' ⟨rfl, rfl⟩)
      go_ret
      exact ⟨by rw [hz.out]; rfl, by rw [hy.out]; exact h2, by (repeat (first | with_reducible assumption | with_reducible exact Ext.refl _ | with_reducible refine Ext.set ?_ _ _ | with_reducible refine Ext.alloc ?_ _ | with_reducible refine Ext.drew ?_ | with_reducible refine Ext.drewN ?_ _ | assumption | exact Ext.refl _ | refine Ext.alloc ?_ _ | refine Ext.set ?_ _ _ | refine Ext.drew ?_ | refine Ext.drewN ?_ _ | refine Ext.below ?_ (by assumption) | refine Ext.trans ?_ (by assumption)))⟩
    | false =>
      have hy := Lib.hid (show swapS s k i old v = s by unfold swapS; rw [hs, he]; rfl)
      have hz := Lib.hid (hs.trans he)
      clear hs
      go_enter Try.func104, Try.ntmps104
      go_wp2_with (go_at_call 114; refine (word_any p g vf s _ _ _ _ h).mono ?_; rintro e w' ⟨rfl, rfl⟩)
      go_ret
      exact ⟨by rw [hz.out]; rfl, by rw [hy.out]; exact h, Ext.refl _⟩
  | false =>
    have hz := Lib.hid (show swapB s k i old = false by unfold swapB; rw [hw]; rfl)
    have hy := Lib.hid (show swapS s k i old v = s by unfold swapS; rw [hz.out]; rfl)
    have hp : wordAt s g k i = .pointer none := by unfold wordAt; rw [hw]; rfl
    clear hw
    go_enter Try.func104, Try.ntmps104
    go_wp2_with (go_at_call 114; refine (word_any p g vf s _ _ _ _ h).mono ?_; rintro e w' ⟨rfl, rfl⟩)
    go_ret
    exact ⟨by rw [hz.out]; rfl, by rw [hy.out]; exact h, Ext.refl _⟩
theorem free_any (p g : Nat) (vf : Value) (s : Ms) (R : HProp) (w : World) (h : Has w (framesIn p g vf s R)) :
    Calls Try.prog 68 #[.pointer (some ⟨p, 0, none⟩)] w (Same ((Value.int .i64) (s.frees.length : Nat)) w) := by
  obtain ⟨A, c, rfl⟩ := h.right.right.rowForm
  obtain ⟨c0, c1⟩ := h.cells2
  go_enter Try.func68, Try.ntmps68
  go_wp2
  go_ret
  exact ⟨rfl, rfl⟩
end Go.Proofs.Ytndhgomikpokpaa

namespace Go.Proofs.Ytndhgomikpokpaa
open Go.RowKit
set_option maxRecDepth 100000

theorem ints_get {l : List Nat} {j k : Nat} (h : l[j]? = some k) : (ints l)[j]? = some ((Value.int .i64) (k : Int)) := by simp [ints, h]
theorem fc_take (s : Ms) (k : Nat) (j : Nat) :
    fput (fput (fput (fput (fput (fput (fput (fput (fput (fc s) (k * 9) (Value.bool true)) (k * 9 + 1) ((Value.int .u64) 0)) (k * 9 + 2) ((Value.int .u64) 0)) (k * 9 + 3) ((Value.int .u64) 0)) (k * 9 + 4) ((Value.int .u64) 0)) (k * 9 + 5) ((Value.int .u64) 0)) (k * 9 + 6) ((Value.int .u64) 0)) (k * 9 + 7) ((Value.int .u64) 0)) (k * 9 + 8) ((Value.int .u64) 0) j = fc (s.take k) j := by
  unfold fput fc Ms.take
  dsimp only
  unfold fput
  by_cases h : j / 9 = k
  · by_cases h0 : j % 9 = 0
    · rw [if_neg (by omega), if_neg (by omega), if_neg (by omega), if_neg (by omega), if_neg (by omega), if_neg (by omega), if_neg (by omega), if_neg (by omega), if_pos (by omega), if_pos h0, if_pos h]
    · rw [if_neg h0, if_neg h0, if_pos h]
      by_cases h8 : j = k * 9 + 8
      · rw [if_pos h8]
      by_cases h7 : j = k * 9 + 7
      · rw [if_neg h8, if_pos h7]
      by_cases h6 : j = k * 9 + 6
      · rw [if_neg h8, if_neg h7, if_pos h6]
      by_cases h5 : j = k * 9 + 5
      · rw [if_neg h8, if_neg h7, if_neg h6, if_pos h5]
      by_cases h4 : j = k * 9 + 4
      · rw [if_neg h8, if_neg h7, if_neg h6, if_neg h5, if_pos h4]
      by_cases h3 : j = k * 9 + 3
      · rw [if_neg h8, if_neg h7, if_neg h6, if_neg h5, if_neg h4, if_pos h3]
      by_cases h2 : j = k * 9 + 2
      · rw [if_neg h8, if_neg h7, if_neg h6, if_neg h5, if_neg h4, if_neg h3, if_pos h2]
      by_cases h1 : j = k * 9 + 1
      · rw [if_neg h8, if_neg h7, if_neg h6, if_neg h5, if_neg h4, if_neg h3, if_neg h2, if_pos h1]
      omega
  · rw [if_neg (by omega), if_neg (by omega), if_neg (by omega), if_neg (by omega), if_neg (by omega), if_neg (by omega), if_neg (by omega), if_neg (by omega), if_neg (by omega), if_neg h, if_neg h]
theorem take_any (p g : Nat) (vf : Value) (s : Ms) (k : Nat) (R : HProp) (w : World) (h : Has w (framesIn p g vf s R)) (hk : s.top = some k) (hn : k < s.n) :
    Calls Try.prog 64 #[.pointer (some ⟨p, 0, none⟩)] w fun e w' => ∃ vf', Res ((Value.int .i64) k) (framesIn p g vf' (s.take k) R) w e w' := by
  have hfr := Ms.frees_take s k hk
  obtain ⟨m, hm⟩ : ∃ m, s.frees.length = m + 1 := ⟨(s.take k).frees.length, by rw [← hfr]; simp⟩
  have hm' : (s.take k).frees.length = m := by rw [← hfr] at hm; simpa using hm
  have hlast : s.frees[m]? = some k := by rw [← hfr, ← hm']; simp
  have hints : (ints s.frees).take m = ints (s.take k).frees := by rw [← hfr, ← hm']; simp [ints]
  obtain ⟨c0, c1⟩ := h.cells2
  have e0 := h.lt
  have f1 := h.free 1
  have h1 : Has w (row 3 1 vf (m + 1) (ints s.frees) * (blk p #[.slice (some ⟨g, 0, none⟩) s.n s.n, vf] 184 * (blk g (tabA (s.n * 9) (fc s)) 181 * R))) := by
    have := h
    unfold framesIn at this
    rw [hm] at this
    exact this.eq (by (simp only [star_assoc, star_left_comm, star_comm]))
  obtain ⟨gf, cap, rfl, hcap, hcap2, hgf, hx⟩ := h1.rowHead
  have hx' := hx _ (ints_get hlast)
  have h2 := h1.rowPop.p2.set 1 (.slice (some ⟨gf, 0, none⟩) m cap)
  have e1 := h.right.lt
  have hm63 : m + 1 ≤ 9223372036854775807 := by unfold maxLen at hcap2; omega
  have h3 := h2.a2.p2
  have hg1 := h3.tabGet (j := k * 9) (by omega)
  have t1 := h3.tabGet (j := k * 9 + 1) (by omega)
  have z1 := h3.free (k * 9 + 1)
  have t2 := h3.tabGet (j := k * 9 + 2) (by omega)
  have z2 := h3.free (k * 9 + 2)
  have t3 := h3.tabGet (j := k * 9 + 3) (by omega)
  have z3 := h3.free (k * 9 + 3)
  have t4 := h3.tabGet (j := k * 9 + 4) (by omega)
  have z4 := h3.free (k * 9 + 4)
  have t5 := h3.tabGet (j := k * 9 + 5) (by omega)
  have z5 := h3.free (k * 9 + 5)
  have t6 := h3.tabGet (j := k * 9 + 6) (by omega)
  have z6 := h3.free (k * 9 + 6)
  have t7 := h3.tabGet (j := k * 9 + 7) (by omega)
  have z7 := h3.free (k * 9 + 7)
  have t8 := h3.tabGet (j := k * 9 + 8) (by omega)
  have z8 := h3.free (k * 9 + 8)
  have z0 := h3.free (k * 9)
  have h4 := ((((((((h3.tabSet (k * 9) (Value.bool true)).tabSet (k * 9 + 1) ((Value.int .u64) 0)).tabSet (k * 9 + 2) ((Value.int .u64) 0)).tabSet (k * 9 + 3) ((Value.int .u64) 0)).tabSet (k * 9 + 4) ((Value.int .u64) 0)).tabSet (k * 9 + 5) ((Value.int .u64) 0)).tabSet (k * 9 + 6) ((Value.int .u64) 0)).tabSet (k * 9 + 7) ((Value.int .u64) 0)).tabSet (k * 9 + 8) ((Value.int .u64) 0)
  go_enter Try.func64, Try.ntmps64
  go_wp2
  go_ret
  refine ⟨.slice (some ⟨gf, 0, none⟩) m cap, rfl, ?_, (((((((((((Ext.refl w).set _ _).set _ _).set _ _).set _ _).set _ _).set _ _).set _ _).set _ _).set _ _).set _ _)⟩
  have h5 := (h4.tabExt (f' := fc (s.take k)) fun j _ => fc_take s k j).p2.a1.in2
  unfold framesIn
  rw [hm', ← hints]
  exact h5
theorem take_none (p g : Nat) (vf : Value) (s : Ms) (R : HProp) (w : World) (h : Has w (framesIn p g vf s R)) (hk : s.top = none) :
    Calls Try.prog 64 #[.pointer (some ⟨p, 0, none⟩)] w (Same ((Value.int .i64) (-1)) w) := by
  have he : s.frees = [] := by rw [← Ms.frees_top] at hk; simpa using hk
  obtain ⟨c0, c1⟩ := h.cells2
  obtain ⟨A, c, rfl⟩ := h.right.right.rowForm
  have hn : s.frees.length = 0 := by rw [he]; rfl
  rw [hn] at c1
  go_enter Try.func64, Try.ntmps64
  go_wp2
  go_ret
  exact ⟨rfl, rfl⟩

theorem elemI : Elem Try.prog 3 ((Value.int .i64) 0) 1 8 := ⟨by kernel_rfl, rfl, by omega⟩
theorem fc_give (s : Ms) (k : Nat) (j : Nat) : fput (fc s) (k * 9) (Value.bool false) j = fc (s.give k) j := by
  unfold fput fc Ms.give
  dsimp only
  unfold fput
  by_cases h : j = k * 9
  · rw [if_pos h, if_pos (by omega), if_pos (by omega)]
  · rw [if_neg h]
    by_cases h0 : j % 9 = 0
    · rw [if_pos h0, if_pos h0, if_neg (by omega)]
    · rw [if_neg h0, if_neg h0]
theorem give_no (p g : Nat) (vf : Value) (s : Ms) (k : Int) (R : HProp) (w : World) (h : Has w (framesIn p g vf s R)) (hk : s.has k = false) :
    Calls Try.prog 51 #[.pointer (some ⟨p, 0, none⟩), .int .i64 k] w (Same (Value.bool false) w) := by
  go_enter Try.func51, Try.ntmps51
  go_wp2_with (go_at_call 89; refine (taken_any p g vf s _ _ _ h).mono ?_; rintro e w' ⟨rfl, rfl⟩)
  go_ret
  exact ⟨rfl, rfl⟩
theorem give_yes (p g : Nat) (vf : Value) (s : Ms) (k : Nat) (R : HProp) (w : World) (h : Has w (framesIn p g vf s R)) (hk : s.has k = true) (hlen : s.frees.length < 1000000) :
    Calls Try.prog 51 #[.pointer (some ⟨p, 0, none⟩), .int .i64 k] w fun e w' => ∃ vf', Res (Value.bool true) (framesIn p g vf' (s.give k) R) w e w' := by
  obtain ⟨k0, k1, _⟩ := Ms.has_iff.1 hk
  obtain ⟨c0, c1⟩ := h.cells2
  obtain ⟨A, c, rfl⟩ := h.right.right.rowForm
  have e0 := h.lt
  have e1 := h.right.lt
  have hc := h.right.tabGet (j := k * 9) (by omega)
  have hf := h.right.free (k * 9)
  have f1 := h.free 1
  have hne := h.ne
  have h2 := ((h.p2.tabSet (k * 9) (Value.bool false)).tabExt (f' := fc (s.give k)) fun j _ => fc_give s k j)
  have h3 : Has (w.setCell ⟨g, k * 9, none⟩ (Value.bool false)) (row 3 1 (.slice A s.frees.length c) s.frees.length (ints s.frees) * (blk p #[.slice (some ⟨g, 0, none⟩) s.n s.n, .slice A s.frees.length c] 184 * (blk g (tabA (s.n * 9) (fc (s.give k))) 181 * R))) := h2.eq (by (simp only [star_assoc, star_left_comm, star_comm]))
  have d0 := h3.right.cells2.1
  have d1 := h3.right.cells2.2
  have e2 := h3.right.lt
  have hrow := h3.alloc (.cells #[(Value.int .i64) k] 3)
  have hlen' : (s.give k).frees.length = s.frees.length + 1 := by rw [Ms.frees_give]; simp
  have hints : ints (s.give k).frees = ints s.frees ++ [(Value.int .i64) (k : Int)] := by rw [Ms.frees_give]; simp [ints]
  have hnews := news_one (w.setCell ⟨g, k * 9, none⟩ (Value.bool false)) ((Value.int .i64) k) 3
  rw [show (w.setCell ⟨g, k * 9, none⟩ (Value.bool false)).heap.size = w.heap.size by simp [World.setCell]] at hnews
  have HT := fun k' => taken_any p g _ s k' _ _ h
  generalize s.frees.length = m at *
  have hL := Lib.hid hlen'
  clear h h2 hlen'
  go_enter Try.func51, Try.ntmps51
  go_wp2_with (first | (go_at_call 89; refine (HT _).mono ?_; rintro e w' ⟨rfl, rfl⟩) | (at_builtin; refine wpList_append_has rfl _ _ 56 rfl Try.underlying56 elemI _ _ _ rfl hrow ⟨w.heap.size, 0, none⟩ 1 1 [(Value.int .i64) k] rfl rfl hnews ?c1 ?c2 ?c3 ?_))
  case c1 => intro u hu; simp at hu; subst hu; rfl
  case c2 => unfold maxLen; omega
  case c3 => omega
  intro v' w2 h' x'
  obtain ⟨A', c', rfl⟩ := h'.rowForm
  have g0 := h'.right.lt
  have g1 := h'.right.free 1
  have g2 := h'.right.cells2.1
  have g3 := h'.right.cells2.2
  have h5 := (h'.p2.set 1 (.slice A' (m + 1) c')).in2
  clear hrow d0 d1 e2 h3
  go_wp2
  go_ret
  refine ⟨.slice A' (m + 1) c', rfl, ?_, by (repeat (first | with_reducible assumption | with_reducible exact Ext.refl _ | with_reducible refine Ext.set ?_ _ _ | with_reducible refine Ext.alloc ?_ _ | with_reducible refine Ext.drew ?_ | with_reducible refine Ext.drewN ?_ _ | assumption | exact Ext.refl _ | refine Ext.alloc ?_ _ | refine Ext.set ?_ _ _ | refine Ext.drew ?_ | refine Ext.drewN ?_ _ | refine Ext.below ?_ (by assumption) | refine Ext.trans ?_ (by assumption)))⟩
  unfold framesIn
  rw [hL.out, hints]
  exact h5
end Go.Proofs.Ytndhgomikpokpaa

namespace Go.Proofs.Ytndhgomikpokpaa
open Go.RowKit
set_option maxRecDepth 100000

def tableZero : Value := .agg #[Value.bool false, (Value.int .u64) 0, (Value.int .u64) 0, (Value.int .u64) 0, (Value.int .u64) 0, (Value.int .u64) 0, (Value.int .u64) 0, (Value.int .u64) 0, (Value.int .u64) 0]
theorem tableInfo : (Try.prog.info? 181).map (fun i => (i.zero, i.size, i.bytes)) = some (some tableZero, 9, 72) := by kernel_rfl
theorem mod9 (j : Nat) : j % 9 = 0 ∨ j % 9 = 1 ∨ j % 9 = 2 ∨ j % 9 = 3 ∨ j % 9 = 4 ∨ j % 9 = 5 ∨ j % 9 = 6 ∨ j % 9 = 7 ∨ j % 9 = 8 := by omega
theorem fc_new (n j : Nat) : tableZero.cells[j % 9]! = fc (Ms.new n) j := by
  unfold fc Ms.new
  dsimp only
  rcases mod9 j with h | h | h | h | h | h | h | h | h <;> rw [h] <;> rfl
theorem frees_part (n k : Nat) (h : k < n) : (List.range' (n - (k + 1)) (k + 1)).reverse = (List.range' (n - k) k).reverse ++ [n - 1 - k] := by
  rw [Ms.range'_rev, show n - (k + 1) + 1 = n - k by omega, show n - (k + 1) = n - 1 - k by omega]
theorem new_no (n : Int) (w : World) (h : ¬ (0 ≤ n ∧ n ≤ 128)) :
    Calls Try.prog 97 #[.int .i64 n] w (Pure (.tuple #[.pointer none, .agg #[(Value.int .i64) 1, (Value.int .i64) (-1)]]) w) := by
  have b2 := below_of1 (Has.new (has_old w) #[(Value.int .i64) 1, (Value.int .i64) (-1)] 162).right ((Ext.refl w).alloc (.cells #[(Value.int .i64) 1, (Value.int .i64) (-1)] 162))
  by_cases h0 : n < 0
  · go_enter Try.func97, Try.ntmps97
    go_wp2
    exact bodyPost_ret (v := .tuple #[.pointer none, .agg #[(Value.int .i64) 1, (Value.int .i64) (-1)]]) (by simp [results, Try.results97, go_sem]) rfl ⟨rfl, b2⟩
  · have h8 : 128 < n := by omega
    go_enter Try.func97, Try.ntmps97
    go_wp2
    exact bodyPost_ret (v := .tuple #[.pointer none, .agg #[(Value.int .i64) 1, (Value.int .i64) (-1)]]) (by simp [results, Try.results97, go_sem]) rfl ⟨rfl, b2⟩

theorem make_tables (n : Nat) (hn : n ≤ 128) (w : World) : (Instr.makeSlice 182 (.int .i64 (n : Int)) (.int .i64 (n : Int))).run Try.prog w = .ok (.slice (some ⟨w.heap.size, 0, none⟩) n n) (w.alloc (.cells (tabA (n * 9) (fc (Ms.new n))) 181)) := by
  rw [run_make_tab (P := Try.prog) 182 181 tableZero 9 72 Try.underlying182 tableInfo rfl n (by omega) (by omega) w, tabA_ext (fun j _ => fc_new n j)]
theorem new_frames (n : Nat) (hn : n ≤ 128) (R : HProp) (w : World) (h : Has w R) :
    Calls Try.prog 97 #[.int .i64 n] w fun e w' => ∃ p g vf, Res (.tuple #[.pointer (some ⟨p, 0, none⟩), .agg #[(Value.int .i64) 0, (Value.int .i64) 0]]) (framesIn p g vf (Ms.new n) R) w e w' := by
  have hmk := make_tables n hn
  have h1 := h.new #[(Value.int .i64) 0, (Value.int .i64) 0] 162
  have h2 := h1.new (tabA (n * 9) (fc (Ms.new n))) 181
  have h3 := h2.new #[.slice (some ⟨w.heap.size + 1, 0, none⟩) n n, .slice none 0 0] 184
  have x3 := (((Ext.refl w).alloc (.cells #[(Value.int .i64) 0, (Value.int .i64) 0] 162)).alloc (.cells (tabA (n * 9) (fc (Ms.new n))) 181)).alloc (.cells #[.slice (some ⟨w.heap.size + 1, 0, none⟩) n n, .slice none 0 0] 184)
  simp only [World.size_alloc] at h2 h3
  have h4 : Has (((w.alloc (.cells #[(Value.int .i64) 0, (Value.int .i64) 0] 162)).alloc (.cells (tabA (n * 9) (fc (Ms.new n))) 181)).alloc (.cells #[.slice (some ⟨w.heap.size + 1, 0, none⟩) n n, .slice none 0 0] 184))
      (row 3 1 (.slice none 0 0) 0 (ints (List.range' (n - 0) 0).reverse) * (blk (w.heap.size + 1 + 1) #[.slice (some ⟨w.heap.size + 1, 0, none⟩) n n, .slice none 0 0] 184 * (blk (w.heap.size + 1) (tabA (n * 9) (fc (Ms.new n))) 181 * (blk w.heap.size #[(Value.int .i64) 0, (Value.int .i64) 0] 162 * R)))) :=
    Has.rowNil h3
  clear h1 h2 h3
  go_enter Try.func97, Try.ntmps97
  go_wp2
  go_loopw [18] (fun t wz => ∃ (j : Nat) (A : Option Addr) (c : Nat), j ≤ n ∧ t = (Value.int .i64) j ∧
      Has wz (row 3 1 (.slice A j c) j (ints (List.range' (n - j) j).reverse) * (blk (w.heap.size + 1 + 1) #[.slice (some ⟨w.heap.size + 1, 0, none⟩) n n, .slice A j c] 184 * (blk (w.heap.size + 1) (tabA (n * 9) (fc (Ms.new n))) 181 * (blk w.heap.size #[(Value.int .i64) 0, (Value.int .i64) 0] 162 * R)))) ∧ Ext w wz)
    (fun t _ => n - (intOf t).toNat)
  case atStart => exact ⟨0, none, 0, by omega, rfl, h4, x3⟩
  case round =>
    obtain ⟨j, A, c, hj, rfl, hz, hx⟩ := hrel
    clear h4 x3
    obtain ⟨c0, c1⟩ := hz.right.cells2
    have e0 := hz.right.lt
    have e1 := hz.right.right.right.lt
    by_cases hjn : j < n
    · have hp := Lib.hid (frees_part n j hjn)
      have hrow := hz.alloc (.cells #[(Value.int .i64) (((n - 1 - j : Nat)) : Int)] 3)
      have hv : (((n - 1 - j : Nat)) : Int) = (n : Int) - 1 - j := by omega
      rw [hv] at hrow
      go_wp2_with (at_builtin; refine wpList_append_has rfl _ _ 56 rfl Try.underlying56 elemI _ _ _ rfl hrow ⟨wr.heap.size, 0, none⟩ 1 1 [(Value.int .i64) ((n : Int) - 1 - j)] rfl rfl (news_one _ _ _) ?c1 ?c2 ?c3 ?_)
      case c1 => intro u hu; simp at hu; subst hu; rfl
      case c2 => unfold maxLen; omega
      case c3 => omega
      intro v' w2 h' x'
      obtain ⟨A', c', rfl⟩ := h'.rowForm
      have g0 := h'.right.lt
      have g1 := h'.right.free 1
      have g2 := h'.right.cells2.1
      have g3 := h'.right.cells2.2
      have h5 := (h'.p2.set 1 (.slice A' (j + 1) c')).p2
      go_wp2
      go_roundw
      case rel =>
        refine ⟨j + 1, A', c', by omega, by go_num, ?_, by (repeat (first | with_reducible assumption | with_reducible exact Ext.refl _ | with_reducible refine Ext.set ?_ _ _ | with_reducible refine Ext.alloc ?_ _ | with_reducible refine Ext.drew ?_ | with_reducible refine Ext.drewN ?_ _ | assumption | exact Ext.refl _ | refine Ext.alloc ?_ _ | refine Ext.set ?_ _ _ | refine Ext.drew ?_ | refine Ext.drewN ?_ _ | refine Ext.below ?_ (by assumption) | refine Ext.trans ?_ (by assumption)))⟩
        rw [hp.out]
        simpa [ints, hv] using h5
      case measure => simp [intOf]; omega
    · obtain rfl : j = n := by omega
      have h6 : Has wr (blk w.heap.size #[(Value.int .i64) 0, (Value.int .i64) 0] 162 * (blk (w.heap.size + 1 + 1) #[.slice (some ⟨w.heap.size + 1, 0, none⟩) j j, .slice A j c] 184 * (blk (w.heap.size + 1) (tabA (j * 9) (fc (Ms.new j))) 181 * (row 3 1 (.slice A j c) j (ints (List.range' (j - j) j).reverse) * R)))) := hz.eq (by (simp only [star_assoc, star_left_comm, star_comm]))
      have f0 := h6.free 0
      have f1 := h6.free 1
      obtain ⟨d0, d1⟩ := h6.cells2
      have h7 := (h6.set 0 ((Value.int .i64) 0)).set 1 ((Value.int .i64) 0)
      obtain ⟨k0, k1⟩ := h7.cells2
      have h8 := h7.right
      have hfr : (Ms.new j).frees = (List.range' (j - j) j).reverse := by rw [Ms.frees_new, Nat.sub_self]
      have HF := Lib.hid hfr
      clear hfr
      go_wp2
      refine bodyPost_ret (v := .tuple #[.pointer (some ⟨w.heap.size + 1 + 1, 0, none⟩), .agg #[(Value.int .i64) 0, (Value.int .i64) 0]]) (by simp [results, Try.results97, go_sem, d0, d1]) rfl ⟨w.heap.size + 1 + 1, w.heap.size + 1, .slice A j c, rfl, ?_, by (repeat (first | with_reducible assumption | with_reducible exact Ext.refl _ | with_reducible refine Ext.set ?_ _ _ | with_reducible refine Ext.alloc ?_ _ | with_reducible refine Ext.drew ?_ | with_reducible refine Ext.drewN ?_ _ | assumption | exact Ext.refl _ | refine Ext.alloc ?_ _ | refine Ext.set ?_ _ _ | refine Ext.drew ?_ | refine Ext.drewN ?_ _ | refine Ext.below ?_ (by assumption) | refine Ext.trans ?_ (by assumption)))⟩
      unfold framesIn
      rw [HF.out]
      have e : (List.range' (j - j) j).reverse.length = j := by simp
      rw [e]
      exact h8
end Go.Proofs.Ytndhgomikpokpaa
