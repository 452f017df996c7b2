/- Contracts of package frames: what each call does to a memory of frames. -/
import Derived.Test.YtndhgomikpokpaaMs
import Derived.Test.YtndhgomikpokpaaFrame
import Derived.Test.YtndhgomikpokpaaEq
import Derived.Lib.Hide
import Derived.WalkSpells
import Derived.Outline
import Derived.BigQuiet
namespace Go.Proofs.Ytndhgomikpokpaa
open Go.RowKit
set_option maxRecDepth 100000

/-- The cells of the tables: of each whether it is in use, and its words. -/
def fc (s : Ms) : Nat → Value := fun j => if j % 9 = 0 then Value.bool (s.tk (j / 9)) else (Value.int .u64) (s.wd (j / 9) (j % 9 - 1))
theorem fc_tk (s : Ms) (k : Nat) : fc s (k * 9) = Value.bool (s.tk k) := by
  unfold fc
  rw [if_pos (by omega), show k * 9 / 9 = k by omega]
theorem fc_wd (s : Ms) (k i : Nat) (h : i < 8) : fc s (k * 9 + 1 + i) = (Value.int .u64) (s.wd k i) := by
  unfold fc
  rw [if_neg (by omega), show (k * 9 + 1 + i) / 9 = k by omega, show (k * 9 + 1 + i) % 9 - 1 = i by omega]
/-- The ints of a list of numbers. -/
def ints (l : List Nat) : List Value := l.map fun (k : Nat) => (Value.int .i64) (k : Int)
/-- Frames at block p, its tables at block g, the free ones' slice vf. -/
def framesIn (p g : Nat) (vf : Value) (s : Ms) (R : HProp) : HProp :=
  blk p #[.slice (some ⟨g, 0, none⟩) s.n s.n, vf] 184 * (blk g (tabA (s.n * 9) (fc s)) 181 * (row 3 1 vf s.frees.length (ints s.frees) * R))
def framesAt (p : Nat) (s : Ms) : HProp := ex fun g => ex fun vf => framesIn p g vf s (lift True)
theorem star_true (R : HProp) : lift True * R = R := by
  funext h
  apply propext
  constructor
  · rintro ⟨h1, h2, d, rfl, ⟨_, rfl⟩, q⟩
    have : Hpm.union Hpm.emp h2 = h2 := by funext b; simp [Hpm.union, Hpm.emp]
    rw [this]
    exact q
  · intro q
    exact ⟨Hpm.emp, h, fun b => .inl rfl, by funext b; simp [Hpm.union, Hpm.emp], ⟨trivial, rfl⟩, q⟩
theorem framesAt_open {p : Nat} {s : Ms} {R : HProp} {w : World} (h : Has w (framesAt p s * R)) : ∃ g vf, Has w (framesIn p g vf s R) := by
  unfold framesAt at h
  obtain ⟨g, h⟩ := has_ex_star.1 h
  obtain ⟨vf, h⟩ := has_ex_star.1 h
  refine ⟨g, vf, ?_⟩
  unfold framesIn at h ⊢
  simpa only [star_assoc, star_true] using h
theorem framesAt_shut {p g : Nat} {vf : Value} {s : Ms} {R : HProp} {w : World} (h : Has w (framesIn p g vf s R)) : Has w (framesAt p s * R) := by
  unfold framesAt
  refine has_ex_star.2 ⟨g, has_ex_star.2 ⟨vf, ?_⟩⟩
  unfold framesIn at h ⊢
  simpa only [star_assoc, star_true] using h

theorem has_no {s : Ms} {k : Int} (h : ¬ (0 ≤ k ∧ k < s.n)) : s.has k = false := by
  unfold Ms.has
  by_cases h0 : 0 ≤ k <;> by_cases h4 : k < s.n <;> simp [h0, h4]
  omega
theorem has_yes {s : Ms} {k : Nat} (h : k < s.n) : s.has k = s.tk k := by
  unfold Ms.has
  have h4 : (k : Int) < s.n := by omega
  simp [h]

theorem taken_any (p g : Nat) (vf : Value) (s : Ms) (k : Int) (R : HProp) (w : World) (h : Has w (framesIn p g vf s R)) :
    Calls Try.prog 89 #[.pointer (some ⟨p, 0, none⟩), .int .i64 k] w (Same (Value.bool (s.has k)) w) := by
  obtain ⟨c0, c1⟩ := h.cells2
  by_cases h0 : 0 ≤ k
  · by_cases h4 : k < s.n
    · obtain ⟨k, rfl⟩ := Int.eq_ofNat_of_zero_le h0
      have hc := h.right.tabGet (j := k * 9) (by omega)
      rw [fc_tk] at hc
      have hy := Lib.hid (has_yes (s := s) (k := k) (by omega))
      have hg := h.right.lt
      go_enter Try.func89, Try.ntmps89
      go_wp2
      go_ret
      exact ⟨by rw [hy.out]; rfl, rfl⟩
    · have hy := Lib.hid (has_no (s := s) (k := k) (by omega))
      go_enter Try.func89, Try.ntmps89
      go_wp2
      go_ret
      exact ⟨by rw [hy.out]; rfl, rfl⟩
  · have hy := Lib.hid (has_no (s := s) (k := k) (by omega))
    go_enter Try.func89, Try.ntmps89
    go_wp2
    go_ret
    exact ⟨by rw [hy.out]; rfl, rfl⟩

/-- Where a word stands; nil: nowhere. -/
def wordAt (s : Ms) (g : Nat) (k i : Int) : Value := if s.hasW k i then .pointer (some ⟨g, k.toNat * 9 + 1 + i.toNat, none⟩) else .pointer none
theorem hasW_iff {s : Ms} {k i : Int} : s.hasW k i = true ↔ s.has k = true ∧ 0 ≤ i ∧ i < 8 := by
  unfold Ms.hasW
  simp
theorem word_any (p g : Nat) (vf : Value) (s : Ms) (k i : Int) (R : HProp) (w : World) (h : Has w (framesIn p g vf s R)) :
    Calls Try.prog 114 #[.pointer (some ⟨p, 0, none⟩), .int .i64 k, .int .i64 i] w (Same (wordAt s g k i) w) := by
  obtain ⟨c0, c1⟩ := h.cells2
  cases hk : s.has k with
  | false =>
    have hy := Lib.hid (show wordAt s g k i = .pointer none by unfold wordAt Ms.hasW; rw [hk]; rfl)
    go_enter Try.func114, Try.ntmps114
    go_wp2_with (go_at_call 89; refine (taken_any p g vf s _ _ _ h).mono ?_; rintro e w' ⟨rfl, rfl⟩)
    go_ret
    exact ⟨by rw [hy.out]; rfl, rfl⟩
  | true =>
    by_cases i0 : i < 0
    · have hy := Lib.hid (show wordAt s g k i = .pointer none by unfold wordAt Ms.hasW; rw [if_neg]; simp; omega)
      go_enter Try.func114, Try.ntmps114
      go_wp2_with (go_at_call 89; refine (taken_any p g vf s _ _ _ h).mono ?_; rintro e w' ⟨rfl, rfl⟩)
      go_ret
      exact ⟨by rw [hy.out]; rfl, rfl⟩
    by_cases i8 : 8 ≤ i
    · have hy := Lib.hid (show wordAt s g k i = .pointer none by unfold wordAt Ms.hasW; rw [if_neg]; simp; omega)
      go_enter Try.func114, Try.ntmps114
      go_wp2_with (go_at_call 89; refine (taken_any p g vf s _ _ _ h).mono ?_; rintro e w' ⟨rfl, rfl⟩)
      go_ret
      exact ⟨by rw [hy.out]; rfl, rfl⟩
    have hk' := Ms.has_iff.1 hk
    obtain ⟨k0, k1, _⟩ := hk'
    obtain ⟨k, rfl⟩ := Int.eq_ofNat_of_zero_le k0
    obtain ⟨i, rfl⟩ := Int.eq_ofNat_of_zero_le (show 0 ≤ i by omega)
    have hy := Lib.hid (show wordAt s g k i = .pointer (some ⟨g, k * 9 + 1 + i, none⟩) by unfold wordAt; rw [if_pos (hasW_iff.2 ⟨hk, by omega, by omega⟩)]; simp)
    have hg := h.right.lt
    go_enter Try.func114, Try.ntmps114
    go_wp2_with (go_at_call 89; refine (taken_any p g vf s _ _ _ h).mono ?_; rintro e w' ⟨rfl, rfl⟩)
    go_ret
    exact ⟨by rw [hy.out]; rfl, rfl⟩

def loadV (s : Ms) (k i : Int) : Int := if s.hasW k i then s.wd k.toNat i.toNat else 0
theorem word_cell {p g : Nat} {vf : Value} {s : Ms} {k i : Int} {R : HProp} {w : World} (h : Has w (framesIn p g vf s R)) (hw : s.hasW k i = true) :
    w.cell? ⟨g, k.toNat * 9 + 1 + i.toNat, none⟩ = some ((Value.int .u64) (s.wd k.toNat i.toNat)) := by
  obtain ⟨hk, i0, i8⟩ := hasW_iff.1 hw
  obtain ⟨k0, k1, _⟩ := Ms.has_iff.1 hk
  rw [h.right.tabGet (by omega), fc_wd _ _ _ (by omega)]
theorem fc_setW (s : Ms) (k i : Nat) (v : Int) (hi : i < 8) (j : Nat) : fput (fc s) (k * 9 + 1 + i) ((Value.int .u64) v) j = fc (s.setW k i v) j := by
  unfold fput fc Ms.setW
  dsimp only
  by_cases h : j = k * 9 + 1 + i
  · subst h
    rw [if_pos rfl, if_neg (by omega), show (k * 9 + 1 + i) / 9 = k by omega, show (k * 9 + 1 + i) % 9 - 1 = i by omega, if_pos ⟨rfl, rfl⟩]
  · rw [if_neg h]
    by_cases h9 : j % 9 = 0
    · rw [if_pos h9, if_pos h9]
    · rw [if_neg h9, if_neg h9, if_neg (by omega)]
theorem framesIn_setW {p g : Nat} {vf : Value} {s : Ms} {k i : Nat} {R : HProp} {w : World} (h : Has w (framesIn p g vf s R)) (hi : i < 8) (v : Int) :
    Has (w.setCell ⟨g, k * 9 + 1 + i, none⟩ ((Value.int .u64) v)) (framesIn p g vf (s.setW k i v) R) :=
  ((h.p2.tabSet _ _).tabExt fun j _ => fc_setW s k i v hi j).p2
theorem load_any (p g : Nat) (vf : Value) (s : Ms) (k i : Int) (R : HProp) (w : World) (h : Has w (framesIn p g vf s R)) :
    Calls Try.prog 71 #[.pointer (some ⟨p, 0, none⟩), .int .i64 k, .int .i64 i] w (Same (.tuple #[(Value.int .u64) (loadV s k i), Value.bool (s.hasW k i)]) w) := by
  cases hw : s.hasW k i with
  | true =>
    have hc := word_cell h hw
    have hy := Lib.hid (show loadV s k i = s.wd k.toNat i.toNat by unfold loadV; rw [if_pos hw])
    have hp : wordAt s g k i = .pointer (some ⟨g, k.toNat * 9 + 1 + i.toNat, none⟩) := by unfold wordAt; rw [if_pos hw]
    clear hw
    generalize k.toNat * 9 + 1 + i.toNat = o at *
    generalize s.wd k.toNat i.toNat = x at *
    have hg := h.right.lt
    go_enter Try.func71, Try.ntmps71
    go_wp2_with (go_at_call 114; refine (word_any p g vf s _ _ _ _ h).mono ?_; rintro e w' ⟨rfl, rfl⟩)
    exact bodyPost_ret (v := .tuple #[(Value.int .u64) x, Value.bool true]) (by simp [results, Try.results71, go_sem]) rfl ⟨by rw [hy.out], rfl⟩
  | false =>
    have hy := Lib.hid (show loadV s k i = 0 by unfold loadV; rw [hw]; rfl)
    have hp : wordAt s g k i = .pointer none := by unfold wordAt; rw [hw]; rfl
    clear hw
    go_enter Try.func71, Try.ntmps71
    go_wp2_with (go_at_call 114; refine (word_any p g vf s _ _ _ _ h).mono ?_; rintro e w' ⟨rfl, rfl⟩)
    exact bodyPost_ret (v := .tuple #[(Value.int .u64) 0, Value.bool false]) (by simp [results, Try.results71, go_sem]) rfl ⟨by rw [hy.out], rfl⟩
def storeS (s : Ms) (k i : Int) (v : Int) : Ms := if s.hasW k i then s.setW k.toNat i.toNat v else s
theorem store_any (p g : Nat) (vf : Value) (s : Ms) (k i v : Int) (R : HProp) (w : World) (h : Has w (framesIn p g vf s R)) :
    Calls Try.prog 50 #[.pointer (some ⟨p, 0, none⟩), .int .i64 k, .int .i64 i, .int .u64 v] w (Res (Value.bool (s.hasW k i)) (framesIn p g vf (storeS s k i v) R) w) := by
  cases hw : s.hasW k i with
  | true =>
    have hc := word_cell h hw
    have h2 := framesIn_setW (k := k.toNat) (i := i.toNat) h (by have := (hasW_iff.1 hw).2; omega) v
    have hy := Lib.hid (show storeS s k i v = s.setW k.toNat i.toNat v by unfold storeS; rw [if_pos hw])
    have hp : wordAt s g k i = .pointer (some ⟨g, k.toNat * 9 + 1 + i.toNat, none⟩) := by unfold wordAt; rw [if_pos hw]
    clear hw
    generalize k.toNat * 9 + 1 + i.toNat = o at *
    have hf := h.right.free o
    have hg := h.right.lt
    go_enter Try.func50, Try.ntmps50
    go_wp2_with (go_at_call 114; refine (word_any p g vf s _ _ _ _ h).mono ?_; rintro e w' ⟨rfl, rfl⟩)
    go_ret
    exact ⟨rfl, by rw [hy.out]; exact h2, by (repeat (first | with_reducible assumption | with_reducible exact Ext.refl _ | with_reducible refine Ext.set ?_ _ _ | with_reducible refine Ext.alloc ?_ _ | with_reducible refine Ext.drew ?_ | with_reducible refine Ext.drewN ?_ _ | assumption | exact Ext.refl _ | refine Ext.alloc ?_ _ | refine Ext.set ?_ _ _ | refine Ext.drew ?_ | refine Ext.drewN ?_ _ | refine Ext.below ?_ (by assumption) | refine Ext.trans ?_ (by assumption)))⟩
  | false =>
    have hy := Lib.hid (show storeS s k i v = s by unfold storeS; rw [hw]; rfl)
    have hp : wordAt s g k i = .pointer none := by unfold wordAt; rw [hw]; rfl
    clear hw
    go_enter Try.func50, Try.ntmps50
    go_wp2_with (go_at_call 114; refine (word_any p g vf s _ _ _ _ h).mono ?_; rintro e w' ⟨rfl, rfl⟩)
    go_ret
    exact ⟨rfl, by rw [hy.out]; exact h, Ext.refl _⟩
/-- Does Swap swap? -/
def swapB (s : Ms) (k i old : Int) : Bool := s.hasW k i && (s.wd k.toNat i.toNat == old)
def swapS (s : Ms) (k i old : Int) (v : Int) : Ms := if swapB s k i old then s.setW k.toNat i.toNat v else s
theorem swap_any (p g : Nat) (vf : Value) (s : Ms) (k i old v : Int) (R : HProp) (w : World) (h : Has w (framesIn p g vf s R)) :
    Calls Try.prog 104 #[.pointer (some ⟨p, 0, none⟩), .int .i64 k, .int .i64 i, .int .u64 old, .int .u64 v] w (Res (Value.bool (swapB s k i old)) (framesIn p g vf (swapS s k i old v) R) w) := by
  cases hw : s.hasW k i with
  | true =>
    have hc := word_cell h hw
    have h2 := framesIn_setW (k := k.toNat) (i := i.toNat) h (by have := (hasW_iff.1 hw).2; omega) v
    have hp : wordAt s g k i = .pointer (some ⟨g, k.toNat * 9 + 1 + i.toNat, none⟩) := by unfold wordAt; rw [if_pos hw]
    have hs : swapB s k i old = (s.wd k.toNat i.toNat == old) := by unfold swapB; rw [hw]; rfl
    clear hw
    generalize hx : s.wd k.toNat i.toNat = x at *
    clear hx
    have hf := h.right.free (k.toNat * 9 + 1 + i.toNat)
    have hg := h.right.lt
    generalize k.toNat * 9 + 1 + i.toNat = o at *
    cases he : (x == old) with
    | true =>
      have hy := Lib.hid (show swapS s k i old v = s.setW k.toNat i.toNat v by unfold swapS; rw [hs, he]; rfl)
      have hz := Lib.hid (hs.trans he)
      clear hs
      go_enter Try.func104, Try.ntmps104
      go_wp2_with (go_at_call 114; refine (word_any p g vf s _ _ _ _ h).mono ?_; rintro e w' ⟨rfl, rfl⟩)
      go_ret
      exact ⟨by rw [hz.out]; rfl, by rw [hy.out]; exact h2, by (repeat (first | with_reducible assumption | with_reducible exact Ext.refl _ | with_reducible refine Ext.set ?_ _ _ | with_reducible refine Ext.alloc ?_ _ | with_reducible refine Ext.drew ?_ | with_reducible refine Ext.drewN ?_ _ | assumption | exact Ext.refl _ | refine Ext.alloc ?_ _ | refine Ext.set ?_ _ _ | refine Ext.drew ?_ | refine Ext.drewN ?_ _ | refine Ext.below ?_ (by assumption) | refine Ext.trans ?_ (by assumption)))⟩
    | false =>
      have hy := Lib.hid (show swapS s k i old v = s by unfold swapS; rw [hs, he]; rfl)
      have hz := Lib.hid (hs.trans he)
      clear hs
      go_enter Try.func104, Try.ntmps104
      go_wp2_with (go_at_call 114; refine (word_any p g vf s _ _ _ _ h).mono ?_; rintro e w' ⟨rfl, rfl⟩)
      go_ret
      exact ⟨by rw [hz.out]; rfl, by rw [hy.out]; exact h, Ext.refl _⟩
  | false =>
    have hz := Lib.hid (show swapB s k i old = false by unfold swapB; rw [hw]; rfl)
    have hy := Lib.hid (show swapS s k i old v = s by unfold swapS; rw [hz.out]; rfl)
    have hp : wordAt s g k i = .pointer none := by unfold wordAt; rw [hw]; rfl
    clear hw
    go_enter Try.func104, Try.ntmps104
    go_wp2_with (go_at_call 114; refine (word_any p g vf s _ _ _ _ h).mono ?_; rintro e w' ⟨rfl, rfl⟩)
    go_ret
    exact ⟨by rw [hz.out]; rfl, by rw [hy.out]; exact h, Ext.refl _⟩
theorem free_any (p g : Nat) (vf : Value) (s : Ms) (R : HProp) (w : World) (h : Has w (framesIn p g vf s R)) :
    Calls Try.prog 68 #[.pointer (some ⟨p, 0, none⟩)] w (Same ((Value.int .i64) (s.frees.length : Nat)) w) := by
  obtain ⟨A, c, rfl⟩ := h.right.right.rowForm
  obtain ⟨c0, c1⟩ := h.cells2
  go_enter Try.func68, Try.ntmps68
  go_wp2
  go_ret
  exact ⟨rfl, rfl⟩
end Go.Proofs.Ytndhgomikpokpaa
