/- The contract of slices.BinarySearchFunc at a book's mappings, and of a book's 'at'. -/
import Derived.Test.YtndhgomikpokpaaBkSl
import Derived.Test.YtndhgomikpokpaaBookM
import Derived.Test.YtndhgomikpokpaaPage
import Derived.Deep.Cut
namespace Go.Proofs.Ytndhgomikpokpaa
open Go.RowKit
set_option maxRecDepth 100000

/-- What a book's order says of a mapping and a page. -/
def cmpB (m : Mp) (p : Int) : Int := if over m p = true then 0 else wrap64 (m.page - p)
theorem bookCmp_any (m : Mp) (p : Int) (w : World) (hm : i64 m.page) (hp : i64 p) :
    Calls Try.prog 135 #[.agg #[(Value.int .i64) m.page, (Value.int .i64) m.size, (Value.int .i64) m.frame, (Value.int .i64) m.rights], .int .i64 p] w (Pure ((Value.int .i64) (cmpB m p)) w) := by
  have h1 := Has.new (has_old w) #[(Value.int .i64) m.page, (Value.int .i64) m.size, (Value.int .i64) m.frame, (Value.int .i64) m.rights] 27
  have x1 := (Ext.refl w).alloc (.cells #[(Value.int .i64) m.page, (Value.int .i64) m.size, (Value.int .i64) m.frame, (Value.int .i64) m.rights] 27)
  have HO := Lib.hid (fun W => over_page m p W hm hp)
  obtain ⟨c0, c1, c2, c3⟩ := h1.cells4
  have hlt := h1.lt
  cases ho : over m p with
  | true =>
    rw [ho] at HO
    have hy : Hid (cmpB m p = 0) := Lib.hid (by unfold cmpB; rw [if_pos ho])
    clear ho
    go_enter Try.func135, Try.ntmps135
    go_wp2_with (refine (HO.out _).mono ?_; rintro e w2 ⟨rfl, b2⟩)
    go_ret
    exact ⟨by rw [hy.out]; rfl, below_of1 (h1.below b2).right (x1.below b2)⟩
  | false =>
    rw [ho] at HO
    have hy : Hid (cmpB m p = wrap64 (m.page - p)) := Lib.hid (by unfold cmpB; rw [if_neg (by rw [ho]; simp)])
    clear ho
    go_enter Try.func135, Try.ntmps135
    go_wp2_with (refine (HO.out _).mono ?_; rintro e w2 ⟨rfl, b2⟩; have d0 := ((b2.cell (World.block_lt_of_cell? _ _ c0)).trans c0))
    go_ret
    exact ⟨by rw [hy.out]; rfl, below_of1 (h1.below b2).right (x1.below b2)⟩

theorem cmp_before {m : Mp} {p : Int} (hm : MapOk m) (hp : i64 p) (h0 : 0 ≤ p) : decide (cmpB m p < 0) = Bk.before p m := by
  have := hm.p0; have := hm.p1; have := hm.sp
  obtain ⟨_, h2⟩ := hp
  unfold cmpB Bk.before
  cases over m p with
  | true => rfl
  | false =>
    rw [if_neg (by simp), Bool.not_false, Bool.true_and]
    exact decide_eq_decide.2 (by unfold wrap64; omega)
theorem cmp_zero {m : Mp} {p : Int} (hm : MapOk m) (hp : i64 p) : (cmpB m p == 0) = over m p := by
  have := hm.p0; have := hm.p1; have := hm.sp
  obtain ⟨h1, h2⟩ := hp
  unfold cmpB
  cases ho : over m p with
  | true => rfl
  | false =>
    rw [if_neg (by simp)]
    have := over_false.1 ho
    exact beq_eq_false_iff_ne.2 (by unfold wrap64; omega)
theorem cmp_i64 {m : Mp} {p : Int} : i64 (cmpB m p) := by
  unfold cmpB i64 wrap64
  split <;> omega
/-- What stands at the place that was found says whether there is a mapping of the page. -/
theorem find_at {l : List Mp} (hl : Bk.Ok l) {p : Int} {i : Nat} (hi : 0 ≤ p → i = Bk.pos l p) : (Bk.find l p).isSome = if h : i < l.length then over l[i] p else false := by
  by_cases h0 : 0 ≤ p
  · obtain rfl := hi h0
    rw [Bk.find_head hl]
    cases hd : l.dropWhile (Bk.before p) with
    | nil =>
      have := Bk.drop_nil hd
      rw [dif_neg (by omega)]
      rfl
    | cons y r =>
      obtain ⟨h1, h2⟩ := Bk.drop_head hd
      rw [dif_pos h1, h2]
      show (if over y p = true then some y else none).isSome = _
      cases over y p <;> rfl
  · have hno : ∀ x ∈ l, over x p = false := fun x hx => over_false.2 (.inl (by have := (hl.chk x hx).p0; omega))
    have e1 : Bk.find l p = none := List.find?_eq_none.2 fun x hx => by rw [hno x hx]; simp
    rw [e1]
    split
    · rename_i h
      rw [hno _ (List.getElem_mem h)]
      rfl
    · rfl
theorem search_mp (l : List Mp) (hl : Bk.Ok l) (p : Int) (hp : i64 p) (A : Option Addr) (n c : Nat) (R : HProp) (w : World) (h : Has w (mrow (.slice A n c) l * R)) :
    Calls Try.prog 134 #[.slice A n c, .int .i64 p, .func (.func 135) #[] #[]] w
      (fun e w' => ∃ i : Nat, i ≤ l.length ∧ e = .returned (.tuple #[(Value.int .i64) i, Value.bool (Bk.find l p).isSome]) ∧ (0 ≤ p → i = Bk.pos l p) ∧ Below w.heap.size w w') := by
  obtain rfl := mrow_len h
  have hbig := mrow_small h
  have hL := hl.le
  have HL := Lib.hid hl
  clear hl
  go_enter Try.func134, Try.ntmps134
  go_wp2_with fail
  go_loopw [9, 10] (fun s9 s10 wr => ∃ i j : Nat, i ≤ j ∧ j ≤ l.length ∧ s9 = (Value.int .i64) i ∧ s10 = (Value.int .i64) j ∧ Below w.heap.size w wr ∧ Hid (0 ≤ p → i ≤ Bk.pos l p ∧ Bk.pos l p ≤ j)) (fun s9 s10 _ => (intOf s10).toNat - (intOf s9).toNat)
  case atStart => exact ⟨0, l.length, Nat.zero_le _, Nat.le_refl _, rfl, rfl, Below.refl _ _, fun _ => ⟨Nat.zero_le _, Bk.pos_le l p⟩⟩
  case round =>
    obtain ⟨i, j, hij, hj, rfl, rfl, BW, HP⟩ := hrel
    have hr := h.below BW
    have BW' := Lib.hid BW
    clear BW h
    by_cases hlt : i < j
    · go_upto_region 5 with fail
      obtain ⟨k, hk, hik, hkj⟩ : ∃ k : Nat, ((i : Int) + (j : Int)) / 2 = k ∧ i ≤ k ∧ k < j := ⟨(i + j) / 2, by omega, by omega, by omega⟩
      rw [hk]
      clear hk
      have hkl : k < l.length := by omega
      obtain ⟨b, rfl, hb, c0, c1, c2, c3⟩ := mrow_at hr hkl
      have hm := HL.out.chk l[k] (List.getElem_mem hkl)
      have hiff := Bk.pos_iff HL.out p hkl
      have hcb := fun h0 => cmp_before (p := p) hm hp h0
      have HC := Lib.hid (fun W => bookCmp_any l[k] p W ⟨by have := hm.p0; omega, by have := hm.p1; have := hm.sp; omega⟩ hp)
      have hci : i64 (cmpB l[k] p) := cmp_i64
      have HF := Lib.hid (show 0 ≤ p → decide (cmpB l[k] p < 0) = decide (k < Bk.pos l p) from fun h0 => (hcb h0).trans hiff)
      clear hm hiff hcb hr
      generalize l[k] = m at *
      generalize cmpB m p = v at *
      by_cases hv : v < 0
      · go_wp2_with (refine (HC.out _).mono ?_; rintro e w' ⟨rfl, hb'⟩)
        go_roundw
        case rel => exact ⟨k + 1, j, by omega, hj, by go_num, rfl, BW'.out.trans (hb'.mono BW'.out.size), fun h0 => ⟨by have := HF.out h0; rw [decide_eq_true hv] at this; have := of_decide_eq_true this.symm; omega, (HP.out h0).2⟩⟩
        case measure => simp [intOf]; omega
      · go_wp2_with (refine (HC.out _).mono ?_; rintro e w' ⟨rfl, hb'⟩)
        go_roundw
        case rel => exact ⟨i, k, by omega, by omega, rfl, rfl, BW'.out.trans (hb'.mono BW'.out.size), fun h0 => ⟨(HP.out h0).1, by have := HF.out h0; rw [decide_eq_false (by omega)] at this; have := of_decide_eq_false this.symm; omega⟩⟩
        case measure => simp [intOf]; omega
    · have hi : 0 ≤ p → i = Bk.pos l p := fun h0 => by have := HP.out h0; omega
      have hfa := find_at HL.out hi
      have HI := Lib.hid hi
      clear hi HP
      by_cases hil : i < l.length
      · rw [dif_pos hil] at hfa
        obtain ⟨b, rfl, hb, c0, c1, c2, c3⟩ := mrow_at hr hil
        have hm := HL.out.chk l[i] (List.getElem_mem hil)
        have HC := Lib.hid (fun W => bookCmp_any l[i] p W ⟨by have := hm.p0; omega, by have := hm.p1; have := hm.sp; omega⟩ hp)
        have hz := cmp_zero hm hp
        rw [← hfa] at hz
        have HZ := Lib.hid hz
        clear hm hr hz hfa
        generalize l[i] = m at *
        generalize cmpB m p = v at *
        go_wp2_with (refine (HC.out _).mono ?_; rintro e w' ⟨rfl, hb'⟩)
        exact bodyPost_ret (v := .tuple #[(Value.int .i64) i, Value.bool (v == 0)]) (by simp [results, Try.results134]) rfl ⟨i, by omega, by rw [HZ.out], HI.out, BW'.out.trans (hb'.mono BW'.out.size)⟩
      · rw [dif_neg hil] at hfa
        have HZ := Lib.hid hfa
        clear hfa hr
        go_wp2_with fail
        exact bodyPost_ret (v := .tuple #[(Value.int .i64) i, Value.bool false]) (by simp [results, Try.results134]) rfl ⟨i, by omega, by rw [HZ.out], HI.out, BW'.out⟩
/-- A book's 'at'. -/
def bookAt (B : Nat) (l : List Mp) : HProp := ex fun A => ex fun c => blk B #[.slice A l.length c] 155 * mrow (.slice A l.length c) l
theorem bookAt_open {B : Nat} {l : List Mp} {P : HProp} {w : World} (h : Has w (bookAt B l * P)) : ∃ A c, Has w (blk B #[.slice A l.length c] 155 * (mrow (.slice A l.length c) l * P)) := by
  unfold bookAt at h
  obtain ⟨A, h⟩ := has_ex_star.1 h
  obtain ⟨c, h⟩ := has_ex_star.1 h
  exact ⟨A, c, h.a1⟩
theorem bookAt_shut {B c : Nat} {A : Option Addr} {l : List Mp} {P : HProp} {w : World} (h : Has w (blk B #[.slice A l.length c] 155 * (mrow (.slice A l.length c) l * P))) : Has w (bookAt B l * P) := by
  unfold bookAt
  exact has_ex_star.2 ⟨A, has_ex_star.2 ⟨c, h.a2⟩⟩
theorem at_any (l : List Mp) (hl : Bk.Ok l) (p : Int) (hp : i64 p) (B : Nat) (R : HProp) (w : World) (h : Has w (bookAt B l * R)) :
    Calls Try.prog 91 #[.pointer (some ⟨B, 0, none⟩), .int .i64 p] w
      (fun e w' => ∃ i : Nat, i ≤ l.length ∧ e = .returned (.tuple #[(Value.int .i64) i, Value.bool (Bk.find l p).isSome]) ∧ (0 ≤ p → i = Bk.pos l p) ∧ Below w.heap.size w w') := by
  obtain ⟨A, c, h⟩ := bookAt_open h
  have c0 := h.cell 0
  have hlt := h.lt
  have HS := Lib.hid (search_mp l hl p hp A l.length c R w h.right)
  clear h
  go_enter Try.func91, Try.ntmps91
  go_wp2_with (refine HS.out.mono ?_; rintro e w' ⟨i, hi, rfl, hp, hb⟩)
  exact bodyPost_ret (v := .tuple #[(Value.int .i64) i, Value.bool (Bk.find l p).isSome]) (by simp [results, Try.results91]) rfl ⟨i, hi, rfl, hp, hb⟩
end Go.Proofs.Ytndhgomikpokpaa
