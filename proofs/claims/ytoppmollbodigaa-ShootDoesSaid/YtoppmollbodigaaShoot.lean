/- Contracts of package shoot: what each call of it does to a Shoot in memory. -/
import Derived.Test.YtoppmollbodigaaSep
import Derived.Test.YtoppmollbodigaaEq
import Derived.Lib.Hide
import Derived.WalkSpells
import Derived.Outline
namespace Go.Proofs.Ytoppmollbodigaa
open Go.RowKit
set_option maxRecDepth 100000

/-- A Shoot at block p: what was told, and who waits. -/
def shootAt (p : Nat) (m : Mp) (ws : Nat → Bool) : HProp :=
  blk p #[vi m.page, vi m.size, vi m.frame, vi m.rights, vb (ws 0), vb (ws 1), vb (ws 2), vb (ws 3)] 87

def overB (ws : Nat → Bool) : Bool := !ws 0 && (!ws 1 && (!ws 2 && !ws 3))

theorem over_any (p : Nat) (m : Mp) (ws : Nat → Bool) (R : HProp) (w : World) (h : Has w (shootAt p m ws * R)) :
    Calls Try.prog 19 #[.pointer (some ⟨p, 0, none⟩)] w fun e w' => e = .returned (vb (overB ws)) ∧ w = w' := by
  have c4 : w.cell? ⟨p, 4, none⟩ = some (vb (ws 0)) := h.cell 4
  have c5 : w.cell? ⟨p, 5, none⟩ = some (vb (ws 1)) := h.cell 5
  have c6 : w.cell? ⟨p, 6, none⟩ = some (vb (ws 2)) := h.cell 6
  have c7 : w.cell? ⟨p, 7, none⟩ = some (vb (ws 3)) := h.cell 7
  go_enter Try.func19, Try.ntmps19
  go_wp2
  go_ret
  exact ⟨rfl, rfl⟩

def waitsB (ws : Nat → Bool) (k : Int) : Bool := decide (0 ≤ k) && (decide (k < 4) && ws k.toNat)

theorem shoot_cell {p : Nat} {m : Mp} {ws : Nat → Bool} {R : HProp} {w : World} (h : Has w (shootAt p m ws * R)) (k : Nat) (hk : k < 4) : w.cell? ⟨p, 4 + k, none⟩ = some (vb (ws k)) := by
  rw [h.cell (4 + k)]
  match k, hk with
  | 0, _ | 1, _ | 2, _ | 3, _ => rfl

theorem waits_no {ws : Nat → Bool} {k : Int} (h : ¬ (0 ≤ k ∧ k < 4)) : waitsB ws k = false := by
  unfold waitsB
  by_cases h0 : 0 ≤ k <;> by_cases h4 : k < 4 <;> simp [h0, h4]
  omega
theorem waits_yes {ws : Nat → Bool} {k : Nat} (h : k < 4) : waitsB ws k = ws k := by
  unfold waitsB
  have h4 : (k : Int) < 4 := by omega
  simp [h4]

theorem waits_any (p : Nat) (m : Mp) (ws : Nat → Bool) (k : Int) (R : HProp) (w : World) (h : Has w (shootAt p m ws * R)) :
    Calls Try.prog 17 #[.pointer (some ⟨p, 0, none⟩), .int .i64 k] w fun e w' => e = .returned (vb (waitsB ws k)) ∧ w = w' := by
  by_cases h0 : 0 ≤ k
  · by_cases h4 : k < 4
    · obtain ⟨k, rfl⟩ := Int.eq_ofNat_of_zero_le h0
      have hc := shoot_cell h k (by omega)
      have hy := Lib.hid (waits_yes (ws := ws) (k := k) (by omega))
      go_enter Try.func17, Try.ntmps17
      go_wp2
      go_ret
      exact ⟨by rw [hy.out]; rfl, rfl⟩
    · have hy := Lib.hid (waits_no (ws := ws) (k := k) (by omega))
      go_enter Try.func17, Try.ntmps17
      go_wp2
      go_ret
      exact ⟨by rw [hy.out]; rfl, rfl⟩
  · have hy := Lib.hid (waits_no (ws := ws) (k := k) (by omega))
    go_enter Try.func17, Try.ntmps17
    go_wp2
    go_ret
    exact ⟨by rw [hy.out]; rfl, rfl⟩

theorem new_shoot (R : HProp) (w : World) (h : Has w R) :
    Calls Try.prog 14 #[] w fun e w' => ∃ p, e = .returned (.pointer (some ⟨p, 0, none⟩)) ∧ Has w' (shootAt p Mp.zero (fun _ => false) * R) ∧ Ext w w' := by
  have h1 := h.new #[vi 0, vi 0, vi 0, vi 0, vb false, vb false, vb false, vb false] 87
  go_enter Try.func14, Try.ntmps14
  go_wp2
  go_ret
  exact ⟨_, rfl, h1, (Ext.refl w).alloc _⟩

/-- What is waited for behind an Ack by core k. -/
def ackW (ws : Nat → Bool) (k : Nat) : Nat → Bool := fun i => if i = k then false else ws i
theorem ack_cells {p : Nat} {m : Mp} {ws : Nat → Bool} {R : HProp} {w : World} (h : Has w (shootAt p m ws * R)) (k : Nat) (hk : k < 4) (b : Bool) :
    Has (w.setCell ⟨p, 4 + k, none⟩ (vb b)) (shootAt p m (fun i => if i = k then b else ws i) * R) := by
  have h1 := h.set (4 + k) (vb b)
  match k, hk, h1 with
  | 0, _, h1 | 1, _, h1 | 2, _, h1 | 3, _, h1 => exact h1

theorem ack_yes (p : Nat) (m : Mp) (ws : Nat → Bool) (k : Int) (R : HProp) (w : World) (h : Has w (shootAt p m ws * R)) (hw : waitsB ws k = true) :
    Calls Try.prog 16 #[.pointer (some ⟨p, 0, none⟩), .int .i64 k] w (Res (.tuple #[m.val, vb true]) (shootAt p m (ackW ws k.toNat) * R) w) := by
  have c0 : w.cell? ⟨p, 0, none⟩ = some (vi m.page) := h.cell 0
  have c1 : w.cell? ⟨p, 1, none⟩ = some (vi m.size) := h.cell 1
  have c2 : w.cell? ⟨p, 2, none⟩ = some (vi m.frame) := h.cell 2
  have c3 : w.cell? ⟨p, 3, none⟩ = some (vi m.rights) := h.cell 3
  have hlt : p < w.heap.size := h.lt
  have ha := h.alloc (.cells #[vi 0, vi 0, vi 0, vi 0] 28)
  have hk : 0 ≤ k ∧ k < 4 := by
    by_cases hk : 0 ≤ k ∧ k < 4
    · exact hk
    · rw [waits_no hk] at hw; cases hw
  obtain ⟨hk0, hk4⟩ := hk
  obtain ⟨k, rfl⟩ := Int.eq_ofNat_of_zero_le hk0
  have hf := h.free (4 + k)
  have hc := shoot_cell h k (by omega)
  have hs := ack_cells h k (by omega) false
  go_enter Try.func16, Try.ntmps16
  go_wp2_with (go_at_call 17; refine (waits_any p m ws _ _ _ ha).mono ?_; rintro e w' ⟨rfl, rfl⟩)
  exact bodyPost_ret (v := .tuple #[m.val, vb true]) (by simp [results, Try.results16, go_sem]) rfl ⟨rfl, hs.alloc _, ((Ext.refl w).set _ _).alloc _⟩
theorem ack_no (p : Nat) (m : Mp) (ws : Nat → Bool) (k : Int) (R : HProp) (w : World) (h : Has w (shootAt p m ws * R)) (hw : waitsB ws k = false) :
    Calls Try.prog 16 #[.pointer (some ⟨p, 0, none⟩), .int .i64 k] w (Res (.tuple #[.agg #[vi 0, vi 0, vi 0, vi 0], vb false]) (shootAt p m ws * R) w) := by
  have ha := h.alloc (.cells #[vi 0, vi 0, vi 0, vi 0] 28)
  go_enter Try.func16, Try.ntmps16
  go_wp2_with (go_at_call 17; refine (waits_any p m ws _ _ _ ha).mono ?_; rintro e w' ⟨rfl, rfl⟩)
  exact bodyPost_ret (v := .tuple #[.agg #[vi 0, vi 0, vi 0, vi 0], vb false]) (by simp [results, Try.results16, go_sem]) rfl ⟨rfl, ha, (Ext.refl w).alloc _⟩

def postW (n : Nat) : Nat → Bool := fun i => decide (i < n)
theorem overB_all {ws : Nat → Bool} (h : overB ws = true) : ws 0 = false ∧ ws 1 = false ∧ ws 2 = false ∧ ws 3 = false := by
  unfold overB at h
  simpa using h
theorem post_step {p : Nat} {x : Mp} {j : Nat} {R : HProp} {w : World} (h : Has w (shootAt p x (postW j) * R)) (hj : j < 4) : Has (w.setCell ⟨p, 4 + j, none⟩ (vb true)) (shootAt p x (postW (j + 1)) * R) := by
  have h1 := ack_cells h j hj true
  have e : (fun i => if i = j then true else postW j i) = postW (j + 1) := by
    funext i
    unfold postW
    by_cases hi : i = j
    · simp [hi]
    · simp only [hi, if_false]
      by_cases h2 : i < j <;> simp [h2] <;> omega
  rwa [e] at h1
theorem post_begin {p : Nat} {m x : Mp} {ws : Nat → Bool} {R : HProp} {w : World} (h : Has w (shootAt p m ws * R)) (ho : overB ws = true) :
    Has ((((w.setCell ⟨p, 0, none⟩ (vi x.page)).setCell ⟨p, 1, none⟩ (vi x.size)).setCell ⟨p, 2, none⟩ (vi x.frame)).setCell ⟨p, 3, none⟩ (vi x.rights)) (shootAt p x (postW 0) * R) := by
  obtain ⟨h0, h1, h2, h3⟩ := overB_all ho
  have := (((h.set 0 (vi x.page)).set 1 (vi x.size)).set 2 (vi x.frame)).set 3 (vi x.rights)
  rw [h0, h1, h2, h3] at this
  exact this

theorem post_yes (p : Nat) (m x : Mp) (ws : Nat → Bool) (k : Nat) (R : HProp) (w : World) (h : Has w (shootAt p m ws * R)) (ho : overB ws = true) (hk1 : 1 ≤ k) (hk4 : k ≤ 4) :
    Calls Try.prog 15 #[.pointer (some ⟨p, 0, none⟩), .agg #[vi x.page, vi x.size, vi x.frame, vi x.rights], .int .i64 k] w
      (Res (vb true) (shootAt p x (postW k) * R) w) := by
  have hlt : p < w.heap.size := h.lt
  have ha := h.alloc (.cells #[vi x.page, vi x.size, vi x.frame, vi x.rights] 28)
  have hb := post_begin (x := x) h ho
  have f0 := h.free 0
  have f1 := h.free 1
  have f2 := h.free 2
  have f3 := h.free 3
  have c0 : w.cell? ⟨p, 0, none⟩ = some (vi m.page) := h.cell 0
  have c1 : w.cell? ⟨p, 1, none⟩ = some (vi m.size) := h.cell 1
  have c2 : w.cell? ⟨p, 2, none⟩ = some (vi m.frame) := h.cell 2
  have c3 : w.cell? ⟨p, 3, none⟩ = some (vi m.rights) := h.cell 3
  go_enter Try.func15, Try.ntmps15
  go_wp2_with (go_at_call 19; refine (over_any p m ws _ _ ha).mono ?_; rintro e w' ⟨rfl, rfl⟩)
  go_loopw [7, 24, 25, 26, 27, 28, 29, 30, 31, 32] (fun _ t _ _ _ _ _ _ _ _ wr => ∃ j : Nat, j ≤ k ∧ t = vi j ∧ Has wr (shootAt p x (postW j) * R) ∧ Ext w wr) (fun _ t _ _ _ _ _ _ _ _ _ => k - (intOf t).toNat)
  case atStart => exact ⟨0, Nat.zero_le _, rfl, hb.alloc _, ((((Ext.refl w).set _ _).set _ _).set _ _).set _ _ |>.alloc _⟩
  case round =>
    obtain ⟨j, hj, rfl, hr, hx⟩ := hrel
    clear hb ha c0 c1 c2 c3 f0 f1 f2 f3 hlt
    by_cases hlt : j < k
    · have hf := hr.free (4 + j)
      have hc := shoot_cell hr j (by omega)
      have hs := post_step hr (by omega)
      go_wp2
      go_roundw
      case rel => exact ⟨j + 1, by omega, by go_num, hs, hx.set _ _⟩
      case measure => simp [intOf]; omega
    · obtain rfl : j = k := by omega
      go_wp2
      go_ret
      exact ⟨rfl, hr, hx⟩

theorem post_no (p : Nat) (m x : Mp) (ws : Nat → Bool) (k : Int) (R : HProp) (w : World) (h : Has w (shootAt p m ws * R)) (ho : (overB ws && decide (1 ≤ k ∧ k ≤ 4)) = false) :
    Calls Try.prog 15 #[.pointer (some ⟨p, 0, none⟩), .agg #[vi x.page, vi x.size, vi x.frame, vi x.rights], .int .i64 k] w
      (Res (vb false) (shootAt p m ws * R) w) := by
  have ha := h.alloc (.cells #[vi x.page, vi x.size, vi x.frame, vi x.rights] 28)
  have hO := Lib.hid ho
  clear ho
  cases hw : overB ws with
  | true =>
    by_cases h1 : 1 ≤ k
    · have h4 : 4 < k := by
        have := hO.out
        rw [hw] at this
        simp at this
        omega
      go_enter Try.func15, Try.ntmps15
      go_wp2_with (go_at_call 19; refine (over_any p m ws _ _ ha).mono ?_; rintro e w' ⟨rfl, rfl⟩)
      go_ret
      exact ⟨rfl, ha, (Ext.refl w).alloc _⟩
    · go_enter Try.func15, Try.ntmps15
      go_wp2_with (go_at_call 19; refine (over_any p m ws _ _ ha).mono ?_; rintro e w' ⟨rfl, rfl⟩)
      go_ret
      exact ⟨rfl, ha, (Ext.refl w).alloc _⟩
  | false =>
    go_enter Try.func15, Try.ntmps15
    go_wp2_with (go_at_call 19; refine (over_any p m ws _ _ ha).mono ?_; rintro e w' ⟨rfl, rfl⟩)
    go_ret
    exact ⟨rfl, ha, (Ext.refl w).alloc _⟩

end Go.Proofs.Ytoppmollbodigaa
