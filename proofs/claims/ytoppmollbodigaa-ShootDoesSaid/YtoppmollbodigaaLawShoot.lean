/- The law ShootDoes, walked over the contracts of package shoot. -/
import Derived.Test.YtoppmollbodigaaShoot
import Derived.Test.YtoppmollbodigaaRefIn
import Derived.BigQuiet
import Derived.Test.YtoppmollbodigaaFrame
namespace Go.Proofs.Ytoppmollbodigaa
open Go.RowKit
set_option maxRecDepth 100000

theorem shootBegun_any (w : World) : Calls Try.prog 13 #[] w (Pure (vb true) w) := by
  have h0 := has_old w
  have x0 := Ext.refl w
  go_enter Try.func13, Try.ntmps13
  go_wp2_with fail
  refine (new_shoot _ _ h0).mono ?_; rintro e w1 ⟨p, rfl, h1, x1⟩
  have hp1 : p < w1.heap.size := h1.lt
  have h2 := (h1.new #[vi 7, vi 0, vi 0, vi 0] 28).p2
  go_wp2_with fail
  refine (over_any _ _ _ _ _ h2).mono ?_; rintro e w2 ⟨rfl, rfl⟩
  go_wp2_with fail
  refine (post_yes p Mp.zero ⟨7, 0, 0, 0⟩ (fun _ => false) 2 _ _ h2 rfl (by omega) (by omega)).mono ?_; rintro e w3 ⟨rfl, h3, x3⟩
  obtain ⟨c0, c1, c2, c3⟩ := h3.p2.cells4
  go_wp2_with fail
  refine (post_no p ⟨7, 0, 0, 0⟩ ⟨7, 0, 0, 0⟩ (postW 2) 1 _ _ h3 rfl).mono ?_; rintro e w4 ⟨rfl, h4, x4⟩
  go_wp2_with fail
  refine (over_any _ _ _ _ _ h4).mono ?_; rintro e w5 ⟨rfl, rfl⟩
  go_wp2_with fail
  refine (ack_yes p _ _ 1 _ _ h4 rfl).mono ?_; rintro e w5 ⟨rfl, h5, x5⟩
  have h6 := (h5.new #[vi 7, vi 0, vi 0, vi 0] 28).p2
  go_wp2_with fail
  refine (ack_no p _ _ 1 _ _ h6 rfl).mono ?_; rintro e w6 ⟨rfl, h7, x7⟩
  have lt7 := h7.right.lt
  have mt7 := h7.right.right.lt
  obtain ⟨a0, a1, a2, a3⟩ := h7.right.cells4
  obtain ⟨m0, m1, m2, m3⟩ := h7.right.right.cells4
  have h8 := h7.alloc (.cells #[vi 0, vi 0, vi 0, vi 0] 28)
  go_wp2_with fail
  refine (waits_any p _ _ 0 _ _ h8).mono ?_; rintro e w7 ⟨rfl, rfl⟩
  go_wp2_with fail
  refine (waits_any p _ _ 1 _ _ h8).mono ?_; rintro e w7 ⟨rfl, rfl⟩
  go_wp2_with fail
  go_ret
  refine ⟨rfl, below_of1 h8.right.right.right ?_⟩
  (repeat (first | assumption | exact Ext.refl _ | refine Ext.alloc ?_ _ | refine Ext.set ?_ _ _ | refine Ext.drew ?_ | refine Ext.drewN ?_ _ | refine Ext.trans ?_ (by assumption)))

/-- The cores that wait, in order. -/
def wl (ws : Nat → Bool) : List Int := (bif ws 0 then [0] else []) ++ ((bif ws 1 then [1] else []) ++ ((bif ws 2 then [2] else []) ++ (bif ws 3 then [3] else [])))
theorem int4 {q : Int} (h0 : 0 ≤ q) (h4 : q < 4) : q = 0 ∨ q = 1 ∨ q = 2 ∨ q = 3 := by omega
theorem wl_lt (ws : Nat → Bool) : ∀ x ∈ wl ws, 0 ≤ x ∧ x < 4 := by
  unfold wl
  cases ws 0 <;> cases ws 1 <;> cases ws 2 <;> cases ws 3 <;> simp
theorem inB_wl (ws : Nat → Bool) (q : Int) : inB (wl ws) q = waitsB ws q := by
  by_cases hq : 0 ≤ q ∧ q < 4
  · rcases int4 hq.1 hq.2 with rfl | rfl | rfl | rfl
    · show inB (wl ws) 0 = ws 0
      unfold inB wl; cases ws 0 <;> cases ws 1 <;> cases ws 2 <;> cases ws 3 <;> rfl
    · show inB (wl ws) 1 = ws 1
      unfold inB wl; cases ws 0 <;> cases ws 1 <;> cases ws 2 <;> cases ws 3 <;> rfl
    · show inB (wl ws) 2 = ws 2
      unfold inB wl; cases ws 0 <;> cases ws 1 <;> cases ws 2 <;> cases ws 3 <;> rfl
    · show inB (wl ws) 3 = ws 3
      unfold inB wl; cases ws 0 <;> cases ws 1 <;> cases ws 2 <;> cases ws 3 <;> rfl
  · rw [waits_no hq]
    unfold inB
    rw [List.any_eq_false]
    intro x hx
    have := wl_lt ws x hx
    simp
    omega
theorem wl_over (ws : Nat → Bool) : (((wl ws).length : Int) == 0) = overB ws := by
  unfold wl overB
  cases ws 0 <;> cases ws 1 <;> cases ws 2 <;> cases ws 3 <;> rfl
theorem wl_le (ws : Nat → Bool) : (wl ws).length ≤ 4 := by
  unfold wl
  cases ws 0 <;> cases ws 1 <;> cases ws 2 <;> cases ws 3 <;> simp
theorem wl_post {k : Nat} (h : k ≤ 4) : wl (postW k) = (List.range k).map (fun (i : Nat) => (i : Int)) := by
  match k, h with
  | 0, _ | 1, _ | 2, _ | 3, _ | 4, _ => rfl
theorem wl_ack {ws : Nat → Bool} {q : Int} (h : waitsB ws q = true) : (wl ws).filter (· != q) = wl (ackW ws q.toNat) := by
  have hq : 0 ≤ q ∧ q < 4 := by
    by_cases hq : 0 ≤ q ∧ q < 4
    · exact hq
    · rw [waits_no hq] at h; cases h
  rcases int4 hq.1 hq.2 with rfl | rfl | rfl | rfl <;> unfold wl ackW <;> cases ws 0 <;> cases ws 1 <;> cases ws 2 <;> cases ws 3 <;> rfl
theorem wl_stay {ws : Nat → Bool} {q : Int} (h : waitsB ws q = false) : (wl ws).filter (· != q) = wl ws := by
  rw [List.filter_eq_self]
  intro x hx
  rw [← inB_wl] at h
  unfold inB at h
  rw [List.any_eq_false] at h
  have := h x hx
  simpa using this
theorem wl_fewer {ws : Nat → Bool} {q : Int} (h : waitsB ws q = true) : (wl (ackW ws q.toNat)).length < (wl ws).length := by
  rw [← wl_ack h]
  have hm : q ∈ wl ws := by
    rw [← inB_wl] at h
    unfold inB at h
    simpa using h
  rcases Nat.lt_or_ge ((wl ws).filter (· != q)).length (wl ws).length with hl | hl
  · exact hl
  · have hs : ((wl ws).filter (· != q)).length = (wl ws).length := Nat.le_antisymm (List.length_filter_le _ _) hl
    have := (List.length_filter_eq_length_iff.1 hs) q hm
    simp at this

theorem in_wl (A : Option Addr) (n c : Nat) (ws : Nat → Bool) (q : Int) (R : HProp) (w : World) (h : Has w (row 3 1 (.slice A n c) n ((wl ws).map vi) * R)) :
    Calls Try.prog 18 #[.slice A n c, .int .i64 q] w (Same (vb (waitsB ws q)) w) := by
  have := in_any A n c (wl ws) q w h.rd.1
  rwa [inB_wl] at this
theorem wl_cast {k : Nat} (h : k ≤ 4) : ((List.range k).map fun (i : Nat) => vi i) = (wl (postW k)).map vi := by
  rw [wl_post h, List.map_map]
  rfl

theorem filter_yes {W : List Int} {j : Nat} {k : Int} (hj : j < W.length) (h : (W[j] != k) = true) : (W.take (j + 1)).filter (· != k) = (W.take j).filter (· != k) ++ [W[j]] := by
  rw [List.take_succ_eq_append_getElem hj, List.filter_append]
  simp [h]
theorem filter_no {W : List Int} {j : Nat} {k : Int} (hj : j < W.length) (h : (W[j] != k) = false) : (W.take (j + 1)).filter (· != k) = (W.take j).filter (· != k) := by
  rw [List.take_succ_eq_append_getElem hj, List.filter_append]
  simp [h]

structure SSt where
  op : Int
  k : Int
  m : Mp
def SSt.ok (x : SSt) : Prop := i64 x.op ∧ i64 x.k ∧ i64 x.m.page ∧ i64 x.m.size ∧ i64 x.m.frame ∧ i64 x.m.rights
def SSt.cells (x : SSt) : List Value := [vi x.op, vi x.k, vi x.m.page, vi x.m.size, vi x.m.frame, vi x.m.rights]
theorem elemInt : Elem Try.prog 3 (vi 0) 1 8 := ⟨by kernel_rfl, rfl, by omega⟩

theorem cells_sst {cs : List Value} (h : CellsOk [some .i64, some .i64, some .i64, some .i64, some .i64, some .i64] cs) : ∃ x : SSt, cs = x.cells ∧ x.ok := by
  obtain ⟨a, c1, rfl, wa, g1⟩ := h.int
  obtain ⟨b, c2, rfl, wb, g2⟩ := g1.int
  obtain ⟨c, c3, rfl, wc, g3⟩ := g2.int
  obtain ⟨d, c4, rfl, wd, g4⟩ := g3.int
  obtain ⟨e, c5, rfl, we, g5⟩ := g4.int
  obtain ⟨f, c6, rfl, wf, g6⟩ := g5.int
  obtain rfl := g6.nil
  exact ⟨⟨a, b, ⟨c, d, e, f⟩⟩, rfl, wf_i64' wa, wf_i64' wb, wf_i64' wc, wf_i64' wd, wf_i64' we, wf_i64' wf⟩

set_option maxHeartbeats 8000000 in
theorem shootDoes_walk (A : Option Addr) (n c : Nat) (l : List SSt) (w : World) (h : Arr w A n 6 (l.map SSt.cells)) (_ : ∀ x ∈ l, x.ok) :
    Calls Try.prog 3 #[.slice A n c] w (Pure (vb true) w) := by
  have hm := h.2.1
  have hn : l.length = n := by simpa using h.1
  have hN := Lib.hid hn
  have hA := Lib.hid h
  clear h hn
  by_cases hbig : 300 < n
  · go_enter Try.func3, Try.ntmps3
    go_wp2_with fail
    refine (shootBegun_any _).mono ?_; rintro e w1 ⟨rfl, hb⟩
    go_wp2_with fail
    go_ret
    exact ⟨rfl, hb⟩
  have h0 := has_old w
  go_enter Try.func3, Try.ntmps3
  go_wp2_with fail
  refine (shootBegun_any _).mono ?_; rintro e w1 ⟨rfl, hb⟩
  have h1 := h0.below hb
  have x1 := (Ext.refl w).below hb
  go_wp2_with fail
  refine (new_shoot _ _ h1).mono ?_; rintro e w2 ⟨p, rfl, h2, x2⟩
  have h3 := (h2.new #[vi 0, vi 0, vi 0, vi 0] 28)
  have h4 := h3.rowNil (e := 3) (size := 1)
  go_wp2_with fail
  go_loopw [4, 6] (fun v t wr => ∃ (i : Nat) (ws : Nat → Bool) (m : Mp), i ≤ n ∧ t = vi i ∧
      Has wr (shootAt p m ws * (row 3 1 v (wl ws).length ((wl ws).map vi) * (blk w2.heap.size #[vi m.page, vi m.size, vi m.frame, vi m.rights] 28 * old w w.heap.size))) ∧ Ext w wr)
    (fun _ t _ => n - (intOf t).toNat)
  case atStart => exact ⟨0, fun _ => false, Mp.zero, by omega, rfl, h4.eq (by show _ = _ * (row 3 1 (.slice none 0 0) 0 [] * (blk w2.heap.size #[vi 0, vi 0, vi 0, vi 0] 28 * _)); (simp only [star_assoc, star_left_comm, star_comm])), (by (repeat (first | assumption | exact Ext.refl _ | refine Ext.alloc ?_ _ | refine Ext.set ?_ _ _ | refine Ext.drew ?_ | refine Ext.drewN ?_ _ | refine Ext.trans ?_ (by assumption))))⟩
  case round =>
    obtain ⟨i, ws, m, hi, rfl, hr, hx⟩ := hrel
    clear h0 h1 h2 h3 h4 hb
    obtain ⟨wo, rfl⟩ : ∃ wo : World, wo = wr := ⟨_, rfl⟩
    by_cases hlt : i < n
    · have hil : i < l.length := by have := hN.out; omega
      obtain ⟨b, off, hb, hbl, hc⟩ := (hA.out.old1 hr.right.right.right hx).at_ (i := i) (xs := (l[i]).cells) (by simp [hil])
      generalize l[i] = x at hc
      obtain ⟨op, k, ⟨mp, ms, mf, mr⟩⟩ := x
      have d0 : wo.cell? ⟨b, off + i * 6, none⟩ = some (vi op) := hc 0 _ rfl
      have d1 : wo.cell? ⟨b, off + i * 6 + 1, none⟩ = some (vi k) := hc 1 _ rfl
      have d2 : wo.cell? ⟨b, off + i * 6 + 2, none⟩ = some (vi mp) := hc 2 _ rfl
      have d3 : wo.cell? ⟨b, off + i * 6 + 3, none⟩ = some (vi ms) := hc 3 _ rfl
      have d4 : wo.cell? ⟨b, off + i * 6 + 4, none⟩ = some (vi mf) := hc 4 _ rfl
      have d5 : wo.cell? ⟨b, off + i * 6 + 5, none⟩ = some (vi mr) := hc 5 _ rfl
      clear hc
      subst hb
      have hw4 := wl_le ws
      have hov := wl_over ws
      obtain ⟨A', c', rfl⟩ := hr.right.rowForm
      have hs := hr.new #[vi op, vi k, vi mp, vi ms, vi mf, vi mr] 30
      by_cases o0 : op = 0
      · subst o0
        cases ho : overB ws with
        | true =>
          by_cases k1 : 1 ≤ k
          · by_cases k4 : k ≤ 4
            · obtain ⟨k, rfl⟩ := Int.eq_ofNat_of_zero_le (show 0 ≤ k by omega)
              rw [ho] at hov
              go_wp2_with fail
              refine (post_yes p m ⟨mp, ms, mf, mr⟩ ws k _ _ hs.p2 ho (by omega) (by omega)).mono ?_; rintro e w3 ⟨rfl, h3, x3⟩
              have hw0 : wl ws = [] := List.eq_nil_of_length_eq_zero (by simpa using hov)
              rw [hw0] at h3 hov hw4
              rw [hw0]
              go_wp2_with fail
              have h3' := h3.eq (show _ = shootAt p ⟨mp, ms, mf, mr⟩ (postW k) * (row 3 1 (.slice A' 0 c') 0 [] * (blk w2.heap.size #[vi m.page, vi m.size, vi m.frame, vi m.rights] 28 * (blk wo.heap.size #[vi 0, vi k, vi mp, vi ms, vi mf, vi mr] 30 * old w w.heap.size))) by
                show _ * (_ * (row 3 1 (.slice A' 0 c') 0 [] * _)) = _
                (simp only [star_assoc, star_left_comm, star_comm]))
              clear hs d0 d1 d2 d3 d4 d5 hr h3 hov hw4 hw0
              go_loopw [4, 9] (fun v t wz => ∃ (j : Nat) (m2 : Mp), j ≤ k ∧ t = vi j ∧ (0 < j → m2 = ⟨mp, ms, mf, mr⟩) ∧
                  Has wz (shootAt p ⟨mp, ms, mf, mr⟩ (postW k) * (row 3 1 v j ((List.range j).map fun (i : Nat) => vi i) * (blk w2.heap.size #[vi m2.page, vi m2.size, vi m2.frame, vi m2.rights] 28 * (blk wo.heap.size #[vi 0, vi k, vi mp, vi ms, vi mf, vi mr] 30 * old w w.heap.size)))) ∧ Ext w wz)
                (fun _ t _ => k - (intOf t).toNat)
              case atStart => exact ⟨0, m, by omega, rfl, fun h => by omega, h3', by (repeat (first | assumption | exact Ext.refl _ | refine Ext.alloc ?_ _ | refine Ext.set ?_ _ _ | refine Ext.drew ?_ | refine Ext.drewN ?_ _ | refine Ext.trans ?_ (by assumption)))⟩
              case round =>
                obtain ⟨j, m2, hj, rfl, hm2, hz, hxz⟩ := hrel
                have e1 := hz.right.right.right.lt
                obtain ⟨g0, g1, g2, g3, g4, g5⟩ := hz.right.right.right.cells6
                by_cases hjk : j < k
                · obtain ⟨A2, c2, rfl⟩ := hz.right.rowForm
                  have hrow := (hz.p2).alloc (.cells #[vi j] 3)
                  go_wp2_with (at_builtin; refine wpList_append_has rfl _ _ 26 rfl Try.underlying26 elemInt _ _ _ rfl hrow ⟨wr.heap.size, 0, none⟩ 1 1 [vi j] rfl rfl (news_one _ _ _) ?c1 ?c2 ?c3 ?_)
                  case c1 => intro u hu; simp at hu; subst hu; rfl
                  case c2 => unfold maxLen; omega
                  case c3 => omega
                  intro v' w' h' x'
                  have h2 := h'.p2
                  have e2 : w2.heap.size < w'.heap.size := h2.right.right.lt
                  have e3 : wo.heap.size < w'.heap.size := h2.right.right.right.lt
                  obtain ⟨a0, a1, a2, a3, a4, a5⟩ := h2.right.right.right.cells6
                  obtain ⟨b0, b1, b2, b3⟩ := h2.right.right.cells4
                  obtain ⟨f0, f1, f2, f3⟩ := h2.right.right.frees4
                  have hne : wo.heap.size ≠ w2.heap.size := fun e => h2.right.right.ne e.symm
                  have hxs : ((List.range j).map fun (i : Nat) => vi i) ++ [vi j] = (List.range (j + 1)).map fun (i : Nat) => vi i := by simp [List.range_succ]
                  rw [hxs] at h2
                  have h6 := h2.eq (show _ = blk w2.heap.size #[vi m2.page, vi m2.size, vi m2.frame, vi m2.rights] 28 * (shootAt p ⟨mp, ms, mf, mr⟩ (postW k) * (row 3 1 v' (j + 1) ((List.range (j + 1)).map fun (i : Nat) => vi i) * (blk wo.heap.size #[vi 0, vi k, vi mp, vi ms, vi mf, vi mr] 30 * old w w.heap.size))) by (simp only [star_assoc, star_left_comm, star_comm]))
                  have h7 := h6.set4 (vi mp) (vi ms) (vi mf) (vi mr)
                  clear hxs h'
                  go_wp2
                  go_roundw
                  case rel => exact ⟨j + 1, ⟨mp, ms, mf, mr⟩, by omega, by go_num, fun _ => rfl, h7.eq (by (simp only [star_assoc, star_left_comm, star_comm])), by (repeat (first | assumption | exact Ext.refl _ | refine Ext.alloc ?_ _ | refine Ext.set ?_ _ _ | refine Ext.drew ?_ | refine Ext.drewN ?_ _ | refine Ext.trans ?_ (by assumption)))⟩
                  case measure => simp [intOf]; omega
                · obtain rfl : j = k := by omega
                  obtain rfl := hm2 (by omega)
                  obtain ⟨A2, c2, rfl⟩ := hz.right.rowForm
                  rw [wl_cast (by omega)] at hz
                  have hov := wl_over (postW j)
                  rw [wl_post (by omega)] at hov
                  simp only [List.length_map, List.length_range] at hov
                  have hl := Lib.hid (show j = (wl (postW j)).length by rw [wl_post (by omega)]; simp)
                  go_wp2
                  go_quiet ((first
                    | (go_at_call 17; exact Same.quiet (waits_any p _ _ _ _ _ (hz.drewN _)))
                    | (go_at_call 18; exact Same.quiet (in_wl _ _ _ _ _ _ _ (hz.p2.drewN _)))
                    | (go_at_call 19; exact Same.quiet (over_any p _ _ _ _ (hz.drewN _)))))
                  go_wp2
                  go_roundw
                  case rel => exact ⟨i + 1, postW j, ⟨mp, ms, mf, mr⟩, by omega, by go_num, (by rw [← hl.out]; exact (hz.drewN _).drop4), by (repeat (first | assumption | exact Ext.refl _ | refine Ext.alloc ?_ _ | refine Ext.set ?_ _ _ | refine Ext.drew ?_ | refine Ext.drewN ?_ _ | refine Ext.trans ?_ (by assumption)))⟩
                  case measure => simp [intOf]; omega
            · have hno : (overB ws && decide (1 ≤ k ∧ k ≤ 4)) = false := by simp; omega
              go_wp2_with fail
              refine (post_no p m ⟨mp, ms, mf, mr⟩ ws k _ _ (hs.p2) (hno)).mono ?_; rintro e w3 ⟨rfl, h3, x3⟩
              clear hno
              have h3' := h3.eq (show _ = shootAt p m ws * (row 3 1 (.slice A' (wl ws).length c') (wl ws).length ((wl ws).map vi) * (blk w2.heap.size #[vi m.page, vi m.size, vi m.frame, vi m.rights] 28 * (blk wo.heap.size #[vi 0, vi k, vi mp, vi ms, vi mf, vi mr] 30 * old w w.heap.size))) by (simp only [star_assoc, star_left_comm, star_comm]))
              obtain ⟨g0, g1, g2, g3, g4, g5⟩ := h3'.right.right.right.cells6
              have e1 := h3'.right.right.right.lt
              clear hs d0 d1 d2 d3 d4 d5 hr h3
              go_wp2_with fail
              go_loopw [4, 9] (fun v t wz => v = .slice A' (wl ws).length c' ∧ t = vi 0 ∧ w3 = wz) (fun _ t _ => 0)
              case atStart => exact ⟨rfl, rfl, rfl⟩
              case round =>
                obtain ⟨rfl, rfl, rfl⟩ := hrel
                go_wp2
                go_quiet ((first
                  | (go_at_call 17; exact Same.quiet (waits_any p _ _ _ _ _ (h3'.drewN _)))
                  | (go_at_call 18; exact Same.quiet (in_wl _ _ _ _ _ _ _ (h3'.p2.drewN _)))
                  | (go_at_call 19; exact Same.quiet (over_any p _ _ _ _ (h3'.drewN _)))))
                go_wp2
                go_roundw
                case rel => exact ⟨i + 1, ws, m, by omega, by go_num, (by skip; exact (h3'.drewN _).drop4), by (repeat (first | assumption | exact Ext.refl _ | refine Ext.alloc ?_ _ | refine Ext.set ?_ _ _ | refine Ext.drew ?_ | refine Ext.drewN ?_ _ | refine Ext.trans ?_ (by assumption)))⟩
                case measure => simp [intOf]; omega
          · have hno : (overB ws && decide (1 ≤ k ∧ k ≤ 4)) = false := by simp; omega
            go_wp2_with fail
            refine (post_no p m ⟨mp, ms, mf, mr⟩ ws k _ _ (hs.p2) (hno)).mono ?_; rintro e w3 ⟨rfl, h3, x3⟩
            clear hno
            have h3' := h3.eq (show _ = shootAt p m ws * (row 3 1 (.slice A' (wl ws).length c') (wl ws).length ((wl ws).map vi) * (blk w2.heap.size #[vi m.page, vi m.size, vi m.frame, vi m.rights] 28 * (blk wo.heap.size #[vi 0, vi k, vi mp, vi ms, vi mf, vi mr] 30 * old w w.heap.size))) by (simp only [star_assoc, star_left_comm, star_comm]))
            obtain ⟨g0, g1, g2, g3, g4, g5⟩ := h3'.right.right.right.cells6
            have e1 := h3'.right.right.right.lt
            clear hs d0 d1 d2 d3 d4 d5 hr h3
            go_wp2_with fail
            go_loopw [4, 9] (fun v t wz => v = .slice A' (wl ws).length c' ∧ t = vi 0 ∧ w3 = wz) (fun _ t _ => 0)
            case atStart => exact ⟨rfl, rfl, rfl⟩
            case round =>
              obtain ⟨rfl, rfl, rfl⟩ := hrel
              go_wp2
              go_quiet ((first
                | (go_at_call 17; exact Same.quiet (waits_any p _ _ _ _ _ (h3'.drewN _)))
                | (go_at_call 18; exact Same.quiet (in_wl _ _ _ _ _ _ _ (h3'.p2.drewN _)))
                | (go_at_call 19; exact Same.quiet (over_any p _ _ _ _ (h3'.drewN _)))))
              go_wp2
              go_roundw
              case rel => exact ⟨i + 1, ws, m, by omega, by go_num, (by skip; exact (h3'.drewN _).drop4), by (repeat (first | assumption | exact Ext.refl _ | refine Ext.alloc ?_ _ | refine Ext.set ?_ _ _ | refine Ext.drew ?_ | refine Ext.drewN ?_ _ | refine Ext.trans ?_ (by assumption)))⟩
              case measure => simp [intOf]; omega
        | false =>
          rw [ho] at hov
          have hno : (overB ws && decide (1 ≤ k ∧ k ≤ 4)) = false := by rw [ho]; rfl
          by_cases hk0 : 0 < k
          · skip
            go_wp2_with fail
            refine (post_no p m ⟨mp, ms, mf, mr⟩ ws k _ _ (hs.p2) (hno)).mono ?_; rintro e w3 ⟨rfl, h3, x3⟩
            clear hno
            have h3' := h3.eq (show _ = shootAt p m ws * (row 3 1 (.slice A' (wl ws).length c') (wl ws).length ((wl ws).map vi) * (blk w2.heap.size #[vi m.page, vi m.size, vi m.frame, vi m.rights] 28 * (blk wo.heap.size #[vi 0, vi k, vi mp, vi ms, vi mf, vi mr] 30 * old w w.heap.size))) by (simp only [star_assoc, star_left_comm, star_comm]))
            obtain ⟨g0, g1, g2, g3, g4, g5⟩ := h3'.right.right.right.cells6
            have e1 := h3'.right.right.right.lt
            clear hs d0 d1 d2 d3 d4 d5 hr h3
            go_wp2_with fail
            go_loopw [4, 9] (fun v t wz => v = .slice A' (wl ws).length c' ∧ t = vi 0 ∧ w3 = wz) (fun _ t _ => 0)
            case atStart => exact ⟨rfl, rfl, rfl⟩
            case round =>
              obtain ⟨rfl, rfl, rfl⟩ := hrel
              go_wp2
              go_quiet ((first
                | (go_at_call 17; exact Same.quiet (waits_any p _ _ _ _ _ (h3'.drewN _)))
                | (go_at_call 18; exact Same.quiet (in_wl _ _ _ _ _ _ _ (h3'.p2.drewN _)))
                | (go_at_call 19; exact Same.quiet (over_any p _ _ _ _ (h3'.drewN _)))))
              go_wp2
              go_roundw
              case rel => exact ⟨i + 1, ws, m, by omega, by go_num, (by skip; exact (h3'.drewN _).drop4), by (repeat (first | assumption | exact Ext.refl _ | refine Ext.alloc ?_ _ | refine Ext.set ?_ _ _ | refine Ext.drew ?_ | refine Ext.drewN ?_ _ | refine Ext.trans ?_ (by assumption)))⟩
              case measure => simp [intOf]; omega
          · skip
            go_wp2_with fail
            refine (post_no p m ⟨mp, ms, mf, mr⟩ ws k _ _ (hs.p2) (hno)).mono ?_; rintro e w3 ⟨rfl, h3, x3⟩
            clear hno
            have h3' := h3.eq (show _ = shootAt p m ws * (row 3 1 (.slice A' (wl ws).length c') (wl ws).length ((wl ws).map vi) * (blk w2.heap.size #[vi m.page, vi m.size, vi m.frame, vi m.rights] 28 * (blk wo.heap.size #[vi 0, vi k, vi mp, vi ms, vi mf, vi mr] 30 * old w w.heap.size))) by (simp only [star_assoc, star_left_comm, star_comm]))
            obtain ⟨g0, g1, g2, g3, g4, g5⟩ := h3'.right.right.right.cells6
            have e1 := h3'.right.right.right.lt
            clear hs d0 d1 d2 d3 d4 d5 hr h3
            go_wp2_with fail
            go_loopw [4, 9] (fun v t wz => v = .slice A' (wl ws).length c' ∧ t = vi 0 ∧ w3 = wz) (fun _ t _ => 0)
            case atStart => exact ⟨rfl, rfl, rfl⟩
            case round =>
              obtain ⟨rfl, rfl, rfl⟩ := hrel
              go_wp2
              go_quiet ((first
                | (go_at_call 17; exact Same.quiet (waits_any p _ _ _ _ _ (h3'.drewN _)))
                | (go_at_call 18; exact Same.quiet (in_wl _ _ _ _ _ _ _ (h3'.p2.drewN _)))
                | (go_at_call 19; exact Same.quiet (over_any p _ _ _ _ (h3'.drewN _)))))
              go_wp2
              go_roundw
              case rel => exact ⟨i + 1, ws, m, by omega, by go_num, (by skip; exact (h3'.drewN _).drop4), by (repeat (first | assumption | exact Ext.refl _ | refine Ext.alloc ?_ _ | refine Ext.set ?_ _ _ | refine Ext.drew ?_ | refine Ext.drewN ?_ _ | refine Ext.trans ?_ (by assumption)))⟩
              case measure => simp [intOf]; omega
      · by_cases o1 : op = 1
        · subst o1
          have h3 := hs.eq (show _ = shootAt p m ws * (row 3 1 (.slice A' (wl ws).length c') (wl ws).length ((wl ws).map vi) * (blk w2.heap.size #[vi m.page, vi m.size, vi m.frame, vi m.rights] 28 * (blk wo.heap.size #[vi 1, vi k, vi mp, vi ms, vi mf, vi mr] 30 * old w w.heap.size))) by (simp only [star_assoc, star_left_comm, star_comm]))
          have h3n := h3.rowNil (e := 3) (size := 1)
          generalize hW : wl ws = W at *
          have hWd := Lib.hid hW
          clear hW
          go_wp2_with fail
          clear d0 d1 d2 d3 d4 d5 hs hr
          go_loopw [10, 11] (fun v t wz => ∃ j : Nat, j ≤ W.length ∧ t = vi j ∧
              Has wz (row 3 1 v ((W.take j).filter (· != k)).length (((W.take j).filter (· != k)).map vi) *
                (shootAt p m ws * (row 3 1 (.slice A' W.length c') W.length (W.map vi) * (blk w2.heap.size #[vi m.page, vi m.size, vi m.frame, vi m.rights] 28 * (blk wo.heap.size #[vi 1, vi k, vi mp, vi ms, vi mf, vi mr] 30 * old w w.heap.size))))) ∧ Ext w wz)
            (fun _ t _ => W.length - (intOf t).toNat)
          case atStart => exact ⟨0, by omega, rfl, h3n, by (repeat (first | assumption | exact Ext.refl _ | refine Ext.alloc ?_ _ | refine Ext.set ?_ _ _ | refine Ext.drew ?_ | refine Ext.drewN ?_ _ | refine Ext.trans ?_ (by assumption)))⟩
          case round =>
            obtain ⟨j, hj, rfl, hz, hxz⟩ := hrel
            have e1 := hz.right.right.right.right.lt
            obtain ⟨g0, g1, g2, g3, g4, g5⟩ := hz.right.right.right.right.cells6
            by_cases hjk : j < W.length
            · obtain ⟨A2, c2, rfl⟩ := hz.rowForm
              obtain ⟨b2, off2, hA2, hb2, hc2⟩ := (hz.p2.p2.right.right |> fun _ => (hz.right.p2).rd.1).at_ (j := j) (u := vi W[j]) (by simp [hjk])
              subst hA2
              have hw5 : W.length ≤ 4 := hw4
              have hfl : ((W.take j).filter (· != k)).length ≤ 4 := Nat.le_trans (List.length_filter_le _ _) (by simp; omega)
              cases hq : (W[j] != k) with
              | true =>
                have hF := Lib.hid (filter_yes hjk hq)
                generalize (W.take j).filter (· != k) = F at *
                clear h3 h3n
                go_wp2_with fail
                go_quiet (fail)
                go_wp2_with (at_builtin; refine wpList_append_has rfl _ _ 26 rfl Try.underlying26 elemInt _ _ _ rfl ((hz.drewN _).alloc _) ⟨wr.heap.size, 0, none⟩ 1 1 [vi W[j]] rfl rfl (news_one _ _ _) ?c4 ?c5 ?c6 ?_)
                case c4 => intro u hu; simp at hu; subst hu; rfl
                case c5 => unfold maxLen; omega
                case c6 => omega
                intro v' w' h' x'
                go_wp2
                go_roundw
                case rel => exact ⟨j + 1, by omega, by go_num, by rw [hF.out]; simpa using h', by (repeat (first | assumption | exact Ext.refl _ | refine Ext.alloc ?_ _ | refine Ext.set ?_ _ _ | refine Ext.drew ?_ | refine Ext.drewN ?_ _ | refine Ext.trans ?_ (by assumption)))⟩
                case measure => simp [intOf]; omega
              | false =>
                have hF := Lib.hid (filter_no hjk hq)
                generalize (W.take j).filter (· != k) = F at *
                clear h3 h3n
                go_wp2_with fail
                go_quiet (fail)
                go_wp2
                go_roundw
                case rel => exact ⟨j + 1, by omega, by go_num, by rw [hF.out]; exact hz.drewN _, by (repeat (first | assumption | exact Ext.refl _ | refine Ext.alloc ?_ _ | refine Ext.set ?_ _ _ | refine Ext.drew ?_ | refine Ext.drewN ?_ _ | refine Ext.trans ?_ (by assumption)))⟩
                case measure => simp [intOf]; omega
            · obtain rfl : j = W.length := by omega
              clear h3 h3n
              rw [List.take_length] at hz
              obtain ⟨A2, c2, rfl⟩ := hz.rowForm
              cases hwk : waitsB ws k with
              | true =>
                have hF := wl_ack hwk
                have hl2 := wl_fewer hwk
                rw [hWd.out] at hF hl2
                rw [hF] at hz ⊢
                clear hF
                go_wp2_with fail
                refine (ack_yes p m ws k _ _ hz.p2 hwk).mono ?_; rintro e w5 ⟨rfl, h5, x5⟩
                have t5 := h5.right.right.right.lt
                have y5 := h5.right.right.right.right.lt
                have hov := wl_over (ackW ws k.toNat)
                obtain ⟨m0, m1, m2, m3⟩ := h5.right.right.right.cells4
                obtain ⟨y0, y1, y2, y3, y4, y5⟩ := h5.right.right.right.right.cells6
                have h6 := h5.drop3.alloc (.cells #[vi m.page, vi m.size, vi m.frame, vi m.rights] 28)
                clear g0 g1 g2 g3 g4 g5
                go_wp2
                go_quiet ((first
                  | (go_at_call 17; exact Same.quiet (waits_any p _ _ _ _ _ (h6.drewN _)))
                  | (go_at_call 18; exact Same.quiet (in_wl _ _ _ _ _ _ _ (h6.p2.drewN _)))
                  | (go_at_call 19; exact Same.quiet (over_any p _ _ _ _ (h6.drewN _)))))
                go_wp2
                go_roundw
                case rel => exact ⟨i + 1, ackW ws k.toNat, m, by omega, by go_num, (by skip; exact (h6.drewN _).drop4), by (repeat (first | assumption | exact Ext.refl _ | refine Ext.alloc ?_ _ | refine Ext.set ?_ _ _ | refine Ext.drew ?_ | refine Ext.drewN ?_ _ | refine Ext.trans ?_ (by assumption)))⟩
                case measure => simp [intOf]; omega
              | false =>
                have hF := wl_stay hwk
                have hW' := hWd.out
                rw [hW'] at hF
                rw [hF] at hz ⊢
                clear hF hW'
                go_wp2_with fail
                refine (ack_no p m ws k _ _ hz.p2 hwk).mono ?_; rintro e w5 ⟨rfl, h5, x5⟩
                have t5 := h5.right.right.right.lt
                have y5 := h5.right.right.right.right.lt
                have hov := wl_over ws
                rw [hWd.out] at hov
                obtain ⟨m0, m1, m2, m3⟩ := h5.right.right.right.cells4
                obtain ⟨y0, y1, y2, y3, y4, y5⟩ := h5.right.right.right.right.cells6
                have h6 := h5.drop3.alloc (.cells #[vi 0, vi 0, vi 0, vi 0] 28)
                clear g0 g1 g2 g3 g4 g5
                rw [← hWd.out] at h6 hov ⊢
                go_wp2
                go_quiet ((first
                  | (go_at_call 17; exact Same.quiet (waits_any p _ _ _ _ _ (h6.drewN _)))
                  | (go_at_call 18; exact Same.quiet (in_wl _ _ _ _ _ _ _ (h6.p2.drewN _)))
                  | (go_at_call 19; exact Same.quiet (over_any p _ _ _ _ (h6.drewN _)))))
                go_wp2
                go_roundw
                case rel => exact ⟨i + 1, ws, m, by omega, by go_num, (by skip; exact (h6.drewN _).drop4), by (repeat (first | assumption | exact Ext.refl _ | refine Ext.alloc ?_ _ | refine Ext.set ?_ _ _ | refine Ext.drew ?_ | refine Ext.drewN ?_ _ | refine Ext.trans ?_ (by assumption)))⟩
                case measure => simp [intOf]; omega
        · have h3 := hs.eq (show _ = shootAt p m ws * (row 3 1 (.slice A' (wl ws).length c') (wl ws).length ((wl ws).map vi) * (blk w2.heap.size #[vi m.page, vi m.size, vi m.frame, vi m.rights] 28 * (blk wo.heap.size #[vi op, vi k, vi mp, vi ms, vi mf, vi mr] 30 * old w w.heap.size))) by (simp only [star_assoc, star_left_comm, star_comm]))
          go_wp2
          go_quiet ((first
            | (go_at_call 17; exact Same.quiet (waits_any p _ _ _ _ _ (h3.drewN _)))
            | (go_at_call 18; exact Same.quiet (in_wl _ _ _ _ _ _ _ (h3.p2.drewN _)))
            | (go_at_call 19; exact Same.quiet (over_any p _ _ _ _ (h3.drewN _)))))
          go_wp2
          go_roundw
          case rel => exact ⟨i + 1, ws, m, by omega, by go_num, (by skip; exact (h3.drewN _).drop4), by (repeat (first | assumption | exact Ext.refl _ | refine Ext.alloc ?_ _ | refine Ext.set ?_ _ _ | refine Ext.drew ?_ | refine Ext.drewN ?_ _ | refine Ext.trans ?_ (by assumption)))⟩
          case measure => simp [intOf]; omega
    · obtain rfl : i = n := by omega
      go_wp2_with fail
      go_ret
      exact ⟨rfl, below_of1 hr.right.right.right hx⟩
end Go.Proofs.Ytoppmollbodigaa
