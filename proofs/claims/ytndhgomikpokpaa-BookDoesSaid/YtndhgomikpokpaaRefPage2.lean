/- More contracts of the document's own answer on pages: Has, Both, Lets, AccessFault, AnswerOf. -/
import Derived.Test.YtndhgomikpokpaaRefPage
namespace Go.Proofs.Ytndhgomikpokpaa
open Go.RowKit
set_option maxRecDepth 100000
theorem span_le (s : Int) : 0 ≤ span s ∧ span s ≤ 64 := by unfold span; split <;> (try split) <;> (try split) <;> omega

theorem refHas_any (m : Mp) (p : Int) (w : World) (hm : i64 m.page) (hp : i64 p) :
    Calls Try.prog 35 #[.agg #[(Value.int .i64) m.page, (Value.int .i64) m.size, (Value.int .i64) m.frame, (Value.int .i64) m.rights], .int .i64 p] w (Pure (Value.bool (over m p)) w) := by
  have h1 := Has.new (has_old w) #[(Value.int .i64) m.page, (Value.int .i64) m.size, (Value.int .i64) m.frame, (Value.int .i64) m.rights] 27
  have x1 := (Ext.refl w).alloc (.cells #[(Value.int .i64) m.page, (Value.int .i64) m.size, (Value.int .i64) m.frame, (Value.int .i64) m.rights] 27)
  have bl := below_of1 h1.right x1
  obtain ⟨c0, c1, c2, c3⟩ := h1.cells4
  obtain ⟨hm0, hm1⟩ := hm
  obtain ⟨hp0, hp1⟩ := hp
  clear h1 x1
  by_cases h0 : p < m.page
  · have hy := Lib.hid (show over m p = false by unfold over; simp; omega)
    go_enter Try.func35, Try.ntmps35
    go_wp2_with fail
    go_ret
    exact ⟨by rw [hy.out]; rfl, bl⟩
  · obtain ⟨s0, s1⟩ := span_le m.size
    go_enter Try.func35, Try.ntmps35
    go_wp2_with fail
    refine (spanOf_any _ _).mono ?_; rintro e w' ⟨rfl, rfl⟩
    generalize hs : span m.size = n at *
    have hS := Lib.hid hs
    clear hs
    go_wp2_with fail
    go_loop [1, 6] (fun x t => ∃ j : Nat, (j : Int) ≤ n ∧ (j : Int) ≤ p - m.page ∧ t = (Value.int .i64) j ∧ x = (Value.int .i64) (p - j)) (fun _ t => n.toNat - (intOf t).toNat)
    case atStart => exact ⟨0, by omega, by omega, rfl, by simp⟩
    case round =>
      obtain ⟨j, hj, hjp, rfl, rfl⟩ := hrel
      by_cases hjn : (j : Int) < n
      · by_cases he : p - j = m.page
        · have hy := Lib.hid (show over m p = true by unfold over; rw [hS.out]; simp; omega)
          have he' : (p - (j : Int) == m.page) = true := by simpa using he
          go_wp2_with fail
          go_ret
          exact ⟨by rw [hy.out]; rfl, bl⟩
        · have he' : (p - (j : Int) == m.page) = false := by simpa using he
          have he2 : (p - (j : Int) == -9223372036854775808) = false := by simp; omega
          go_wp2_with fail
          go_round
          case rel => exact ⟨j + 1, by omega, by omega, by go_num, by go_num⟩
          case measure => simp [intOf]; omega
      · have hy := Lib.hid (show over m p = false by unfold over; rw [hS.out]; simp; omega)
        go_wp2_with fail
        go_ret
        exact ⟨by rw [hy.out]; rfl, bl⟩

theorem both_any (a b : Mp) (w : World) (ha : i64 a.page) (hb : i64 b.page) :
    Calls Try.prog 34 #[.agg #[(Value.int .i64) a.page, (Value.int .i64) a.size, (Value.int .i64) a.frame, (Value.int .i64) a.rights], .agg #[(Value.int .i64) b.page, (Value.int .i64) b.size, (Value.int .i64) b.frame, (Value.int .i64) b.rights]] w (Pure (Value.bool (meet a b)) w) := by
  have h1 := Has.new (has_old w) #[(Value.int .i64) a.page, (Value.int .i64) a.size, (Value.int .i64) a.frame, (Value.int .i64) a.rights] 27
  have h2 := h1.new #[(Value.int .i64) b.page, (Value.int .i64) b.size, (Value.int .i64) b.frame, (Value.int .i64) b.rights] 27
  have x2 := ((Ext.refl w).alloc (.cells #[(Value.int .i64) a.page, (Value.int .i64) a.size, (Value.int .i64) a.frame, (Value.int .i64) a.rights] 27)).alloc (.cells #[(Value.int .i64) b.page, (Value.int .i64) b.size, (Value.int .i64) b.frame, (Value.int .i64) b.rights] 27)
  simp only [World.size_alloc] at h2
  go_enter Try.func34, Try.ntmps34
  go_wp2_with fail
  refine (refHas_any a b.page _ ha hb).mono ?_; rintro e w2 ⟨rfl, b2⟩
  have h3 := h2.below b2
  obtain ⟨c0, c1, c2, c3⟩ := h3.cells4
  obtain ⟨d0, d1, d2, d3⟩ := h3.right.cells4
  cases ho : over a b.page with
  | true =>
    have hy := Lib.hid (show meet a b = true by unfold meet; rw [ho]; rfl)
    go_wp2_with fail
    go_ret
    exact ⟨by rw [hy.out]; rfl, below_of1 h3.right.right (x2.below b2)⟩
  | false =>
    go_wp2_with fail
    refine (refHas_any b a.page _ hb ha).mono ?_; rintro e w3 ⟨rfl, b3⟩
    have h4 := h3.below b3
    have hy := Lib.hid (show meet a b = over b a.page by unfold meet; rw [ho]; rfl)
    go_wp2_with fail
    go_ret
    exact ⟨by rw [hy.out]; rfl, below_of1 h4.right.right ((x2.below b2).below b3)⟩

theorem andz_1 (r : Int) : (bits .and .i64 r 1 == 0) = !bitOf r 1 := by
  have h' : bits .and .i64 r 1 = (((r % 8).toNat &&& 1 : Nat) : Int) := and_mod8 r 1 (by omega)
  rw [h']
  unfold bitOf
  have e1 : r / 1 % 2 = r % 8 % 2 := by omega
  have e2 : r / 2 % 2 = r % 8 / 2 % 2 := by omega
  have e4 : r / 4 % 2 = r % 8 / 4 % 2 := by omega
  first | rw [e4] | rw [e1] | rw [e2]
  rcases mod8 r with h | h | h | h | h | h | h | h <;> rw [h] <;> rfl
theorem andz_2 (r : Int) : (bits .and .i64 r 2 == 0) = !bitOf r 2 := by
  have h' : bits .and .i64 r 2 = (((r % 8).toNat &&& 2 : Nat) : Int) := and_mod8 r 2 (by omega)
  rw [h']
  unfold bitOf
  have e1 : r / 1 % 2 = r % 8 % 2 := by omega
  have e2 : r / 2 % 2 = r % 8 / 2 % 2 := by omega
  have e4 : r / 4 % 2 = r % 8 / 4 % 2 := by omega
  first | rw [e4] | rw [e1] | rw [e2]
  rcases mod8 r with h | h | h | h | h | h | h | h <;> rw [h] <;> rfl
theorem andz_4 (r : Int) : (bits .and .i64 r 4 == 0) = !bitOf r 4 := by
  have h' : bits .and .i64 r 4 = (((r % 8).toNat &&& 4 : Nat) : Int) := and_mod8 r 4 (by omega)
  rw [h']
  unfold bitOf
  have e1 : r / 1 % 2 = r % 8 % 2 := by omega
  have e2 : r / 2 % 2 = r % 8 / 2 % 2 := by omega
  have e4 : r / 4 % 2 = r % 8 / 4 % 2 := by omega
  first | rw [e4] | rw [e1] | rw [e2]
  rcases mod8 r with h | h | h | h | h | h | h | h <;> rw [h] <;> rfl
theorem lets_any (r p k : Int) (u : Bool) (w : World) : Calls Try.prog 109 #[.int .i64 r, .agg #[(Value.int .i64) p, (Value.int .i64) k, Value.bool u]] w (Pure (Value.bool (may r ⟨p, k, u⟩)) w) := by
  have h1 := Has.new (has_old w) #[(Value.int .i64) p, (Value.int .i64) k, Value.bool u] 29
  have bl := below_of1 h1.right ((Ext.refl w).alloc (.cells #[(Value.int .i64) p, (Value.int .i64) k, Value.bool u] 29))
  clear h1
  have z1 := andz_1 r
  have z2 := andz_2 r
  have z4 := andz_4 r
  have z2' : (bits .and .i64 r 2 != 0) = bitOf r 2 := by
    unfold bne
    rw [z2]
    simp
  by_cases k1 : k = 1
  · subst k1
    clear z4 z2
    cases g1 : bitOf r 1 with
    | true =>
      rw [g1] at z1
      cases u with
      | true =>
        rw [show may r ⟨p, 1, true⟩ = (bitOf r 2) by unfold may; rw [g1]; simp]
        go_enter Try.func109, Try.ntmps109
        go_wp2
        go_ret
        exact ⟨rfl, bl⟩
      | false =>
        rw [show may r ⟨p, 1, false⟩ = (true) by unfold may; rw [g1]; simp]
        go_enter Try.func109, Try.ntmps109
        go_wp2
        go_ret
        exact ⟨rfl, bl⟩
    | false =>
      rw [g1] at z1
      rw [show may r ⟨p, 1, u⟩ = (false) by unfold may; rw [g1]; simp]
      go_enter Try.func109, Try.ntmps109
      go_wp2
      go_ret
      exact ⟨rfl, bl⟩
  by_cases k2 : k = 2
  · subst k2
    clear z1 z2
    cases g4 : bitOf r 4 with
    | true =>
      rw [g4] at z4
      cases u with
      | true =>
        rw [show may r ⟨p, 2, true⟩ = (bitOf r 2) by unfold may; rw [g4]; simp]
        go_enter Try.func109, Try.ntmps109
        go_wp2
        go_ret
        exact ⟨rfl, bl⟩
      | false =>
        rw [show may r ⟨p, 2, false⟩ = (true) by unfold may; rw [g4]; simp]
        go_enter Try.func109, Try.ntmps109
        go_wp2
        go_ret
        exact ⟨rfl, bl⟩
    | false =>
      rw [g4] at z4
      rw [show may r ⟨p, 2, u⟩ = (false) by unfold may; rw [g4]; simp]
      go_enter Try.func109, Try.ntmps109
      go_wp2
      go_ret
      exact ⟨rfl, bl⟩
  have g1 : (k == 1) = false := by simpa using k1
  have g2 : (k == 2) = false := by simpa using k2
  clear z1 z4 z2
  cases u with
  | true =>
    rw [show may r ⟨p, k, true⟩ = (bitOf r 2) by unfold may; simp [k1, k2]]
    go_enter Try.func109, Try.ntmps109
    go_wp2
    go_ret
    exact ⟨rfl, bl⟩
  | false =>
    rw [show may r ⟨p, k, false⟩ = (true) by unfold may; simp [k1, k2]]
    go_enter Try.func109, Try.ntmps109
    go_wp2
    go_ret
    exact ⟨rfl, bl⟩

theorem accessFault_any (p k : Int) (u : Bool) (w : World) : Calls Try.prog 45 #[.agg #[(Value.int .i64) p, (Value.int .i64) k, Value.bool u]] w (Pure ((Value.int .i64) (checkAccess ⟨p, k, u⟩)) w) := by
  have h1 := Has.new (has_old w) #[(Value.int .i64) p, (Value.int .i64) k, Value.bool u] 29
  have bl := below_of1 h1.right ((Ext.refl w).alloc (.cells #[(Value.int .i64) p, (Value.int .i64) k, Value.bool u] 29))
  clear h1
  by_cases k0 : k = 0
  · subst k0
    by_cases p0 : p < 0
    · skip
      have hy := Lib.hid (show checkAccess ⟨p, 0, u⟩ = 1 by unfold checkAccess; rw [if_neg (by simp), if_pos (by simp; omega)])
      go_enter Try.func45, Try.ntmps45
      go_wp2
      go_ret
      exact ⟨by rw [hy.out]; rfl, bl⟩
    by_cases p1 : 4096 ≤ p
    · skip
      have hy := Lib.hid (show checkAccess ⟨p, 0, u⟩ = 1 by unfold checkAccess; rw [if_neg (by simp), if_pos (by simp; omega)])
      go_enter Try.func45, Try.ntmps45
      go_wp2
      go_ret
      exact ⟨by rw [hy.out]; rfl, bl⟩
    have hy := Lib.hid (show checkAccess ⟨p, 0, u⟩ = 0 by unfold checkAccess; rw [if_neg (by simp), if_neg (by simp; omega)])
    go_enter Try.func45, Try.ntmps45
    go_wp2
    go_ret
    exact ⟨by rw [hy.out]; rfl, bl⟩
  by_cases k1 : k = 1
  · subst k1
    by_cases p0 : p < 0
    · skip
      have hy := Lib.hid (show checkAccess ⟨p, 1, u⟩ = 1 by unfold checkAccess; rw [if_neg (by simp), if_pos (by simp; omega)])
      go_enter Try.func45, Try.ntmps45
      go_wp2
      go_ret
      exact ⟨by rw [hy.out]; rfl, bl⟩
    by_cases p1 : 4096 ≤ p
    · skip
      have hy := Lib.hid (show checkAccess ⟨p, 1, u⟩ = 1 by unfold checkAccess; rw [if_neg (by simp), if_pos (by simp; omega)])
      go_enter Try.func45, Try.ntmps45
      go_wp2
      go_ret
      exact ⟨by rw [hy.out]; rfl, bl⟩
    have hy := Lib.hid (show checkAccess ⟨p, 1, u⟩ = 0 by unfold checkAccess; rw [if_neg (by simp), if_neg (by simp; omega)])
    go_enter Try.func45, Try.ntmps45
    go_wp2
    go_ret
    exact ⟨by rw [hy.out]; rfl, bl⟩
  by_cases k2 : k = 2
  · subst k2
    by_cases p0 : p < 0
    · skip
      have hy := Lib.hid (show checkAccess ⟨p, 2, u⟩ = 1 by unfold checkAccess; rw [if_neg (by simp), if_pos (by simp; omega)])
      go_enter Try.func45, Try.ntmps45
      go_wp2
      go_ret
      exact ⟨by rw [hy.out]; rfl, bl⟩
    by_cases p1 : 4096 ≤ p
    · skip
      have hy := Lib.hid (show checkAccess ⟨p, 2, u⟩ = 1 by unfold checkAccess; rw [if_neg (by simp), if_pos (by simp; omega)])
      go_enter Try.func45, Try.ntmps45
      go_wp2
      go_ret
      exact ⟨by rw [hy.out]; rfl, bl⟩
    have hy := Lib.hid (show checkAccess ⟨p, 2, u⟩ = 0 by unfold checkAccess; rw [if_neg (by simp), if_neg (by simp; omega)])
    go_enter Try.func45, Try.ntmps45
    go_wp2
    go_ret
    exact ⟨by rw [hy.out]; rfl, bl⟩
  have g0 : (k != 0) = true := by simpa using k0
  have g1 : (k != 1) = true := by simpa using k1
  have g2 : (k != 2) = true := by simpa using k2
  have hk := Lib.hid (show k < 0 ∨ 2 < k by omega)
  clear k0 k1 k2
  have hy := Lib.hid (show checkAccess ⟨p, k, u⟩ = 2 by unfold checkAccess; rw [if_pos (by simpa using hk.out)])
  go_enter Try.func45, Try.ntmps45
  go_wp2
  go_ret
  exact ⟨by rw [hy.out]; rfl, bl⟩

theorem wrap_sub_add (f p q : Int) : wrap64 (f + wrap64 (p - q)) = wrap64 (wrap64 (f + p) - q) := by
  unfold wrap64
  omega
theorem answerOf_any (m : Mp) (p k : Int) (u : Bool) (w : World) :
    Calls Try.prog 29 #[.agg #[(Value.int .i64) m.page, (Value.int .i64) m.size, (Value.int .i64) m.frame, (Value.int .i64) m.rights], .agg #[(Value.int .i64) p, (Value.int .i64) k, Value.bool u]] w (Pure (answer m ⟨p, k, u⟩).val w) := by
  have h1 := Has.new (has_old w) #[(Value.int .i64) m.page, (Value.int .i64) m.size, (Value.int .i64) m.frame, (Value.int .i64) m.rights] 27
  have h2 := h1.new #[(Value.int .i64) p, (Value.int .i64) k, Value.bool u] 29
  have h3 := h2.new #[(Value.int .i64) 0, (Value.int .i64) 0, (Value.int .i64) 0] 49
  have x3 := (((Ext.refl w).alloc (.cells #[(Value.int .i64) m.page, (Value.int .i64) m.size, (Value.int .i64) m.frame, (Value.int .i64) m.rights] 27)).alloc (.cells #[(Value.int .i64) p, (Value.int .i64) k, Value.bool u] 29)).alloc (.cells #[(Value.int .i64) 0, (Value.int .i64) 0, (Value.int .i64) 0] 49)
  simp only [World.size_alloc] at h3
  cases hm : may m.rights ⟨p, k, u⟩ with
  | true =>
    have hy := Lib.hid (show answer m ⟨p, k, u⟩ = ⟨0, wrap64 (m.frame + wrap64 (p - m.page)), m.rights⟩ by unfold answer; rw [hm, wrap_sub_add]; rfl)
    go_enter Try.func29, Try.ntmps29
    go_wp2_with fail
    refine (lets_any _ _ _ _ _).mono ?_; rintro e w1 ⟨rfl, b1⟩
    have h4 := h3.below b1
    have e1 := h4.lt
    obtain ⟨c0, c1, c2⟩ := h4.cells3
    obtain ⟨d0, d1, d2⟩ := h4.right.cells3
    obtain ⟨m0, m1, m2, m3⟩ := h4.right.right.cells4
    obtain ⟨f0, f1, f2⟩ := h4.frees3
    have h5 := ((h4.set 0 ((Value.int .i64) 0)).set 1 ((Value.int .i64) (wrap64 (m.frame + wrap64 (p - m.page))))).set 2 ((Value.int .i64) m.rights)
    go_wp2_with fail
    exact bodyPost_ret (v := .agg #[(Value.int .i64) 0, (Value.int .i64) (wrap64 (m.frame + wrap64 (p - m.page))), (Value.int .i64) m.rights]) (by simp [results, Try.results29, go_sem, c0, c1, c2]) rfl
      ⟨by rw [hy.out]; rfl, below_of1 h5.right.right.right (by (repeat (first | with_reducible assumption | with_reducible exact Ext.refl _ | with_reducible refine Ext.set ?_ _ _ | with_reducible refine Ext.alloc ?_ _ | with_reducible refine Ext.drew ?_ | with_reducible refine Ext.drewN ?_ _ | assumption | exact Ext.refl _ | refine Ext.alloc ?_ _ | refine Ext.set ?_ _ _ | refine Ext.drew ?_ | refine Ext.drewN ?_ _ | refine Ext.below ?_ (by assumption) | refine Ext.trans ?_ (by assumption))))⟩
  | false =>
    have hy := Lib.hid (show answer m ⟨p, k, u⟩ = ⟨2, 0, 0⟩ by unfold answer; rw [hm]; rfl)
    go_enter Try.func29, Try.ntmps29
    go_wp2_with fail
    refine (lets_any _ _ _ _ _).mono ?_; rintro e w1 ⟨rfl, b1⟩
    have h4 := h3.below b1
    have e1 := h4.lt
    obtain ⟨c0, c1, c2⟩ := h4.cells3
    obtain ⟨f0, f1, f2⟩ := h4.frees3
    have h5 := ((h4.set 0 ((Value.int .i64) 2)).set 1 ((Value.int .i64) 0)).set 2 ((Value.int .i64) 0)
    go_wp2_with fail
    exact bodyPost_ret (v := .agg #[(Value.int .i64) 2, (Value.int .i64) 0, (Value.int .i64) 0]) (by simp [results, Try.results29, go_sem, c0, c1, c2]) rfl
      ⟨by rw [hy.out]; rfl, below_of1 h5.right.right.right (by (repeat (first | with_reducible assumption | with_reducible exact Ext.refl _ | with_reducible refine Ext.set ?_ _ _ | with_reducible refine Ext.alloc ?_ _ | with_reducible refine Ext.drew ?_ | with_reducible refine Ext.drewN ?_ _ | assumption | exact Ext.refl _ | refine Ext.alloc ?_ _ | refine Ext.set ?_ _ _ | refine Ext.drew ?_ | refine Ext.drewN ?_ _ | refine Ext.below ?_ (by assumption) | refine Ext.trans ?_ (by assumption))))⟩
end Go.Proofs.Ytndhgomikpokpaa
