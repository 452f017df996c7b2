/- The law PageRights: the plain law, and the walk. -/
import Derived.Test.YtoppmollbodigaaPgBegun
namespace Go.Proofs.Ytoppmollbodigaa
open Go.RowKit
set_option maxRecDepth 100000

theorem or_mod8 (r k : Int) : bits .or .i64 r k % 8 = (((r % 8).toNat ||| (k % 8).toNat : Nat) : Int) := by
  have h1 : ∀ x : Int, (BitVec.ofInt 64 x).toNat = (x % 18446744073709551616).toNat := fun x => by simp [BitVec.toNat_ofInt]
  have h2 : bits .or .i64 r k = IntKind.i64.wrap ((BitVec.ofInt 64 r ||| BitVec.ofInt 64 k).toNat : Int) := rfl
  rw [h2, BitVec.toNat_or, h1, h1, IntKind.wrap_i64]
  generalize hx : (r % 18446744073709551616).toNat ||| (k % 18446744073709551616).toNat = x
  have e1 : x % 2 ^ 3 = ((r % 18446744073709551616).toNat % 2 ^ 3) ||| ((k % 18446744073709551616).toNat % 2 ^ 3) := by rw [← hx]; exact Nat.or_mod_two_pow
  have e2 : ∀ y : Int, (y % 18446744073709551616).toNat % 2 ^ 3 = (y % 8).toNat := fun y => by omega
  rw [e2, e2] at e1
  rw [← e1]
  omega
theorem bit_mod8 (r : Int) : bitOf r 1 = decide (r % 8 % 2 = 1) ∧ bitOf r 2 = decide (r % 8 / 2 % 2 = 1) ∧ bitOf r 4 = decide (r % 8 / 4 % 2 = 1) := by
  unfold bitOf
  have e1 : r / 1 % 2 = r % 8 % 2 := by omega
  have e2 : r / 2 % 2 = r % 8 / 2 % 2 := by omega
  have e4 : r / 4 % 2 = r % 8 / 4 % 2 := by omega
  rw [e1, e2, e4]
  exact ⟨rfl, rfl, rfl⟩
theorem bit_or (r k : Int) : (bitOf r 1 = true → bitOf (bits .or .i64 r k) 1 = true) ∧ (bitOf r 2 = true → bitOf (bits .or .i64 r k) 2 = true) ∧ (bitOf r 4 = true → bitOf (bits .or .i64 r k) 4 = true) := by
  obtain ⟨a1, a2, a4⟩ := bit_mod8 r
  obtain ⟨b1, b2, b4⟩ := bit_mod8 (bits .or .i64 r k)
  rw [a1, a2, a4, b1, b2, b4, or_mod8]
  rcases mod8 r with h | h | h | h | h | h | h | h <;> rcases mod8 k with g | g | g | g | g | g | g | g <;> rw [h, g] <;> decide
theorem may_more {r k : Int} {a : Ac} (h : may r a = true) : may (bits .or .i64 r k) a = true := by
  obtain ⟨m1, m2, m4⟩ := bit_or r k
  unfold may at *
  simp only [Bool.and_eq_true, Bool.or_eq_true] at *
  obtain ⟨⟨h1, h2⟩, h3⟩ := h
  exact ⟨⟨h1.imp id m1, h2.imp id m4⟩, h3.imp id m2⟩
theorem may_all (a : Ac) : may 7 a = true := by
  unfold may
  have e1 : bitOf 7 1 = true := by decide
  have e2 : bitOf 7 2 = true := by decide
  have e4 : bitOf 7 4 = true := by decide
  rw [e1, e2, e4]
  simp
theorem answer_in {m : Mp} (hc : check m = 0) {i : Nat} (hi : (i : Int) < span m.size) {k : Int} {u : Bool} (hm : ∀ p, may m.rights ⟨p, k, u⟩ = true) : answer m ⟨m.page + i, k, u⟩ = ⟨0, m.frame + i, m.rights⟩ := by
  obtain ⟨_, p0, p1, f0, f1, _, _, _, _⟩ := check_zero hc
  have hs := span_le m.size
  unfold answer
  rw [if_pos (hm _)]
  show (⟨0, wrap64 (wrap64 (m.frame + (m.page + i)) - m.page), m.rights⟩ : An) = _
  rw [wrap_in (n := m.frame + (m.page + i)) ⟨by omega, by omega⟩, wrap_in ⟨by omega, by omega⟩]
  have e : m.frame + (m.page + (i : Int)) - m.page = m.frame + i := by omega
  rw [e]

set_option maxHeartbeats 4000000 in
theorem pageRights_walk (m : Mp) (a : Ac) (rights more : Int) (w : World) (_ : m.ok) (_ : a.ok) (_ : i64 rights) (_ : i64 more) :
    Calls Try.prog 5 #[.agg #[vi m.page, vi m.size, vi m.frame, vi m.rights], .agg #[vi a.page, vi a.kind, vb a.user], vi rights, vi more] w (Pure (vb true) w) := by
  obtain ⟨p, k, u⟩ := a
  have h1 := (Has.new (has_old w) #[vi m.page, vi m.size, vi m.frame, vi m.rights] 28).new #[vi p, vi k, vb u] 41
  have x1 := ((Ext.refl w).alloc (.cells #[vi m.page, vi m.size, vi m.frame, vi m.rights] 28)).alloc (.cells #[vi p, vi k, vb u] 41)
  simp only [World.size_alloc] at h1
  go_enter Try.func5, Try.ntmps5
  go_wp2_with fail
  refine (pageBegun_any _).mono ?_; rintro e w2 ⟨rfl, b2⟩
  have h2 := (h1.below b2).p2
  clear h1
  obtain ⟨c0, c1, c2, c3⟩ := (h2).cells4
  obtain ⟨d0, d1, d2⟩ := (h2.right).cells3
  go_wp2_with fail
  refine (may_any rights _ _ _ _).mono ?_; rintro e w3 ⟨rfl, b3⟩
  have h3 := h2.below b3
  clear c0 c1 c2 c3 d0 d1 d2
  obtain ⟨c0, c1, c2, c3⟩ := (h3).cells4
  obtain ⟨d0, d1, d2⟩ := (h3.right).cells3
  cases hr : may rights ⟨p, k, u⟩ with
  | true =>
    have hm := may_more (k := more) hr
    go_wp2_with fail
    refine (may_any _ _ _ _ _).mono ?_; rintro e w4 ⟨rfl, b4⟩
    have h4 := h3.below b4
    clear c0 c1 c2 c3 d0 d1 d2
    obtain ⟨c0, c1, c2, c3⟩ := (h4).cells4
    obtain ⟨d0, d1, d2⟩ := (h4.right).cells3
    go_wp2_with fail
    clear c0 c1 c2 c3 d0 d1 d2
    refine (may_any 7 _ _ _ _).mono ?_; rintro e w5 ⟨rfl, b5⟩
    have h5 := h4.below b5
    have x5 : Ext w w5 := by (repeat (first | assumption | exact Ext.refl _ | refine Ext.alloc ?_ _ | refine Ext.set ?_ _ _ | refine Ext.drew ?_ | refine Ext.drewN ?_ _ | refine Ext.below ?_ (by assumption) | refine Ext.trans ?_ (by assumption)))
    clear b5 h4
    obtain ⟨c0, c1, c2, c3⟩ := (h5).cells4
    obtain ⟨d0, d1, d2⟩ := (h5.right).cells3
    have hma := may_all ⟨p, k, u⟩
    go_wp2_with fail
    refine (check_any m _).mono ?_; rintro e w6 ⟨rfl, b6⟩
    have h6 := h5.below b6
    have x6 := x5.below b6
    clear c0 c1 c2 c3 d0 d1 d2 hma
    clear h5 b6
    obtain ⟨c0, c1, c2, c3⟩ := (h6).cells4
    obtain ⟨d0, d1, d2⟩ := (h6.right).cells3
    by_cases hc : check m = 0
    · go_wp2_with fail
      refine (may_any m.rights _ _ _ _).mono ?_; rintro e w7 ⟨rfl, b7⟩
      have h7 := h6.below b7
      have x7 := x6.below b7
      clear c0 c1 c2 c3 d0 d1 d2 h6 b7
      cases hmm : may m.rights ⟨p, k, u⟩ with
      | true =>
        obtain ⟨c0, c1, c2, c3⟩ := (h7).cells4
        obtain ⟨hs0, hp0, hp1, hf0, hf1, _, _, _, _⟩ := check_zero hc
        have hs64 := span_le m.size
        obtain ⟨hs64a, hs64b⟩ := hs64
        have hmp : ∀ p', may m.rights ⟨p', k, u⟩ = true := fun _ => hmm
        have hE : ∀ i : Nat, (i : Int) < span m.size → ∀ W, Calls Try.prog 27 #[.agg #[vi m.page, vi m.size, vi m.frame, vi m.rights], .agg #[vi (m.page + i), vi k, vb u]] W (Pure (.agg #[vi 0, vi (m.frame + i), vi m.rights]) W) := fun i hi W => by
          have h := answer_any m (m.page + i) k u W
          rw [answer_in hc hi hmp] at h
          exact h
        have HE := Lib.hid hE
        clear hE hmp hs0
        clear hc
        go_wp2_with fail
        go_loopw [9] (fun t wz => ∃ (i : Nat) (g : Int), (i : Int) ≤ span m.size ∧ t = vi i ∧ Has wz (blk w.heap.size #[vi m.page, vi m.size, vi m.frame, vi m.rights] 28 * (blk (w.heap.size + 1) #[vi g, vi k, vb u] 41 * old w w.heap.size)) ∧ Ext w wz) (fun t _ => (span m.size).toNat - (intOf t).toNat)
        case atStart => exact ⟨0, p, by omega, rfl, h7, x7⟩
        case round =>
          obtain ⟨i, g, hi, rfl, hz, hxz⟩ := hrel
          have e1 := hz.lt
          have e2 := hz.right.lt
          clear c0 c1 c2 c3
          obtain ⟨c0, c1, c2, c3⟩ := (hz).cells4
          obtain ⟨d0, d1, d2⟩ := (hz.right).cells3
          have fr := hz.right.free 0
          by_cases hil : (i : Int) < span m.size
          · have h8 := (hz.right.set 0 (vi (m.page + i)))
            have h9 := (hz.p2.set 0 (vi (m.page + i))).p2
            have HC := HE.out i hil
            have HH := Lib.hid HC
            clear HC
            have k0 := via_cell h9.cells4.1
            have k1 := via_cell h9.cells4.2.1
            have k2 := via_cell h9.cells4.2.2.1
            have k3 := via_cell h9.cells4.2.2.2
            have l0 := via_cell h9.right.cells3.1
            have l1 := via_cell h9.right.cells3.2.1
            have l2 := via_cell h9.right.cells3.2.2
            go_wp2_with (first | (go_at_call 26; refine (span_any _ _).mono ?_; rintro e w' ⟨rfl, rfl⟩))
            refine wp_region_via (by kernel_rfl) (by kernel_rfl) ?_
            repeat (first | go_big_quiet_step ((go_at_call 27; exact Pure.via (HH.out _))) | quiet_step ((go_at_call 27; exact Pure.via (HH.out _))))
            refine wpQuiet_nil ?_
            intro _ hw'
            obtain ⟨uq, hw''⟩ := hw'
            subst hw''
            go_wp2
            go_roundw
            case rel => exact ⟨i + 1, _, by omega, by go_num, h9.via _, (hxz.set _ _).below (via_below _ _)⟩
            case measure => simp [intOf]; omega
          · go_wp2_with (first | (go_at_call 26; refine (span_any _ _).mono ?_; rintro e w' ⟨rfl, rfl⟩))
            go_ret
            exact ⟨rfl, below_of1 hz.right.right hxz⟩
      | false =>
        go_wp2_with fail
        go_ret
        exact ⟨rfl, below_of1 h7.right.right x7⟩
    · have hc' : (check m == 0) = false := by simpa using hc
      go_wp2_with fail
      go_ret
      exact ⟨rfl, below_of1 h6.right.right x6⟩
  | false =>
    have h4 := h3
    go_wp2_with fail
    clear c0 c1 c2 c3 d0 d1 d2
    refine (may_any 7 _ _ _ _).mono ?_; rintro e w5 ⟨rfl, b5⟩
    have h5 := h4.below b5
    have x5 : Ext w w5 := by (repeat (first | assumption | exact Ext.refl _ | refine Ext.alloc ?_ _ | refine Ext.set ?_ _ _ | refine Ext.drew ?_ | refine Ext.drewN ?_ _ | refine Ext.below ?_ (by assumption) | refine Ext.trans ?_ (by assumption)))
    clear b5 h4
    obtain ⟨c0, c1, c2, c3⟩ := (h5).cells4
    obtain ⟨d0, d1, d2⟩ := (h5.right).cells3
    have hma := may_all ⟨p, k, u⟩
    go_wp2_with fail
    refine (check_any m _).mono ?_; rintro e w6 ⟨rfl, b6⟩
    have h6 := h5.below b6
    have x6 := x5.below b6
    clear c0 c1 c2 c3 d0 d1 d2 hma
    clear h5 b6
    obtain ⟨c0, c1, c2, c3⟩ := (h6).cells4
    obtain ⟨d0, d1, d2⟩ := (h6.right).cells3
    by_cases hc : check m = 0
    · go_wp2_with fail
      refine (may_any m.rights _ _ _ _).mono ?_; rintro e w7 ⟨rfl, b7⟩
      have h7 := h6.below b7
      have x7 := x6.below b7
      clear c0 c1 c2 c3 d0 d1 d2 h6 b7
      cases hmm : may m.rights ⟨p, k, u⟩ with
      | true =>
        obtain ⟨c0, c1, c2, c3⟩ := (h7).cells4
        obtain ⟨hs0, hp0, hp1, hf0, hf1, _, _, _, _⟩ := check_zero hc
        have hs64 := span_le m.size
        obtain ⟨hs64a, hs64b⟩ := hs64
        have hmp : ∀ p', may m.rights ⟨p', k, u⟩ = true := fun _ => hmm
        have hE : ∀ i : Nat, (i : Int) < span m.size → ∀ W, Calls Try.prog 27 #[.agg #[vi m.page, vi m.size, vi m.frame, vi m.rights], .agg #[vi (m.page + i), vi k, vb u]] W (Pure (.agg #[vi 0, vi (m.frame + i), vi m.rights]) W) := fun i hi W => by
          have h := answer_any m (m.page + i) k u W
          rw [answer_in hc hi hmp] at h
          exact h
        have HE := Lib.hid hE
        clear hE hmp hs0
        clear hc
        go_wp2_with fail
        go_loopw [9] (fun t wz => ∃ (i : Nat) (g : Int), (i : Int) ≤ span m.size ∧ t = vi i ∧ Has wz (blk w.heap.size #[vi m.page, vi m.size, vi m.frame, vi m.rights] 28 * (blk (w.heap.size + 1) #[vi g, vi k, vb u] 41 * old w w.heap.size)) ∧ Ext w wz) (fun t _ => (span m.size).toNat - (intOf t).toNat)
        case atStart => exact ⟨0, p, by omega, rfl, h7, x7⟩
        case round =>
          obtain ⟨i, g, hi, rfl, hz, hxz⟩ := hrel
          have e1 := hz.lt
          have e2 := hz.right.lt
          clear c0 c1 c2 c3
          obtain ⟨c0, c1, c2, c3⟩ := (hz).cells4
          obtain ⟨d0, d1, d2⟩ := (hz.right).cells3
          have fr := hz.right.free 0
          by_cases hil : (i : Int) < span m.size
          · have h8 := (hz.right.set 0 (vi (m.page + i)))
            have h9 := (hz.p2.set 0 (vi (m.page + i))).p2
            have HC := HE.out i hil
            have HH := Lib.hid HC
            clear HC
            have k0 := via_cell h9.cells4.1
            have k1 := via_cell h9.cells4.2.1
            have k2 := via_cell h9.cells4.2.2.1
            have k3 := via_cell h9.cells4.2.2.2
            have l0 := via_cell h9.right.cells3.1
            have l1 := via_cell h9.right.cells3.2.1
            have l2 := via_cell h9.right.cells3.2.2
            go_wp2_with (first | (go_at_call 26; refine (span_any _ _).mono ?_; rintro e w' ⟨rfl, rfl⟩))
            refine wp_region_via (by kernel_rfl) (by kernel_rfl) ?_
            repeat (first | go_big_quiet_step ((go_at_call 27; exact Pure.via (HH.out _))) | quiet_step ((go_at_call 27; exact Pure.via (HH.out _))))
            refine wpQuiet_nil ?_
            intro _ hw'
            obtain ⟨uq, hw''⟩ := hw'
            subst hw''
            go_wp2
            go_roundw
            case rel => exact ⟨i + 1, _, by omega, by go_num, h9.via _, (hxz.set _ _).below (via_below _ _)⟩
            case measure => simp [intOf]; omega
          · go_wp2_with (first | (go_at_call 26; refine (span_any _ _).mono ?_; rintro e w' ⟨rfl, rfl⟩))
            go_ret
            exact ⟨rfl, below_of1 hz.right.right hxz⟩
      | false =>
        go_wp2_with fail
        go_ret
        exact ⟨rfl, below_of1 h7.right.right x7⟩
    · have hc' : (check m == 0) = false := by simpa using hc
      go_wp2_with fail
      go_ret
      exact ⟨rfl, below_of1 h6.right.right x6⟩

end Go.Proofs.Ytoppmollbodigaa
