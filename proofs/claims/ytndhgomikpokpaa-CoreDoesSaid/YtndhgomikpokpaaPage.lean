/- Contracts of package page. -/
import Derived.Test.YtndhgomikpokpaaSep
import Derived.Test.YtndhgomikpokpaaEq
import Derived.Lib.Hide
import Derived.WalkSpells
import Derived.Outline
import Derived.BigQuiet
namespace Go.Proofs.Ytndhgomikpokpaa
open Go.RowKit
set_option maxRecDepth 100000

theorem wrap_in {n : Int} (h : i64 n) : wrap64 n = n := IntWalk.wrap64_in n ⟨h.1, h.2⟩

theorem span_any (s : Int) (w : World) : Calls Try.prog 136 #[.int .i64 s] w (Same ((Value.int .i64) (span s)) w) := by
  unfold span
  by_cases h0 : s = 0
  · subst h0
    go_enter Try.func136, Try.ntmps136
    go_wp2
    go_ret
    exact ⟨rfl, rfl⟩
  by_cases h1 : s = 1
  · subst h1
    go_enter Try.func136, Try.ntmps136
    go_wp2
    go_ret
    exact ⟨rfl, rfl⟩
  by_cases h2 : s = 2
  · subst h2
    go_enter Try.func136, Try.ntmps136
    go_wp2
    go_ret
    exact ⟨rfl, rfl⟩
  rw [if_neg h0, if_neg h1, if_neg h2]
  go_enter Try.func136, Try.ntmps136
  go_wp2
  go_ret
  exact ⟨rfl, rfl⟩

theorem has_any (p : Int) (w : World) : Calls Try.prog 90 #[.int .i64 p] w (Same (Value.bool (hasB p)) w) := by
  unfold hasB
  by_cases h0 : 0 ≤ p
  · go_enter Try.func90, Try.ntmps90
    go_wp2
    go_ret
    exact ⟨by simp [h0], rfl⟩
  · have hd : decide (0 ≤ p) = false := by simpa using h0
    go_enter Try.func90, Try.ntmps90
    go_wp2
    go_ret
    exact ⟨rfl, rfl⟩

theorem over_yes {m : Mp} {p : Int} (hm : i64 m.page) (hp : i64 p) (h : m.page ≤ p) :
    decide (IntKind.u64.wrap (IntKind.u64.wrap p - IntKind.u64.wrap m.page) < IntKind.u64.wrap (span m.size)) = over m p := by
  obtain ⟨hm1, hm2⟩ := hm
  obtain ⟨hp1, hp2⟩ := hp
  have hs : 0 ≤ span m.size ∧ span m.size ≤ 64 := by unfold span; split <;> (try split) <;> (try split) <;> omega
  have e : ∀ x : Int, IntKind.u64.wrap x = x % 18446744073709551616 := fun x => by simp [IntKind.wrap, IntKind.signed, IntKind.bits]
  rw [e, e, e, e]
  unfold over
  have e1 : (p % 18446744073709551616 - m.page % 18446744073709551616) % 18446744073709551616 = p - m.page := by omega
  have e2 : span m.size % 18446744073709551616 = span m.size := by omega
  rw [e1, e2]
  simp [h]

theorem over_page (m : Mp) (p : Int) (w : World) (hm : i64 m.page) (hp : i64 p) :
    Calls Try.prog 130 #[.agg #[(Value.int .i64) m.page, (Value.int .i64) m.size, (Value.int .i64) m.frame, (Value.int .i64) m.rights], .int .i64 p] w (Pure (Value.bool (over m p)) w) := by
  have hb := Has.new (has_old w) #[(Value.int .i64) m.page, (Value.int .i64) m.size, (Value.int .i64) m.frame, (Value.int .i64) m.rights] 27
  obtain ⟨c0, c1, c2, c3⟩ := hb.cells4
  have v0 := via_cell c0
  have v1 := via_cell c1
  have bl := (Below.refl w.heap.size w).alloc (Nat.le_refl _) (.cells #[(Value.int .i64) m.page, (Value.int .i64) m.size, (Value.int .i64) m.frame, (Value.int .i64) m.rights] 27)
  by_cases h0 : m.page ≤ p
  · have hy := Lib.hid (over_yes hm hp h0)
    go_enter Try.func130, Try.ntmps130
    go_wp2
    refine wp_region_via (by kernel_rfl) (by kernel_rfl) ?_
    repeat (first | go_big_quiet_step ((go_at_call 136; exact Same.via (span_any _ _))) | quiet_step ((go_at_call 136; exact Same.via (span_any _ _))))
    refine wpQuiet_nil ?_
    intro _ hw'
    obtain ⟨uq, hw''⟩ := hw'
    subst hw''
    go_wp2
    go_ret
    exact ⟨by rw [← hy.out]; rfl, bl.trans ((via_below _ _).mono (by simp))⟩
  · have hd : decide (m.page ≤ p) = false := by simpa using h0
    have hy := Lib.hid (show over m p = false by unfold over; rw [hd]; rfl)
    go_enter Try.func130, Try.ntmps130
    go_wp2
    refine wp_region_via (by kernel_rfl) (by kernel_rfl) ?_
    repeat (first | go_big_quiet_step (fail) | quiet_step (fail))
    refine wpQuiet_nil ?_
    intro _ hw'
    obtain ⟨uq, hw''⟩ := hw'
    subst hw''
    go_wp2
    go_ret
    exact ⟨by rw [hy.out]; rfl, bl.trans ((via_below _ _).mono (by simp))⟩

theorem meet_any (a b : Mp) (w : World) (ha : i64 a.page) (hb : i64 b.page) :
    Calls Try.prog 94 #[.agg #[(Value.int .i64) a.page, (Value.int .i64) a.size, (Value.int .i64) a.frame, (Value.int .i64) a.rights], .agg #[(Value.int .i64) b.page, (Value.int .i64) b.size, (Value.int .i64) b.frame, (Value.int .i64) b.rights]] w (Pure (Value.bool (meet a b)) w) := by
  have h1 := Has.new (has_old w) #[(Value.int .i64) a.page, (Value.int .i64) a.size, (Value.int .i64) a.frame, (Value.int .i64) a.rights] 27
  have h2 := h1.new #[(Value.int .i64) b.page, (Value.int .i64) b.size, (Value.int .i64) b.frame, (Value.int .i64) b.rights] 27
  have x2 := ((Ext.refl w).alloc (.cells #[(Value.int .i64) a.page, (Value.int .i64) a.size, (Value.int .i64) a.frame, (Value.int .i64) a.rights] 27)).alloc (.cells #[(Value.int .i64) b.page, (Value.int .i64) b.size, (Value.int .i64) b.frame, (Value.int .i64) b.rights] 27)
  simp only [World.size_alloc] at h2
  go_enter Try.func94, Try.ntmps94
  go_wp2_with fail
  refine (over_page a b.page _ ha hb).mono ?_; rintro e w2 ⟨rfl, b2⟩
  have h3 := h2.below b2
  obtain ⟨c0, c1, c2, c3⟩ := h3.cells4
  obtain ⟨d0, d1, d2, d3⟩ := h3.right.cells4
  cases ho : over a b.page with
  | true =>
    have hy := Lib.hid (show meet a b = true by unfold meet; rw [ho]; rfl)
    go_wp2_with fail
    go_ret
    exact ⟨by rw [hy.out]; rfl, below_of1 h3.right.right (x2.below b2)⟩
  | false =>
    go_wp2_with fail
    refine (over_page b a.page _ hb ha).mono ?_; rintro e w3 ⟨rfl, b3⟩
    have h4 := h3.below b3
    have hy := Lib.hid (show meet a b = over b a.page by unfold meet; rw [ho]; rfl)
    go_wp2_with fail
    go_ret
    exact ⟨by rw [hy.out]; rfl, below_of1 h4.right.right ((x2.below b2).below b3)⟩

theorem check_any (m : Mp) (w : World) : Calls Try.prog 93 #[.agg #[(Value.int .i64) m.page, (Value.int .i64) m.size, (Value.int .i64) m.frame, (Value.int .i64) m.rights]] w (Pure ((Value.int .i64) (check m)) w) := by
  have h1 := Has.new (has_old w) #[(Value.int .i64) m.page, (Value.int .i64) m.size, (Value.int .i64) m.frame, (Value.int .i64) m.rights] 27
  have x1 := (Ext.refl w).alloc (.cells #[(Value.int .i64) m.page, (Value.int .i64) m.size, (Value.int .i64) m.frame, (Value.int .i64) m.rights] 27)
  have bl := below_of1 h1.right x1
  by_cases s0 : span m.size = 0
  · skip
    have hy := Lib.hid (show check m = 2 by unfold check; rw [if_pos s0])
    go_enter Try.func93, Try.ntmps93
    go_wp2_with (first | (go_at_call 136; refine (span_any _ _).mono ?_; rintro e w' ⟨rfl, rfl⟩) | (go_at_call 90; refine (has_any _ _).mono ?_; rintro e w' ⟨rfl, rfl⟩))
    go_ret
    exact ⟨by rw [hy.out]; rfl, bl⟩
  have s1 : 1 ≤ span m.size := by unfold span at *; split <;> (try split) <;> (try split) <;> simp_all
  have s0' : (span m.size == 0) = false := by simpa using s0
  by_cases hp : hasB m.page = true
  · have hp' : 0 ≤ m.page ∧ m.page < 4096 := by simpa [hasB] using hp
    obtain ⟨p0, p1⟩ := hp'
    by_cases f0 : m.frame < 0
    · skip
      have hy := Lib.hid (show check m = 1 by unfold check; rw [if_neg s0, if_pos (by omega)])
      go_enter Try.func93, Try.ntmps93
      go_wp2_with (first | (go_at_call 136; refine (span_any _ _).mono ?_; rintro e w' ⟨rfl, rfl⟩) | (go_at_call 90; refine (has_any _ _).mono ?_; rintro e w' ⟨rfl, rfl⟩))
      go_ret
      exact ⟨by rw [hy.out]; rfl, bl⟩
    by_cases f1 : 1048576 ≤ m.frame
    · skip
      have hy := Lib.hid (show check m = 1 by unfold check; rw [if_neg s0, if_pos (by omega)])
      go_enter Try.func93, Try.ntmps93
      go_wp2_with (first | (go_at_call 136; refine (span_any _ _).mono ?_; rintro e w' ⟨rfl, rfl⟩) | (go_at_call 90; refine (has_any _ _).mono ?_; rintro e w' ⟨rfl, rfl⟩))
      go_ret
      exact ⟨by rw [hy.out]; rfl, bl⟩
    by_cases r0 : m.rights < 0
    · skip
      have hy := Lib.hid (show check m = 1 by unfold check; rw [if_neg s0, if_pos (by omega)])
      go_enter Try.func93, Try.ntmps93
      go_wp2_with (first | (go_at_call 136; refine (span_any _ _).mono ?_; rintro e w' ⟨rfl, rfl⟩) | (go_at_call 90; refine (has_any _ _).mono ?_; rintro e w' ⟨rfl, rfl⟩))
      go_ret
      exact ⟨by rw [hy.out]; rfl, bl⟩
    by_cases r1 : 7 < m.rights
    · skip
      have hy := Lib.hid (show check m = 1 by unfold check; rw [if_neg s0, if_pos (by omega)])
      go_enter Try.func93, Try.ntmps93
      go_wp2_with (first | (go_at_call 136; refine (span_any _ _).mono ?_; rintro e w' ⟨rfl, rfl⟩) | (go_at_call 90; refine (has_any _ _).mono ?_; rintro e w' ⟨rfl, rfl⟩))
      go_ret
      exact ⟨by rw [hy.out]; rfl, bl⟩
    have hno : ¬ (m.page < 0 ∨ 4096 ≤ m.page ∨ m.frame < 0 ∨ 1048576 ≤ m.frame ∨ m.rights < 0 ∨ 7 < m.rights) := by omega
    have hn := Lib.hid hno
    clear hno
    cases q0 : (m.page % span m.size != 0) with
    | true =>
      have g := Lib.hid q0
      have hy := Lib.hid (show check m = 3 by unfold check; rw [if_neg s0, if_neg hn.out, if_pos (.inl (by simpa using g.out))])
      go_enter Try.func93, Try.ntmps93
      go_wp2_with (first | (go_at_call 136; refine (span_any _ _).mono ?_; rintro e w' ⟨rfl, rfl⟩) | (go_at_call 90; refine (has_any _ _).mono ?_; rintro e w' ⟨rfl, rfl⟩))
      go_ret
      exact ⟨by rw [hy.out]; rfl, bl⟩
    | false =>
      cases q1 : (m.frame % span m.size != 0) with
      | true =>
        have g := Lib.hid q1
        have hy := Lib.hid (show check m = 3 by unfold check; rw [if_neg s0, if_neg hn.out, if_pos (.inr (by simpa using g.out))])
        go_enter Try.func93, Try.ntmps93
        go_wp2_with (first | (go_at_call 136; refine (span_any _ _).mono ?_; rintro e w' ⟨rfl, rfl⟩) | (go_at_call 90; refine (has_any _ _).mono ?_; rintro e w' ⟨rfl, rfl⟩))
        go_ret
        exact ⟨by rw [hy.out]; rfl, bl⟩
      | false =>
        have g := Lib.hid q0
        have g' := Lib.hid q1
        have hy := Lib.hid (show check m = 0 by unfold check; rw [if_neg s0, if_neg hn.out, if_neg (by have a := g.out; have b := g'.out; simp at a b; omega)])
        go_enter Try.func93, Try.ntmps93
        go_wp2_with (first | (go_at_call 136; refine (span_any _ _).mono ?_; rintro e w' ⟨rfl, rfl⟩) | (go_at_call 90; refine (has_any _ _).mono ?_; rintro e w' ⟨rfl, rfl⟩))
        go_ret
        exact ⟨by rw [hy.out]; rfl, bl⟩
  · have hp0 : hasB m.page = false := by simpa using hp
    have hp' := Lib.hid (show m.page < 0 ∨ 4096 ≤ m.page by unfold hasB at hp0; simp at hp0; omega)
    clear hp
    have hy := Lib.hid (show check m = 1 by unfold check; rw [if_neg s0, if_pos (by have := hp'.out; omega)])
    go_enter Try.func93, Try.ntmps93
    go_wp2_with (first | (go_at_call 136; refine (span_any _ _).mono ?_; rintro e w' ⟨rfl, rfl⟩) | (go_at_call 90; refine (has_any _ _).mono ?_; rintro e w' ⟨rfl, rfl⟩))
    go_ret
    exact ⟨by rw [hy.out]; rfl, bl⟩

theorem pow8_pos : ∀ n, 0 < pow8 n
  | 0 => by simp [pow8]
  | n + 1 => by have := pow8_pos n; unfold pow8; omega
theorem div_pow8 (p : Int) (n : Nat) : p / pow8 n / 8 = p / pow8 (n + 1) := by
  have h := pow8_pos n
  rw [Int.ediv_ediv_of_nonneg (by omega), show pow8 (n + 1) = 8 * pow8 n from rfl, Int.mul_comm]
theorem div_pow8_bd {p : Int} (h0 : 0 ≤ p) (h1 : p < 4096) (n : Nat) : 0 ≤ p / pow8 n ∧ p / pow8 n < 4096 := by
  have h := pow8_pos n
  refine ⟨Int.ediv_nonneg h0 (by omega), ?_⟩
  exact Int.lt_of_le_of_lt (Int.ediv_le_self _ h0) h1

theorem index_any (p l : Int) (w : World) : Calls Try.prog 105 #[.int .i64 p, .int .i64 l] w (Same ((Value.int .i64) (index p l)) w) := by
  by_cases hp : hasB p = true
  · have hp' : 0 ≤ p ∧ p < 4096 := by simpa [hasB] using hp
    obtain ⟨p0, p1⟩ := hp'
    by_cases l0 : 0 ≤ l
    · by_cases l1 : l < 4
      · obtain ⟨l, rfl⟩ := Int.eq_ofNat_of_zero_le l0
        have hy := Lib.hid (show index p l = p / pow8 l % 8 by unfold index; rw [if_pos ⟨p0, p1, l0, l1⟩]; simp)
        go_enter Try.func105, Try.ntmps105
        go_wp2_with (first | (go_at_call 90; refine (has_any _ _).mono ?_; rintro e w' ⟨rfl, rfl⟩))
        go_loop [0, 17] (fun x t => ∃ j : Nat, j ≤ l ∧ t = (Value.int .i64) j ∧ x = (Value.int .i64) (p / pow8 j)) (fun _ t => l - (intOf t).toNat)
        case atStart => exact ⟨0, by omega, rfl, by simp [pow8]⟩
        case round =>
          obtain ⟨j, hj, rfl, rfl⟩ := hrel
          obtain ⟨b0, b1⟩ := div_pow8_bd p0 p1 j
          have hd := Lib.hid (div_pow8 p j)
          by_cases hjl : j < l
          · go_wp2
            go_round
            case rel => exact ⟨j + 1, by omega, by go_num, by rw [← hd.out]⟩
            case measure => simp [intOf]; omega
          · obtain rfl : j = l := by omega
            go_wp2
            go_ret
            exact ⟨by rw [hy.out]; rfl, rfl⟩
      · have hy := Lib.hid (show index p l = -1 by unfold index; rw [if_neg (by omega)])
        go_enter Try.func105, Try.ntmps105
        go_wp2_with (first | (go_at_call 90; refine (has_any _ _).mono ?_; rintro e w' ⟨rfl, rfl⟩))
        go_ret
        exact ⟨by rw [hy.out]; rfl, rfl⟩
    · have hy := Lib.hid (show index p l = -1 by unfold index; rw [if_neg (by omega)])
      go_enter Try.func105, Try.ntmps105
      go_wp2_with (first | (go_at_call 90; refine (has_any _ _).mono ?_; rintro e w' ⟨rfl, rfl⟩))
      go_ret
      exact ⟨by rw [hy.out]; rfl, rfl⟩
  · have hp0 : hasB p = false := by simpa using hp
    have hy := Lib.hid (show index p l = -1 by unfold index; rw [if_neg (by unfold hasB at hp0; simp at hp0; omega)])
    go_enter Try.func105, Try.ntmps105
    go_wp2_with (first | (go_at_call 90; refine (has_any _ _).mono ?_; rintro e w' ⟨rfl, rfl⟩))
    go_ret
    exact ⟨by rw [hy.out]; rfl, rfl⟩

theorem and_mod8 (r : Int) (k : Nat) (hk : k < 8) : bits .and .i64 r (k : Int) = (((r % 8).toNat &&& k : Nat) : Int) := by
  have h1 : (BitVec.ofInt 64 r).toNat = (r % 18446744073709551616).toNat := by simp [BitVec.toNat_ofInt]
  have h2 : (BitVec.ofInt 64 (k : Int)).toNat = k := by rw [BitVec.ofInt_natCast, BitVec.toNat_ofNat]; omega
  have h3 : ((r % 18446744073709551616).toNat &&& k) = ((r % 8).toNat &&& k) := by
    have hle : ((r % 18446744073709551616).toNat &&& k) ≤ k := Nat.and_le_right
    have hle2 : ((r % 8).toNat &&& k) ≤ k := Nat.and_le_right
    have e1 : ((r % 18446744073709551616).toNat &&& k) % 2 ^ 3 = ((r % 18446744073709551616).toNat % 2 ^ 3) &&& (k % 2 ^ 3) := Nat.and_mod_two_pow
    have e2 : (r % 18446744073709551616).toNat % 2 ^ 3 = (r % 8).toNat := by omega
    rw [e2, Nat.mod_eq_of_lt (show k < 2 ^ 3 by omega), Nat.mod_eq_of_lt (by omega)] at e1
    exact e1
  show IntKind.i64.wrap ((BitVec.ofInt 64 r &&& BitVec.ofInt 64 (k : Int)).toNat : Int) = _
  rw [BitVec.toNat_and, h1, h2, h3, IntKind.wrap_i64]
  have hle2 : ((r % 8).toNat &&& k) ≤ k := Nat.and_le_right
  omega
theorem mod8 (r : Int) : r % 8 = 0 ∨ r % 8 = 1 ∨ r % 8 = 2 ∨ r % 8 = 3 ∨ r % 8 = 4 ∨ r % 8 = 5 ∨ r % 8 = 6 ∨ r % 8 = 7 := by omega
theorem and_1 (r : Int) : (bits .and .i64 r 1 == 1) = bitOf r 1 := by
  have h' : bits .and .i64 r 1 = (((r % 8).toNat &&& 1 : Nat) : Int) := and_mod8 r 1 (by omega)
  rw [h']
  unfold bitOf
  have e1 : r / 1 % 2 = r % 8 % 2 := by omega
  have e2 : r / 2 % 2 = r % 8 / 2 % 2 := by omega
  have e4 : r / 4 % 2 = r % 8 / 4 % 2 := by omega
  first | rw [e1, e2] | rw [e4, e2] | rw [e1] | rw [e2] | rw [e4]
  rcases mod8 r with h | h | h | h | h | h | h | h <;> rw [h] <;> rfl
theorem and_2 (r : Int) : (bits .and .i64 r 2 == 2) = bitOf r 2 := by
  have h' : bits .and .i64 r 2 = (((r % 8).toNat &&& 2 : Nat) : Int) := and_mod8 r 2 (by omega)
  rw [h']
  unfold bitOf
  have e1 : r / 1 % 2 = r % 8 % 2 := by omega
  have e2 : r / 2 % 2 = r % 8 / 2 % 2 := by omega
  have e4 : r / 4 % 2 = r % 8 / 4 % 2 := by omega
  first | rw [e1, e2] | rw [e4, e2] | rw [e1] | rw [e2] | rw [e4]
  rcases mod8 r with h | h | h | h | h | h | h | h <;> rw [h] <;> rfl
theorem and_3 (r : Int) : (bits .and .i64 r 3 == 3) = (bitOf r 1 && bitOf r 2) := by
  have h' : bits .and .i64 r 3 = (((r % 8).toNat &&& 3 : Nat) : Int) := and_mod8 r 3 (by omega)
  rw [h']
  unfold bitOf
  have e1 : r / 1 % 2 = r % 8 % 2 := by omega
  have e2 : r / 2 % 2 = r % 8 / 2 % 2 := by omega
  have e4 : r / 4 % 2 = r % 8 / 4 % 2 := by omega
  first | rw [e1, e2] | rw [e4, e2] | rw [e1] | rw [e2] | rw [e4]
  rcases mod8 r with h | h | h | h | h | h | h | h <;> rw [h] <;> rfl
theorem and_4 (r : Int) : (bits .and .i64 r 4 == 4) = bitOf r 4 := by
  have h' : bits .and .i64 r 4 = (((r % 8).toNat &&& 4 : Nat) : Int) := and_mod8 r 4 (by omega)
  rw [h']
  unfold bitOf
  have e1 : r / 1 % 2 = r % 8 % 2 := by omega
  have e2 : r / 2 % 2 = r % 8 / 2 % 2 := by omega
  have e4 : r / 4 % 2 = r % 8 / 4 % 2 := by omega
  first | rw [e1, e2] | rw [e4, e2] | rw [e1] | rw [e2] | rw [e4]
  rcases mod8 r with h | h | h | h | h | h | h | h <;> rw [h] <;> rfl
theorem and_6 (r : Int) : (bits .and .i64 r 6 == 6) = (bitOf r 4 && bitOf r 2) := by
  have h' : bits .and .i64 r 6 = (((r % 8).toNat &&& 6 : Nat) : Int) := and_mod8 r 6 (by omega)
  rw [h']
  unfold bitOf
  have e1 : r / 1 % 2 = r % 8 % 2 := by omega
  have e2 : r / 2 % 2 = r % 8 / 2 % 2 := by omega
  have e4 : r / 4 % 2 = r % 8 / 4 % 2 := by omega
  first | rw [e1, e2] | rw [e4, e2] | rw [e1] | rw [e2] | rw [e4]
  rcases mod8 r with h | h | h | h | h | h | h | h <;> rw [h] <;> rfl
theorem and_0 (r : Int) : (bits .and .i64 r 0 == 0) = true := by
  have h' : bits .and .i64 r 0 = (((r % 8).toNat &&& 0 : Nat) : Int) := and_mod8 r 0 (by omega)
  rw [h', Nat.and_zero]
  rfl

theorem may_any (r p k : Int) (u : Bool) (w : World) : Calls Try.prog 125 #[.int .i64 r, .agg #[(Value.int .i64) p, (Value.int .i64) k, Value.bool u]] w (Pure (Value.bool (may r ⟨p, k, u⟩)) w) := by
  have h1 := Has.new (has_old w) #[(Value.int .i64) p, (Value.int .i64) k, Value.bool u] 29
  have bl := below_of1 h1.right ((Ext.refl w).alloc (.cells #[(Value.int .i64) p, (Value.int .i64) k, Value.bool u] 29))
  clear h1
  by_cases k1 : k = 1
  · subst k1
    cases u with
    | true =>
      have hy := Lib.hid (show may r ⟨p, 1, true⟩ = (bitOf r 1 && bitOf r 2) by unfold may; simp)
      go_enter Try.func125, Try.ntmps125
      go_wp2
      go_ret
      refine ⟨?_, bl⟩
      rw [hy.out]
      first | rfl | exact congrArg (fun b => Ending.returned (Value.bool b)) (and_1 r) | exact congrArg (fun b => Ending.returned (Value.bool b)) (and_2 r) | exact congrArg (fun b => Ending.returned (Value.bool b)) (and_3 r) | exact congrArg (fun b => Ending.returned (Value.bool b)) (and_4 r) | exact congrArg (fun b => Ending.returned (Value.bool b)) (and_6 r) | exact congrArg (fun b => Ending.returned (Value.bool b)) (and_0 r)
    | false =>
      have hy := Lib.hid (show may r ⟨p, 1, false⟩ = (bitOf r 1) by unfold may; simp)
      go_enter Try.func125, Try.ntmps125
      go_wp2
      go_ret
      refine ⟨?_, bl⟩
      rw [hy.out]
      first | rfl | exact congrArg (fun b => Ending.returned (Value.bool b)) (and_1 r) | exact congrArg (fun b => Ending.returned (Value.bool b)) (and_2 r) | exact congrArg (fun b => Ending.returned (Value.bool b)) (and_3 r) | exact congrArg (fun b => Ending.returned (Value.bool b)) (and_4 r) | exact congrArg (fun b => Ending.returned (Value.bool b)) (and_6 r) | exact congrArg (fun b => Ending.returned (Value.bool b)) (and_0 r)
  by_cases k2 : k = 2
  · subst k2
    cases u with
    | true =>
      have hy := Lib.hid (show may r ⟨p, 2, true⟩ = (bitOf r 4 && bitOf r 2) by unfold may; simp)
      go_enter Try.func125, Try.ntmps125
      go_wp2
      go_ret
      refine ⟨?_, bl⟩
      rw [hy.out]
      first | rfl | exact congrArg (fun b => Ending.returned (Value.bool b)) (and_1 r) | exact congrArg (fun b => Ending.returned (Value.bool b)) (and_2 r) | exact congrArg (fun b => Ending.returned (Value.bool b)) (and_3 r) | exact congrArg (fun b => Ending.returned (Value.bool b)) (and_4 r) | exact congrArg (fun b => Ending.returned (Value.bool b)) (and_6 r) | exact congrArg (fun b => Ending.returned (Value.bool b)) (and_0 r)
    | false =>
      have hy := Lib.hid (show may r ⟨p, 2, false⟩ = (bitOf r 4) by unfold may; simp)
      go_enter Try.func125, Try.ntmps125
      go_wp2
      go_ret
      refine ⟨?_, bl⟩
      rw [hy.out]
      first | rfl | exact congrArg (fun b => Ending.returned (Value.bool b)) (and_1 r) | exact congrArg (fun b => Ending.returned (Value.bool b)) (and_2 r) | exact congrArg (fun b => Ending.returned (Value.bool b)) (and_3 r) | exact congrArg (fun b => Ending.returned (Value.bool b)) (and_4 r) | exact congrArg (fun b => Ending.returned (Value.bool b)) (and_6 r) | exact congrArg (fun b => Ending.returned (Value.bool b)) (and_0 r)
  have g1 : (k == 1) = false := by simpa using k1
  have g2 : (k == 2) = false := by simpa using k2
  cases u with
  | true =>
    have hy := Lib.hid (show may r ⟨p, k, true⟩ = (bitOf r 2) by unfold may; simp [k1, k2])
    go_enter Try.func125, Try.ntmps125
    go_wp2
    go_ret
    refine ⟨?_, bl⟩
    rw [hy.out]
    first | rfl | exact congrArg (fun b => Ending.returned (Value.bool b)) (and_1 r) | exact congrArg (fun b => Ending.returned (Value.bool b)) (and_2 r) | exact congrArg (fun b => Ending.returned (Value.bool b)) (and_3 r) | exact congrArg (fun b => Ending.returned (Value.bool b)) (and_4 r) | exact congrArg (fun b => Ending.returned (Value.bool b)) (and_6 r) | exact congrArg (fun b => Ending.returned (Value.bool b)) (and_0 r)
  | false =>
    have hy := Lib.hid (show may r ⟨p, k, false⟩ = (true) by unfold may; simp [k1, k2])
    go_enter Try.func125, Try.ntmps125
    go_wp2
    go_ret
    refine ⟨?_, bl⟩
    rw [hy.out]
    first | rfl | exact congrArg (fun b => Ending.returned (Value.bool b)) (and_1 r) | exact congrArg (fun b => Ending.returned (Value.bool b)) (and_2 r) | exact congrArg (fun b => Ending.returned (Value.bool b)) (and_3 r) | exact congrArg (fun b => Ending.returned (Value.bool b)) (and_4 r) | exact congrArg (fun b => Ending.returned (Value.bool b)) (and_6 r) | exact congrArg (fun b => Ending.returned (Value.bool b)) (and_0 r)

theorem checkAccess_any (p k : Int) (u : Bool) (w : World) : Calls Try.prog 100 #[.agg #[(Value.int .i64) p, (Value.int .i64) k, Value.bool u]] w (Pure ((Value.int .i64) (checkAccess ⟨p, k, u⟩)) w) := by
  have h1 := Has.new (has_old w) #[(Value.int .i64) p, (Value.int .i64) k, Value.bool u] 29
  have bl := below_of1 h1.right ((Ext.refl w).alloc (.cells #[(Value.int .i64) p, (Value.int .i64) k, Value.bool u] 29))
  clear h1
  by_cases k0 : k < 0
  · have hy := Lib.hid (show checkAccess ⟨p, k, u⟩ = 2 by unfold checkAccess; rw [if_pos (by simp; omega)])
    go_enter Try.func100, Try.ntmps100
    go_wp2
    go_ret
    exact ⟨by rw [hy.out]; rfl, bl⟩
  by_cases k2 : 2 < k
  · have hy := Lib.hid (show checkAccess ⟨p, k, u⟩ = 2 by unfold checkAccess; rw [if_pos (by simp; omega)])
    go_enter Try.func100, Try.ntmps100
    go_wp2
    go_ret
    exact ⟨by rw [hy.out]; rfl, bl⟩
  cases hp : hasB p with
  | true =>
    have hy := Lib.hid (show checkAccess ⟨p, k, u⟩ = 0 by
      unfold checkAccess
      unfold hasB at hp
      simp at hp
      rw [if_neg (by simp; omega), if_neg (by simp; omega)])
    go_enter Try.func100, Try.ntmps100
    go_wp2_with (first | (go_at_call 90; refine (has_any _ _).mono ?_; rintro e w' ⟨rfl, rfl⟩))
    go_ret
    exact ⟨by rw [hy.out]; rfl, bl⟩
  | false =>
    have hy := Lib.hid (show checkAccess ⟨p, k, u⟩ = 1 by
      unfold checkAccess
      unfold hasB at hp
      simp at hp
      rw [if_neg (by simp; omega), if_pos (by simp; omega)])
    go_enter Try.func100, Try.ntmps100
    go_wp2_with (first | (go_at_call 90; refine (has_any _ _).mono ?_; rintro e w' ⟨rfl, rfl⟩))
    go_ret
    exact ⟨by rw [hy.out]; rfl, bl⟩

theorem answer_any (m : Mp) (p k : Int) (u : Bool) (w : World) :
    Calls Try.prog 112 #[.agg #[(Value.int .i64) m.page, (Value.int .i64) m.size, (Value.int .i64) m.frame, (Value.int .i64) m.rights], .agg #[(Value.int .i64) p, (Value.int .i64) k, Value.bool u]] w (Pure (answer m ⟨p, k, u⟩).val w) := by
  have h1 := Has.new (has_old w) #[(Value.int .i64) m.page, (Value.int .i64) m.size, (Value.int .i64) m.frame, (Value.int .i64) m.rights] 27
  have h2 := h1.new #[(Value.int .i64) p, (Value.int .i64) k, Value.bool u] 29
  have h3 := h2.new #[(Value.int .i64) 0, (Value.int .i64) 0, (Value.int .i64) 0] 49
  have x3 := (((Ext.refl w).alloc (.cells #[(Value.int .i64) m.page, (Value.int .i64) m.size, (Value.int .i64) m.frame, (Value.int .i64) m.rights] 27)).alloc (.cells #[(Value.int .i64) p, (Value.int .i64) k, Value.bool u] 29)).alloc (.cells #[(Value.int .i64) 0, (Value.int .i64) 0, (Value.int .i64) 0] 49)
  simp only [World.size_alloc] at h3
  cases hm : may m.rights ⟨p, k, u⟩ with
  | true =>
    have hy := Lib.hid (show answer m ⟨p, k, u⟩ = ⟨0, wrap64 (wrap64 (m.frame + p) - m.page), m.rights⟩ by unfold answer; rw [hm]; rfl)
    go_enter Try.func112, Try.ntmps112
    go_wp2_with fail
    refine (may_any _ _ _ _ _).mono ?_; rintro e w1 ⟨rfl, b1⟩
    have h4 := h3.below b1
    have e1 := h4.lt
    obtain ⟨c0, c1, c2⟩ := h4.cells3
    obtain ⟨d0, d1, d2⟩ := h4.right.cells3
    obtain ⟨m0, m1, m2, m3⟩ := h4.right.right.cells4
    obtain ⟨f0, f1, f2⟩ := h4.frees3
    have h5 := ((h4.set 0 ((Value.int .i64) 0)).set 1 ((Value.int .i64) (wrap64 (wrap64 (m.frame + p) - m.page)))).set 2 ((Value.int .i64) m.rights)
    go_wp2_with fail
    exact bodyPost_ret (v := .agg #[(Value.int .i64) 0, (Value.int .i64) (wrap64 (wrap64 (m.frame + p) - m.page)), (Value.int .i64) m.rights]) (by simp [results, Try.results112, go_sem, c0, c1, c2]) rfl
      ⟨by rw [hy.out]; rfl, below_of1 h5.right.right.right (by (repeat (first | with_reducible assumption | with_reducible exact Ext.refl _ | with_reducible refine Ext.set ?_ _ _ | with_reducible refine Ext.alloc ?_ _ | with_reducible refine Ext.drew ?_ | with_reducible refine Ext.drewN ?_ _ | assumption | exact Ext.refl _ | refine Ext.alloc ?_ _ | refine Ext.set ?_ _ _ | refine Ext.drew ?_ | refine Ext.drewN ?_ _ | refine Ext.below ?_ (by assumption) | refine Ext.trans ?_ (by assumption))))⟩
  | false =>
    have hy := Lib.hid (show answer m ⟨p, k, u⟩ = ⟨2, 0, 0⟩ by unfold answer; rw [hm]; rfl)
    go_enter Try.func112, Try.ntmps112
    go_wp2_with fail
    refine (may_any _ _ _ _ _).mono ?_; rintro e w1 ⟨rfl, b1⟩
    have h4 := h3.below b1
    have e1 := h4.lt
    obtain ⟨c0, c1, c2⟩ := h4.cells3
    obtain ⟨f0, f1, f2⟩ := h4.frees3
    have h5 := ((h4.set 0 ((Value.int .i64) 2)).set 1 ((Value.int .i64) 0)).set 2 ((Value.int .i64) 0)
    go_wp2_with fail
    exact bodyPost_ret (v := .agg #[(Value.int .i64) 2, (Value.int .i64) 0, (Value.int .i64) 0]) (by simp [results, Try.results112, go_sem, c0, c1, c2]) rfl
      ⟨by rw [hy.out]; rfl, below_of1 h5.right.right.right (by (repeat (first | with_reducible assumption | with_reducible exact Ext.refl _ | with_reducible refine Ext.set ?_ _ _ | with_reducible refine Ext.alloc ?_ _ | with_reducible refine Ext.drew ?_ | with_reducible refine Ext.drewN ?_ _ | assumption | exact Ext.refl _ | refine Ext.alloc ?_ _ | refine Ext.set ?_ _ _ | refine Ext.drew ?_ | refine Ext.drewN ?_ _ | refine Ext.below ?_ (by assumption) | refine Ext.trans ?_ (by assumption))))⟩
end Go.Proofs.Ytndhgomikpokpaa
