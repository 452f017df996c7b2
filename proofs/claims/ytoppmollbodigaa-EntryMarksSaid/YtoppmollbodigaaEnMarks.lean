/- The law EntryMarks: plain laws, and the walk. -/
import Derived.Test.YtoppmollbodigaaEnBack
import Derived.Deep.DeepCutAuto
import Derived.Deep.CutBlock
namespace Go.Proofs.Ytoppmollbodigaa
open Go.RowKit
set_option maxRecDepth 100000

theorem enc_inj {e o : En} {l : Int} (he : entFault e l = 0) (ho : entFault o l = 0) : encW e l = encW o l ↔ e = o := by
  constructor
  · intro h
    rw [← (dec_enc he).2.1, ← (dec_enc ho).2.1, h]
  · rintro rfl
    rfl
theorem marks_ok {r f l : Int} {th u d : Bool} (h : entFault ⟨th, true, r, u, d, f⟩ l = 0) (u' d' : Bool) : th = true ∧ entFault ⟨th, true, r, u', d', f⟩ l = 0 := by
  have ht : th = true := by
    cases th with
    | true => rfl
    | false =>
      have := entFault_not h rfl
      simp [En.zero] at this
  subst ht
  have k := entOk_of h rfl
  exact ⟨rfl, entFault_ok rfl ⟨k.l0, k.l4, k.r0, k.r7, k.f0, k.f1, k.leaf, fun e => by cases e⟩⟩
theorem xor_marks (Y W : Nat) (hY : Y < 18446744073709551616) (hW : W < 18446744073709551616) (h1 : Y % 32 = W % 32) (h2 : Y / 128 = W / 128) :
    bits .andNot .u64 (bits .xor .u64 (Y : Int) (W : Int)) 96 = 0 := by
  have hp : (2 ^ 64 : Nat) = 18446744073709551616 := by decide
  have hx : Y ^^^ W < 18446744073709551616 := by rw [← hp] at *; exact Nat.xor_lt_two_pow hY hW
  have hv : bits .xor .u64 (Y : Int) (W : Int) = ((Y ^^^ W : Nat) : Int) := by
    show IntKind.u64.wrap ((BitVec.ofInt 64 (Y : Int) ^^^ BitVec.ofInt 64 (W : Int)).toNat : Int) = _
    rw [BitVec.toNat_xor, ofInt64 Y hY, ofInt64 W hW]
    exact wrapU _ hx
  rw [hv]
  show IntKind.u64.wrap ((BitVec.ofInt 64 ((Y ^^^ W : Nat) : Int) &&& ~~~BitVec.ofInt 64 ((96 : Nat) : Int)).toNat : Int) = _
  rw [BitVec.toNat_and, BitVec.toNat_not, ofInt64 _ hx, ofInt64 96 (by decide)]
  rw [show 2 ^ 64 - 1 - 96 = 18446744073709551519 by decide]
  have hz : (Y ^^^ W) &&& 18446744073709551519 = 0 := by
    apply Nat.eq_of_testBit_eq
    intro i
    rw [Nat.testBit_and, Nat.testBit_xor, Nat.zero_testBit]
    by_cases i5 : i < 5
    · have e : Y.testBit i = W.testBit i := by
        have a := congrArg (fun x => Nat.testBit x i) h1
        simp only [show (32 : Nat) = 2 ^ 5 by decide, Nat.testBit_mod_two_pow] at a
        simpa [i5] using a
      rw [e]
      simp
    · by_cases i7 : 7 ≤ i
      · have e : Y.testBit i = W.testBit i := by
          have a := congrArg (fun x => Nat.testBit x (i - 7)) h2
          simp only [show (128 : Nat) = 2 ^ 7 by decide, Nat.testBit_div_two_pow] at a
          rw [show i - 7 + 7 = i by omega] at a
          exact a
        rw [e]
        simp
      · have : i = 5 ∨ i = 6 := by omega
        rcases this with rfl | rfl
        · rw [show Nat.testBit 18446744073709551519 5 = false by decide]; simp
        · rw [show Nat.testBit 18446744073709551519 6 = false by decide]; simp
  rw [hz]
  rfl
theorem marks_bits {r f l : Int} {u d u' d' : Bool} (h : entFault ⟨true, true, r, u, d, f⟩ l = 0) (h' : entFault ⟨true, true, r, u', d', f⟩ l = 0) :
    bits .andNot .u64 (bits .xor .u64 (encW ⟨true, true, r, u', d', f⟩ l) (encW ⟨true, true, r, u, d, f⟩ l)) 96 = 0 := by
  obtain ⟨a0, a1⟩ := encW_range ⟨true, true, r, u', d', f⟩ l
  obtain ⟨b0, b1⟩ := encW_range ⟨true, true, r, u, d, f⟩ l
  have ea : encW ⟨true, true, r, u', d', f⟩ l = wordE ⟨true, true, r, u', d', f⟩ l := by unfold encW; rw [if_pos ⟨h', rfl⟩]
  have eb : encW ⟨true, true, r, u, d, f⟩ l = wordE ⟨true, true, r, u, d, f⟩ l := by unfold encW; rw [if_pos ⟨h, rfl⟩]
  generalize encW ⟨true, true, r, u', d', f⟩ l = a at *
  generalize encW ⟨true, true, r, u, d, f⟩ l = b at *
  obtain ⟨A, rfl⟩ := Int.eq_ofNat_of_zero_le a0
  obtain ⟨B, rfl⟩ := Int.eq_ofNat_of_zero_le b0
  unfold wordE at ea eb
  dsimp only at ea eb
  rw [b2i_mul u' 32, b2i_mul d' 64, b2i_mul _ 128] at ea
  rw [b2i_mul u 32, b2i_mul d 64, b2i_mul _ 128] at eb
  have k := entOk_of h rfl
  have := k.r0; have := k.r7; have := k.f0
  dsimp only at *
  have := b2i_range u' 1 (by omega)
  have := b2i_range d' 1 (by omega)
  have := b2i_range u 1 (by omega)
  have := b2i_range d 1 (by omega)
  have := b2i_range (true && (l != 0)) 1 (by omega)
  exact xor_marks A B (by omega) (by omega) (by omega) (by omega)

theorem en_ne {th lf u d ot ol ou od : Bool} {r f or_ of_ : Int} (h : ¬ (⟨th, lf, r, u, d, f⟩ : En) = ⟨ot, ol, or_, ou, od, of_⟩) :
    (th == ot) = false ∨ (lf == ol) = false ∨ (r == or_) = false ∨ (u == ou) = false ∨ (d == od) = false ∨ (f == of_) = false := by
  by_cases h1 : th = ot
  · by_cases h2 : lf = ol
    · by_cases h3 : r = or_
      · by_cases h4 : u = ou
        · by_cases h5 : d = od
          · by_cases h6 : f = of_
            · exact absurd (by rw [h1, h2, h3, h4, h5, h6]) h
            · simp [h6]
          · simp [h5]
        · simp [h4]
      · simp [h3]
    · simp [h2]
  · simp [h1]
set_option maxHeartbeats 4000000 in
theorem entryMarks_walk (e o : En) (l : Int) (used dirty : Bool) (w : World) (_ : e.ok) (_ : o.ok) (_ : i64 l) :
    Calls Try.prog 11 #[.agg #[Value.bool e.there, Value.bool e.leaf, (Value.int .i64) e.rights, Value.bool e.used, Value.bool e.dirty, (Value.int .i64) e.frame], .agg #[Value.bool o.there, Value.bool o.leaf, (Value.int .i64) o.rights, Value.bool o.used, Value.bool o.dirty, (Value.int .i64) o.frame], (Value.int .i64) l, Value.bool used, Value.bool dirty] w (Pure (Value.bool true) w) := by
  obtain ⟨th, lf, r, u, d, f⟩ := e
  obtain ⟨ot, ol, or_, ou, od, of_⟩ := o
  have h1 := (Has.new (has_old w) #[Value.bool th, Value.bool lf, (Value.int .i64) r, Value.bool u, Value.bool d, (Value.int .i64) f] 75).new #[Value.bool ot, Value.bool ol, (Value.int .i64) or_, Value.bool ou, Value.bool od, (Value.int .i64) of_] 75
  have x1 := ((Ext.refl w).alloc (.cells #[Value.bool th, Value.bool lf, (Value.int .i64) r, Value.bool u, Value.bool d, (Value.int .i64) f] 75)).alloc (.cells #[Value.bool ot, Value.bool ol, (Value.int .i64) or_, Value.bool ou, Value.bool od, (Value.int .i64) of_] 75)
  simp only [World.size_alloc] at h1
  have HO := Lib.hid (encode_any ⟨ot, ol, or_, ou, od, of_⟩ l)
  by_cases hc : entFault ⟨th, lf, r, u, d, f⟩ l = 0
  · have HE := Lib.hid (enc_yes hc rfl)
    have hi := Lib.hid (fun ho => enc_inj (o := ⟨ot, ol, or_, ou, od, of_⟩) hc ho)
    have hmk := Lib.hid (fun (hlf : lf = true) => marks_ok (hlf ▸ hc) used dirty)
    have hc := Lib.hid hc
    generalize hb : encW ⟨ot, ol, or_, ou, od, of_⟩ l = b at *
    generalize hk : entFault ⟨ot, ol, or_, ou, od, of_⟩ l = k at *
    generalize ha : encW ⟨th, lf, r, u, d, f⟩ l = a at *
    have ha := Lib.hid ha
    have hb := Lib.hid hb
    have hk := Lib.hid hk
    go_enter Try.func11, Try.ntmps11
    go_wp2_with fail
    refine (entryBegun_any _).mono ?_; rintro e w1 ⟨rfl, b1⟩
    have h2 := h1.below b1
    have x2 := x1.below b1
    obtain ⟨c0, c1, c2, c3, c4, c5⟩ := h2.cells6
    obtain ⟨d0, d1, d2, d3, d4, d5⟩ := h2.right.cells6
    clear h1 x1 b1
    go_wp2_with fail
    refine (HE.out _).mono ?_; rintro e w2 ⟨rfl, b2⟩
    have h3 := h2.below b2
    have x3 := x2.below b2
    clear h2 x2 b2 c0 c1 c2 c3 c4 c5 d0 d1 d2 d3 d4 d5
    obtain ⟨c0, c1, c2, c3, c4, c5⟩ := h3.cells6
    obtain ⟨d0, d1, d2, d3, d4, d5⟩ := h3.right.cells6
    go_wp2_with fail
    refine (HO.out _).mono ?_; rintro e w3 ⟨rfl, b3⟩
    have h4 := h3.below b3
    have x4 := x3.below b3
    clear h3 x3 b3 c0 c1 c2 c3 c4 c5 d0 d1 d2 d3 d4 d5
    obtain ⟨c0, c1, c2, c3, c4, c5⟩ := h4.cells6
    obtain ⟨d0, d1, d2, d3, d4, d5⟩ := h4.right.cells6
    go_upto_region 7 with fail
    go_cut [46] (fun B wx => B = Value.bool false ∧ w3 = wx)
    case first =>
      by_cases k0 : k = 0
      · have hj := hi.out k0
        clear hk hmk hc hi
        subst k0
        by_cases heq : (⟨th, lf, r, u, d, f⟩ : En) = ⟨ot, ol, or_, ou, od, of_⟩
        · have hab : a = b := hj.2 heq
          injection heq with e1 e2 e3 e4 e5 e6
          subst e1; subst e2; subst e3; subst e4; subst e5; subst e6; subst hab
          clear hj
          go_wp2_with fail
          go_meet
          case rel => exact ⟨rfl, rfl⟩
        · have hab : (a == b) = false := by
            rw [beq_eq_false_iff_ne]
            exact fun e => heq (hj.1 e)
          have hne := en_ne heq
          clear hj heq
          rcases hne with q | q | q | q | q | q
          all_goals
            go_wp2_with fail
            go_meet
            case rel => exact ⟨rfl, rfl⟩
      · have k1 : (k == 0) = false := by simpa using k0
        clear k0 hk hmk hc hi
        go_wp2_with fail
        go_meet
        case rel => exact ⟨rfl, rfl⟩
    case rest =>
      obtain ⟨rfl, rfl⟩ := hcut
      clear hi HO
      cases lf with
      | false =>
        clear hc ha hb hk hmk
        go_wp2_with fail
        go_ret
        exact ⟨rfl, below_of1 h4.right.right x4⟩
      | true =>
        obtain ⟨ht, hxf⟩ := hmk.out rfl
        subst ht
        have hc := hc.out
        have hbits := marks_bits hc hxf
        have HX := Lib.hid (enc_yes hxf rfl)
        have hne : ¬ (used = u ∧ dirty = d) → (encW ⟨true, true, r, used, dirty, f⟩ l == encW ⟨true, true, r, u, d, f⟩ l) = false := fun hq => by
          rw [beq_eq_false_iff_ne]
          intro e
          have := (enc_inj hxf hc).1 e
          injection this with _ _ _ a b _
          exact hq ⟨a, b⟩
        have heq : used = u ∧ dirty = d → encW ⟨true, true, r, used, dirty, f⟩ l = encW ⟨true, true, r, u, d, f⟩ l := by
          rintro ⟨rfl, rfl⟩
          rfl
        rw [ha.out] at hbits hne heq
        clear hc hxf ha hb hk hmk HE
        generalize encW ⟨true, true, r, used, dirty, f⟩ l = y at *
        by_cases e1 : used = u
        · by_cases e2 : dirty = d
          · have := heq ⟨e1, e2⟩
            subst e1; subst e2; subst this
            clear heq hne
            have h5 := h4.new #[Value.bool true, Value.bool true, (Value.int .i64) r, Value.bool used, Value.bool dirty, (Value.int .i64) f] 75
            have x5 := x4.alloc (.cells #[Value.bool true, Value.bool true, (Value.int .i64) r, Value.bool used, Value.bool dirty, (Value.int .i64) f] 75)
            have dl := h4.right.lt
            go_wp2_with fail
            refine (HX.out _).mono ?_; rintro e w6 ⟨rfl, b6⟩
            have h6 := h5.below b6
            have x6 := x5.below b6
            clear h5 x5 b6 h4 x4 c0 c1 c2 c3 c4 c5 d0 d1 d2 d3 d4 d5
            obtain ⟨c0, c1, c2, c3, c4, c5⟩ := h6.cells6
            obtain ⟨d0, d1, d2, d3, d4, d5⟩ := h6.right.right.cells6
            go_wp2_with fail
            go_ret
            exact ⟨rfl, below_of1 h6.right.right.right x6⟩
          · have hxe := hne (fun h => e2 h.2)
            have q2 : (dirty == d) = false := by rw [beq_eq_false_iff_ne]; exact e2
            subst e1
            clear heq hne e2
            have h5 := h4.new #[Value.bool true, Value.bool true, (Value.int .i64) r, Value.bool used, Value.bool dirty, (Value.int .i64) f] 75
            have x5 := x4.alloc (.cells #[Value.bool true, Value.bool true, (Value.int .i64) r, Value.bool used, Value.bool dirty, (Value.int .i64) f] 75)
            have dl := h4.right.lt
            go_wp2_with fail
            refine (HX.out _).mono ?_; rintro e w6 ⟨rfl, b6⟩
            have h6 := h5.below b6
            have x6 := x5.below b6
            clear h5 x5 b6 h4 x4 c0 c1 c2 c3 c4 c5 d0 d1 d2 d3 d4 d5
            obtain ⟨c0, c1, c2, c3, c4, c5⟩ := h6.cells6
            obtain ⟨d0, d1, d2, d3, d4, d5⟩ := h6.right.right.cells6
            go_wp2_with fail
            go_ret
            exact ⟨rfl, below_of1 h6.right.right.right x6⟩
        · have hxe := hne (fun h => e1 h.1)
          have q1 : (used == u) = false := by rw [beq_eq_false_iff_ne]; exact e1
          clear heq hne e1
          have h5 := h4.new #[Value.bool true, Value.bool true, (Value.int .i64) r, Value.bool used, Value.bool dirty, (Value.int .i64) f] 75
          have x5 := x4.alloc (.cells #[Value.bool true, Value.bool true, (Value.int .i64) r, Value.bool used, Value.bool dirty, (Value.int .i64) f] 75)
          have dl := h4.right.lt
          go_wp2_with fail
          refine (HX.out _).mono ?_; rintro e w6 ⟨rfl, b6⟩
          have h6 := h5.below b6
          have x6 := x5.below b6
          clear h5 x5 b6 h4 x4 c0 c1 c2 c3 c4 c5 d0 d1 d2 d3 d4 d5
          obtain ⟨c0, c1, c2, c3, c4, c5⟩ := h6.cells6
          obtain ⟨d0, d1, d2, d3, d4, d5⟩ := h6.right.right.cells6
          go_wp2_with fail
          go_ret
          exact ⟨rfl, below_of1 h6.right.right.right x6⟩
  · have HE := Lib.hid (enc_no hc)
    have hc' : (entFault ⟨th, lf, r, u, d, f⟩ l != 0) = true := by simpa using hc
    clear hc
    generalize entFault ⟨th, lf, r, u, d, f⟩ l = k at *
    go_enter Try.func11, Try.ntmps11
    go_wp2_with fail
    refine (entryBegun_any _).mono ?_; rintro e w1 ⟨rfl, b1⟩
    have h2 := h1.below b1
    have x2 := x1.below b1
    obtain ⟨c0, c1, c2, c3, c4, c5⟩ := h2.cells6
    obtain ⟨d0, d1, d2, d3, d4, d5⟩ := h2.right.cells6
    clear h1 x1 b1
    go_wp2_with fail
    refine (HE.out _).mono ?_; rintro e w2 ⟨rfl, b2⟩
    have h3 := h2.below b2
    have x3 := x2.below b2
    clear h2 x2 b2 c0 c1 c2 c3 c4 c5 d0 d1 d2 d3 d4 d5
    obtain ⟨c0, c1, c2, c3, c4, c5⟩ := h3.cells6
    obtain ⟨d0, d1, d2, d3, d4, d5⟩ := h3.right.cells6
    go_wp2_with fail
    refine (HO.out _).mono ?_; rintro e w3 ⟨rfl, b3⟩
    have h4 := h3.below b3
    have x4 := x3.below b3
    clear h3 x3 b3 c0 c1 c2 c3 c4 c5 d0 d1 d2 d3 d4 d5
    obtain ⟨c0, c1, c2, c3, c4, c5⟩ := h4.cells6
    obtain ⟨d0, d1, d2, d3, d4, d5⟩ := h4.right.cells6
    go_wp2_with fail
    go_ret
    exact ⟨rfl, below_of1 h4.right.right x4⟩
end Go.Proofs.Ytoppmollbodigaa
