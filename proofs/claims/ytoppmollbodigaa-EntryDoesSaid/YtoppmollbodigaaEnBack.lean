/- The law EntryBack: the walk. -/
import Derived.Test.YtoppmollbodigaaEnBegun
import Derived.Test.YtoppmollbodigaaFrame
namespace Go.Proofs.Ytoppmollbodigaa
open Go.RowKit
set_option maxRecDepth 100000

/-- A decoding of a word that is one. -/
theorem dec_yes {v l : Int} (hv : 0 ≤ v ∧ v < 18446744073709551616) {y : En} (hc : decC v l = 0) (hy : decE v l = y) (W : World) :
    Calls Try.prog 54 #[.int .u64 v, .int .i64 l] W (Pure (.tuple #[.agg #[Value.bool y.there, Value.bool y.leaf, (Value.int .i64) y.rights, Value.bool y.used, Value.bool y.dirty, (Value.int .i64) y.frame], (Value.int .i64) 0]) W) := by
  have := decode_any v l W hv.1 hv.2
  unfold decV at this
  rw [hc, hy] at this
  exact this
theorem dec_no {v l : Int} (hv : 0 ≤ v ∧ v < 18446744073709551616) (hc : decC v l ≠ 0) (W : World) :
    Calls Try.prog 54 #[.int .u64 v, .int .i64 l] W (Pure (.tuple #[.agg #[Value.bool false, Value.bool false, (Value.int .i64) 0, Value.bool false, Value.bool false, (Value.int .i64) 0], (Value.int .i64) (decC v l)]) W) := by
  have := decode_any v l W hv.1 hv.2
  rw [decV_no rfl (.inl hc)] at this
  exact this
theorem enc_yes {e : En} {l a : Int} (hc : entFault e l = 0) (ha : encW e l = a) (W : World) :
    Calls Try.prog 53 #[.agg #[Value.bool e.there, Value.bool e.leaf, (Value.int .i64) e.rights, Value.bool e.used, Value.bool e.dirty, (Value.int .i64) e.frame], .int .i64 l] W (Pure (.tuple #[(Value.int .u64) a, (Value.int .i64) 0]) W) := by
  have := encode_any e l W
  rw [hc, ha] at this
  exact this
theorem enc_no {e : En} {l : Int} (hc : entFault e l ≠ 0) (W : World) :
    Calls Try.prog 53 #[.agg #[Value.bool e.there, Value.bool e.leaf, (Value.int .i64) e.rights, Value.bool e.used, Value.bool e.dirty, (Value.int .i64) e.frame], .int .i64 l] W (Pure (.tuple #[(Value.int .u64) 0, (Value.int .i64) (entFault e l)]) W) := by
  have := encode_any e l W
  rw [encW_fault hc] at this
  exact this

set_option maxHeartbeats 4000000 in
theorem entryBack_walk (e : En) (v l : Int) (w : World) (_ : e.ok) (ov : u64 v) (_ : i64 l) :
    Calls Try.prog 10 #[.agg #[Value.bool e.there, Value.bool e.leaf, (Value.int .i64) e.rights, Value.bool e.used, Value.bool e.dirty, (Value.int .i64) e.frame], (Value.int .u64) v, (Value.int .i64) l] w (Pure (Value.bool true) w) := by
  have ov : 0 ≤ v ∧ v < 18446744073709551616 := by obtain ⟨a, b⟩ := ov; omega
  obtain ⟨th, lf, r, u, d, f⟩ := e
  have h1 := Has.new (has_old w) #[Value.bool th, Value.bool lf, (Value.int .i64) r, Value.bool u, Value.bool d, (Value.int .i64) f] 75
  have x1 := (Ext.refl w).alloc (.cells #[Value.bool th, Value.bool lf, (Value.int .i64) r, Value.bool u, Value.bool d, (Value.int .i64) f] 75)
  by_cases hc : entFault ⟨th, lf, r, u, d, f⟩ l = 0
  · obtain ⟨k1, k2, k3⟩ := dec_enc hc
    have HE := Lib.hid (enc_yes hc rfl)
    have HD := Lib.hid (dec_yes (encW_range ⟨th, lf, r, u, d, f⟩ l) k1 k2)
    have hz : (encW ⟨th, lf, r, u, d, f⟩ l == 0) = !th := by
      cases th with
      | true =>
        rw [Bool.not_true, beq_eq_false_iff_ne]
        intro h
        have := k3.1 h
        cases this
      | false =>
        rw [Bool.not_false, beq_iff_eq]
        exact k3.2 rfl
    clear hc k1 k2 k3
    generalize encW ⟨th, lf, r, u, d, f⟩ l = a at *
    go_enter Try.func10, Try.ntmps10
    go_wp2_with fail
    refine (entryBegun_any _).mono ?_; rintro e w1 ⟨rfl, b1⟩
    have h2 := h1.below b1
    have x2 := x1.below b1
    obtain ⟨c0, c1, c2, c3, c4, c5⟩ := h2.cells6
    clear h1 x1 b1
    go_wp2_with fail
    refine (HE.out _).mono ?_; rintro e w2 ⟨rfl, b2⟩
    have h3 := h2.below b2
    have x3 := x2.below b2
    clear h2 x2 b2 HE c0 c1 c2 c3 c4 c5
    go_wp2_with fail
    refine (HD.out _).mono ?_; rintro e w3 ⟨rfl, b3⟩
    have h4' := (h3.below b3).new #[Value.bool th, Value.bool lf, (Value.int .i64) r, Value.bool u, Value.bool d, (Value.int .i64) f] 75
    have x4 := (x3.below b3).alloc (.cells #[Value.bool th, Value.bool lf, (Value.int .i64) r, Value.bool u, Value.bool d, (Value.int .i64) f] 75)
    obtain ⟨c0, c1, c2, c3, c4, c5⟩ := (h3.below b3).cells6
    have cl := (h3.below b3).lt
    have h4 := h4'.right.right
    clear h3 x3 b3 HD h4'
    by_cases hd : decC v l = 0
    · obtain ⟨hf, hw⟩ := enc_dec hd
      have HD := Lib.hid (dec_yes ov hd rfl)
      have HE := Lib.hid (enc_yes hf hw)
      clear hd hf hw
      generalize decE v l = y at *
      obtain ⟨yt, yl, yr, yu, yd, yf⟩ := y
      go_wp2_with fail
      refine (HD.out _).mono ?_; rintro e w4 ⟨rfl, b4⟩
      have h5 := (h4.below b4).alloc (.cells #[Value.bool yt, Value.bool yl, (Value.int .i64) yr, Value.bool yu, Value.bool yd, (Value.int .i64) yf] 75)
      have x5 := (x4.below b4).alloc (.cells #[Value.bool yt, Value.bool yl, (Value.int .i64) yr, Value.bool yu, Value.bool yd, (Value.int .i64) yf] 75)
      clear h4 x4 b4 HD
      go_wp2_with fail
      refine (HE.out _).mono ?_; rintro e w5 ⟨rfl, b5⟩
      have h6 := h5.below b5
      have x6 := x5.below b5
      clear h5 x5 b5 HE
      go_wp2_with fail
      go_ret
      exact ⟨rfl, below_of1 h6 x6⟩
    · have HD := Lib.hid (dec_no ov hd)
      have hd' : (decC v l != 0) = true := by simpa using hd
      clear hd
      generalize decC v l = c at *
      go_wp2_with fail
      refine (HD.out _).mono ?_; rintro e w4 ⟨rfl, b4⟩
      have h5 := (h4.below b4).alloc (.cells #[Value.bool false, Value.bool false, (Value.int .i64) 0, Value.bool false, Value.bool false, (Value.int .i64) 0] 75)
      have x5 := (x4.below b4).alloc (.cells #[Value.bool false, Value.bool false, (Value.int .i64) 0, Value.bool false, Value.bool false, (Value.int .i64) 0] 75)
      clear h4 x4 b4 HD
      go_wp2_with fail
      go_ret
      exact ⟨rfl, below_of1 h5 x5⟩
  · have HE := Lib.hid (enc_no hc)
    have hc' : (entFault ⟨th, lf, r, u, d, f⟩ l == 0) = false := by simpa using hc
    clear hc
    generalize entFault ⟨th, lf, r, u, d, f⟩ l = k at *
    go_enter Try.func10, Try.ntmps10
    go_wp2_with fail
    refine (entryBegun_any _).mono ?_; rintro e w1 ⟨rfl, b1⟩
    have h2 := h1.below b1
    have x2 := x1.below b1
    obtain ⟨c0, c1, c2, c3, c4, c5⟩ := h2.cells6
    clear h1 x1 b1
    go_wp2_with fail
    refine (HE.out _).mono ?_; rintro e w2 ⟨rfl, b2⟩
    have h4 := (h2.below b2).right
    have x4 := x2.below b2
    clear h2 x2 b2 HE c0 c1 c2 c3 c4 c5
    by_cases hd : decC v l = 0
    · obtain ⟨hf, hw⟩ := enc_dec hd
      have HD := Lib.hid (dec_yes ov hd rfl)
      have HE := Lib.hid (enc_yes hf hw)
      clear hd hf hw
      generalize decE v l = y at *
      obtain ⟨yt, yl, yr, yu, yd, yf⟩ := y
      go_wp2_with fail
      refine (HD.out _).mono ?_; rintro e w4 ⟨rfl, b4⟩
      have h5 := (h4.below b4).alloc (.cells #[Value.bool yt, Value.bool yl, (Value.int .i64) yr, Value.bool yu, Value.bool yd, (Value.int .i64) yf] 75)
      have x5 := (x4.below b4).alloc (.cells #[Value.bool yt, Value.bool yl, (Value.int .i64) yr, Value.bool yu, Value.bool yd, (Value.int .i64) yf] 75)
      clear h4 x4 b4 HD
      go_wp2_with fail
      refine (HE.out _).mono ?_; rintro e w5 ⟨rfl, b5⟩
      have h6 := h5.below b5
      have x6 := x5.below b5
      clear h5 x5 b5 HE
      go_wp2_with fail
      go_ret
      exact ⟨rfl, below_of1 h6 x6⟩
    · have HD := Lib.hid (dec_no ov hd)
      have hd' : (decC v l != 0) = true := by simpa using hd
      clear hd
      generalize decC v l = c at *
      go_wp2_with fail
      refine (HD.out _).mono ?_; rintro e w4 ⟨rfl, b4⟩
      have h5 := (h4.below b4).alloc (.cells #[Value.bool false, Value.bool false, (Value.int .i64) 0, Value.bool false, Value.bool false, (Value.int .i64) 0] 75)
      have x5 := (x4.below b4).alloc (.cells #[Value.bool false, Value.bool false, (Value.int .i64) 0, Value.bool false, Value.bool false, (Value.int .i64) 0] 75)
      clear h4 x4 b4 HD
      go_wp2_with fail
      go_ret
      exact ⟨rfl, below_of1 h5 x5⟩
end Go.Proofs.Ytoppmollbodigaa
