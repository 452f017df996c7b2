/- The contract of entry.Decode. -/
import Derived.Test.YtndhgomikpokpaaEntry
import Derived.Test.YtndhgomikpokpaaDecV
import Derived.Test.YtndhgomikpokpaaRet
namespace Go.Proofs.Ytndhgomikpokpaa
open Go.RowKit
set_option maxRecDepth 100000

set_option maxHeartbeats 4000000 in
theorem decode_any (w l : Int) (W : World) (h0 : 0 ≤ w) (h1 : w < 18446744073709551616) : Calls Try.prog 115 #[.int .u64 w, .int .i64 l] W (Pure (decV w l) W) := by
  have hw := Has.new (has_old W) #[Value.bool false, Value.bool false, (Value.int .i64) 0, Value.bool false, Value.bool false, (Value.int .i64) 0] 58
  have xw := (Ext.refl W).alloc (.cells #[Value.bool false, Value.bool false, (Value.int .i64) 0, Value.bool false, Value.bool false, (Value.int .i64) 0] 58)
  by_cases l0 : l < 0
  · have hy := Lib.hid (decV_no (w := w) (l := l) (c := 1) (by unfold decC; rw [if_pos (.inl l0)]) (.inl (by decide)))
    generalize decV _ l = V at hy ⊢
    go_enter Try.func115, Try.ntmps115
    go_wp2
    all_goals exact bodyPost_ret (results_ct Try.results115 rfl rfl (load_entry hw)) rfl ⟨congrArg Ending.returned hy.out.symm, below_of1 hw.right xw⟩
  by_cases l4 : 4 ≤ l
  · have hy := Lib.hid (decV_no (w := w) (l := l) (c := 1) (by unfold decC; rw [if_pos (.inr l4)]) (.inl (by decide)))
    generalize decV _ l = V at hy ⊢
    go_enter Try.func115, Try.ntmps115
    go_wp2
    all_goals exact bodyPost_ret (results_ct Try.results115 rfl rfl (load_entry hw)) rfl ⟨congrArg Ending.returned hy.out.symm, below_of1 hw.right xw⟩
  have e1 := and1 w h0 h1
  have e7 := and7 w h0 h1
  have e32 := and32 w h0 h1
  have e64 := and64 w h0 h1
  have e128 := and128 w h0 h1
  have eA := andNot_known w h0 h1
  have hl : 0 ≤ l ∧ l < 4 := by omega
  cases hs : strayB w with
  | true =>
    have hy := Lib.hid (decV_no (decC_stray hl (.inl hs)) (.inl (by decide)))
    rw [hs] at eA
    clear hs hl
    generalize decV _ l = V at hy ⊢
    go_enter Try.func115, Try.ntmps115
    go_wp2
    all_goals exact bodyPost_ret (results_ct Try.results115 rfl rfl (load_entry hw)) rfl ⟨congrArg Ending.returned hy.out.symm, below_of1 hw.right xw⟩
  | false =>
    rw [hs] at eA
    by_cases wz : w = 0
    · subst wz
      have hy := Lib.hid (decV_no (w := 0) (l := l) (c := 0) (by rw [decC_ok hl hs (.inl rfl) (fun _ => rfl)]; rfl) (.inr rfl))
      have z : (bits .and .u64 0 128 != 0) = false := rfl
      clear hs hl e1 e7 e32 e64 e128
      have e1 : bits .and .u64 0 1 = 0 := rfl
      generalize decV _ l = V at hy ⊢
      go_enter Try.func115, Try.ntmps115
      go_wp2
      all_goals exact bodyPost_ret (results_ct Try.results115 rfl rfl (load_entry hw)) rfl ⟨congrArg Ending.returned hy.out.symm, below_of1 hw.right xw⟩
    have wz' : (w != 0) = true := by simpa using wz
    have wz'' : (w == 0) = false := by simpa using wz
    by_cases w1 : w % 2 = 0
    · have hy := Lib.hid (decV_no (decC_stray hl (.inr (.inl ⟨w1, wz⟩))) (.inl (by decide)))
      have w1' : (w % 2 == 0) = true := by simpa using w1
      clear hs hl w1 wz
      generalize decV _ l = V at hy ⊢
      go_enter Try.func115, Try.ntmps115
      go_wp2
      all_goals exact bodyPost_ret (results_ct Try.results115 rfl rfl (load_entry hw)) rfl ⟨congrArg Ending.returned hy.out.symm, below_of1 hw.right xw⟩
    have w1' : (w % 2 == 0) = false := by simpa using w1
    have w2 : w % 2 = 1 := by omega
    by_cases lz : l = 0 ∧ bitOf w 128 = true
    · obtain ⟨rfl, lb⟩ := lz
      have hy := Lib.hid (decV_no (decC_stray hl (.inr (.inr ⟨rfl, lb⟩))) (.inl (by decide)))
      rw [lb] at e128
      clear hs hl w1 wz w2 lb
      generalize decV _ 0 = V at hy ⊢
      go_enter Try.func115, Try.ntmps115
      go_wp2
      all_goals exact bodyPost_ret (results_ct Try.results115 rfl rfl (load_entry hw)) rfl ⟨congrArg Ending.returned hy.out.symm, below_of1 hw.right xw⟩
    have hd : decC w l = entFault (unword w l) l := by
      rw [decC_ok hl hs (.inr w2) (fun e => ?_), if_neg wz]
      cases hb : bitOf w 128 with
      | false => rfl
      | true => exact absurd ⟨e, hb⟩ lz
    have b32 : w < 4294967296 := by
      unfold strayB at hs
      simp at hs
      exact hs.2.2
    have hv0 : decC w l = 0 → decV w l = .tuple #[.agg #[Value.bool true, Value.bool (unword w l).leaf, (Value.int .i64) (w / 2 % 8), Value.bool (bitOf w 32), Value.bool (bitOf w 64), (Value.int .i64) (w / 4096)], (Value.int .i64) 0] := fun hc => by
      unfold decV decE
      rw [if_pos ⟨hc, wz⟩, hc]
      rfl
    have hv0 := Lib.hid hv0
    by_cases l00 : l = 0
    · subst l00
      have he : unword w 0 = ⟨true, true, w / 2 % 8, bitOf w 32, bitOf w 64, w / 4096⟩ := rfl
      have e128' : bitOf w 128 = false := by
        cases hb : bitOf w 128 with
        | false => rfl
        | true => exact absurd ⟨rfl, hb⟩ lz
      rw [e128'] at e128
      clear e128'
      have HC : ∀ X, Calls Try.prog 140 #[.agg #[Value.bool true, Value.bool (true), (Value.int .i64) (w / 2 % 8), Value.bool (bitOf w 32), Value.bool (bitOf w 64), (Value.int .i64) (w / 4096)], .int .i64 0] X (Pure ((Value.int .i64) (decC w 0)) X) := fun X => by
        have := entCheck_any (unword w 0) 0 X
        rw [← hd, he] at this
        exact this
      have HC := Lib.hid HC
      rw [he] at hv0
      have hx := hw.new #[Value.bool true, Value.bool (true), (Value.int .i64) (w / 2 % 8), Value.bool (bitOf w 32), Value.bool (bitOf w 64), (Value.int .i64) (w / 4096)] 58
      have xx := xw.alloc (.cells #[Value.bool true, Value.bool (true), (Value.int .i64) (w / 2 % 8), Value.bool (bitOf w 32), Value.bool (bitOf w 64), (Value.int .i64) (w / 4096)] 58)
      simp only [World.size_alloc] at hx
      have hno := Lib.hid (fun hc => decV_no (w := w) (l := 0) (c := decC w 0) rfl (.inl hc))
      clear hs hl w1 wz w2 lz hd he
      by_cases hc : decC w 0 = 0
      · have hy := Lib.hid (hv0.out hc)
        rw [hc] at HC
        clear hc hv0 hno
        generalize decV w 0 = V at hy ⊢
        go_enter Try.func115, Try.ntmps115
        go_wp2_with fail
        refine (HC.out _).mono ?_; rintro e w2 ⟨rfl, bl⟩
        have h2 := hx.below bl
        have x2 := xx.below bl
        obtain ⟨c0, c1, c2, c3, c4, c5⟩ := h2.cells6
        obtain ⟨d0, d1, d2, d3, d4, d5⟩ := h2.right.cells6
        obtain ⟨f0, f1, f2, f3, f4, f5⟩ := h2.right.frees6
        have l2 := h2.right.lt
        clear HC bl hx xx hw xw
        go_wp2
        refine ret_via (fun wz => Has wz (blk W.heap.size #[Value.bool true, Value.bool (true), (Value.int .i64) (w / 2 % 8), Value.bool (bitOf w 32), Value.bool (bitOf w 64), (Value.int .i64) (w / 4096)] 58 * old W W.heap.size) ∧ Ext W wz) ⟨h2.right.set6 _ _ _ _ _ _, by (repeat (first | with_reducible assumption | with_reducible exact Ext.refl _ | with_reducible refine Ext.set ?_ _ _ | with_reducible refine Ext.alloc ?_ _ | with_reducible refine Ext.drew ?_ | with_reducible refine Ext.drewN ?_ _ | assumption | exact Ext.refl _ | refine Ext.alloc ?_ _ | refine Ext.set ?_ _ _ | refine Ext.drew ?_ | refine Ext.drewN ?_ _ | refine Ext.below ?_ (by assumption) | refine Ext.trans ?_ (by assumption)))⟩ ?_
        rintro wz ⟨hz, xz⟩
        exact bodyPost_ret (results_ct Try.results115 rfl rfl (load_entry hz)) rfl ⟨congrArg Ending.returned hy.out.symm, below_of1 hz.right xz⟩
      · have hy := Lib.hid (hno.out hc)
        have hn : (decC w 0 != 0) = true := by simpa using hc
        clear hc hv0 hno
        generalize decV w 0 = V at hy ⊢
        generalize decC w 0 = c at *
        go_enter Try.func115, Try.ntmps115
        go_wp2_with fail
        refine (HC.out _).mono ?_; rintro e w2 ⟨rfl, bl⟩
        have h2 := hx.below bl
        have x2 := xx.below bl
        obtain ⟨c0, c1, c2, c3, c4, c5⟩ := h2.cells6
        obtain ⟨d0, d1, d2, d3, d4, d5⟩ := h2.right.cells6
        obtain ⟨f0, f1, f2, f3, f4, f5⟩ := h2.right.frees6
        have l2 := h2.right.lt
        clear HC bl hx xx hw xw
        go_wp2
        refine ret_via (fun wz => Has wz (blk W.heap.size #[Value.bool false, Value.bool false, (Value.int .i64) 0, Value.bool false, Value.bool false, (Value.int .i64) 0] 58 * old W W.heap.size) ∧ Ext W wz) ⟨h2.right.set6 _ _ _ _ _ _, by (repeat (first | with_reducible assumption | with_reducible exact Ext.refl _ | with_reducible refine Ext.set ?_ _ _ | with_reducible refine Ext.alloc ?_ _ | with_reducible refine Ext.drew ?_ | with_reducible refine Ext.drewN ?_ _ | assumption | exact Ext.refl _ | refine Ext.alloc ?_ _ | refine Ext.set ?_ _ _ | refine Ext.drew ?_ | refine Ext.drewN ?_ _ | refine Ext.below ?_ (by assumption) | refine Ext.trans ?_ (by assumption)))⟩ ?_
        rintro wz ⟨hz, xz⟩
        exact bodyPost_ret (results_ct Try.results115 rfl rfl (load_entry hz)) rfl ⟨congrArg Ending.returned hy.out.symm, below_of1 hz.right xz⟩
    · have l00' : (l == 0) = false := by simpa using l00
      have he : unword w l = ⟨true, bitOf w 128, w / 2 % 8, bitOf w 32, bitOf w 64, w / 4096⟩ := by unfold unword; rw [l00']; rfl
      clear l00
      have HC : ∀ X, Calls Try.prog 140 #[.agg #[Value.bool true, Value.bool (bitOf w 128), (Value.int .i64) (w / 2 % 8), Value.bool (bitOf w 32), Value.bool (bitOf w 64), (Value.int .i64) (w / 4096)], .int .i64 l] X (Pure ((Value.int .i64) (decC w l)) X) := fun X => by
        have := entCheck_any (unword w l) l X
        rw [← hd, he] at this
        exact this
      have HC := Lib.hid HC
      rw [he] at hv0
      have hx := hw.new #[Value.bool true, Value.bool (bitOf w 128), (Value.int .i64) (w / 2 % 8), Value.bool (bitOf w 32), Value.bool (bitOf w 64), (Value.int .i64) (w / 4096)] 58
      have xx := xw.alloc (.cells #[Value.bool true, Value.bool (bitOf w 128), (Value.int .i64) (w / 2 % 8), Value.bool (bitOf w 32), Value.bool (bitOf w 64), (Value.int .i64) (w / 4096)] 58)
      simp only [World.size_alloc] at hx
      have hno := Lib.hid (fun hc => decV_no (w := w) (l := l) (c := decC w l) rfl (.inl hc))
      clear hs hl w1 wz w2 lz hd he
      by_cases hc : decC w l = 0
      · have hy := Lib.hid (hv0.out hc)
        rw [hc] at HC
        clear hc hv0 hno
        generalize decV w l = V at hy ⊢
        go_enter Try.func115, Try.ntmps115
        go_wp2_with fail
        refine (HC.out _).mono ?_; rintro e w2 ⟨rfl, bl⟩
        have h2 := hx.below bl
        have x2 := xx.below bl
        obtain ⟨c0, c1, c2, c3, c4, c5⟩ := h2.cells6
        obtain ⟨d0, d1, d2, d3, d4, d5⟩ := h2.right.cells6
        obtain ⟨f0, f1, f2, f3, f4, f5⟩ := h2.right.frees6
        have l2 := h2.right.lt
        clear HC bl hx xx hw xw
        go_wp2
        refine ret_via (fun wz => Has wz (blk W.heap.size #[Value.bool true, Value.bool (bitOf w 128), (Value.int .i64) (w / 2 % 8), Value.bool (bitOf w 32), Value.bool (bitOf w 64), (Value.int .i64) (w / 4096)] 58 * old W W.heap.size) ∧ Ext W wz) ⟨h2.right.set6 _ _ _ _ _ _, by (repeat (first | with_reducible assumption | with_reducible exact Ext.refl _ | with_reducible refine Ext.set ?_ _ _ | with_reducible refine Ext.alloc ?_ _ | with_reducible refine Ext.drew ?_ | with_reducible refine Ext.drewN ?_ _ | assumption | exact Ext.refl _ | refine Ext.alloc ?_ _ | refine Ext.set ?_ _ _ | refine Ext.drew ?_ | refine Ext.drewN ?_ _ | refine Ext.below ?_ (by assumption) | refine Ext.trans ?_ (by assumption)))⟩ ?_
        rintro wz ⟨hz, xz⟩
        exact bodyPost_ret (results_ct Try.results115 rfl rfl (load_entry hz)) rfl ⟨congrArg Ending.returned hy.out.symm, below_of1 hz.right xz⟩
      · have hy := Lib.hid (hno.out hc)
        have hn : (decC w l != 0) = true := by simpa using hc
        clear hc hv0 hno
        generalize decV w l = V at hy ⊢
        generalize decC w l = c at *
        go_enter Try.func115, Try.ntmps115
        go_wp2_with fail
        refine (HC.out _).mono ?_; rintro e w2 ⟨rfl, bl⟩
        have h2 := hx.below bl
        have x2 := xx.below bl
        obtain ⟨c0, c1, c2, c3, c4, c5⟩ := h2.cells6
        obtain ⟨d0, d1, d2, d3, d4, d5⟩ := h2.right.cells6
        obtain ⟨f0, f1, f2, f3, f4, f5⟩ := h2.right.frees6
        have l2 := h2.right.lt
        clear HC bl hx xx hw xw
        go_wp2
        refine ret_via (fun wz => Has wz (blk W.heap.size #[Value.bool false, Value.bool false, (Value.int .i64) 0, Value.bool false, Value.bool false, (Value.int .i64) 0] 58 * old W W.heap.size) ∧ Ext W wz) ⟨h2.right.set6 _ _ _ _ _ _, by (repeat (first | with_reducible assumption | with_reducible exact Ext.refl _ | with_reducible refine Ext.set ?_ _ _ | with_reducible refine Ext.alloc ?_ _ | with_reducible refine Ext.drew ?_ | with_reducible refine Ext.drewN ?_ _ | assumption | exact Ext.refl _ | refine Ext.alloc ?_ _ | refine Ext.set ?_ _ _ | refine Ext.drew ?_ | refine Ext.drewN ?_ _ | refine Ext.below ?_ (by assumption) | refine Ext.trans ?_ (by assumption)))⟩ ?_
        rintro wz ⟨hz, xz⟩
        exact bodyPost_ret (results_ct Try.results115 rfl rfl (load_entry hz)) rfl ⟨congrArg Ending.returned hy.out.symm, below_of1 hz.right xz⟩
end Go.Proofs.Ytndhgomikpokpaa
