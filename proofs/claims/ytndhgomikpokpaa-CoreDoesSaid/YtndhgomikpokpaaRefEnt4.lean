/- Contract of wayleaveref.EntryOf: the walk. -/
import Derived.Test.YtndhgomikpokpaaRefEnt
import Derived.Test.YtndhgomikpokpaaRet
import Derived.Deep.RegionHeld3
import Derived.Deep.DeepCutAuto
import Derived.Deep.CutBlock
namespace Go.Proofs.Ytndhgomikpokpaa
open Go.RowKit
set_option maxRecDepth 100000

theorem on_any (b : Nat) (w : Int) (k : Nat) (W : World) (c0 : W.cell? ⟨b, 0, none⟩ = some ((Value.int .u64) w)) (h0 : 0 ≤ w) (_ : w < 18446744073709551616) (hk : k < 64) :
    Calls Try.prog 142 #[(Value.int .u64) k, .pointer (some ⟨b, 0, none⟩)] W (Same (Value.bool (bitOf w ((2 ^ k : Nat) : Int))) W) := by
  have hy := Lib.hid (show bitOf w ((2 ^ k : Nat) : Int) = ((w / 2 ^ k).tmod 2 == 1) by
    unfold bitOf
    rw [show ((2 ^ k : Nat) : Int) = 2 ^ k by simp, Int.tmod_eq_emod_of_nonneg (Int.ediv_nonneg h0 (Int.le_of_lt (Int.pow_pos (by decide))))]
    rfl)
  generalize bitOf w ((2 ^ k : Nat) : Int) = B at *
  go_enter Try.func142, Try.ntmps142
  go_wp2
  go_ret
  exact ⟨by rw [hy.out]; rfl, rfl⟩
theorem on_is (b : Nat) (w : Int) (k : Nat) (B : Bool) (h : bitOf w ((2 ^ k : Nat) : Int) = B) (W : World) (c0 : W.cell? ⟨b, 0, none⟩ = some ((Value.int .u64) w)) (h0 : 0 ≤ w) (h1 : w < 18446744073709551616) (hk : k < 64) :
    Calls Try.prog 142 #[(Value.int .u64) k, .pointer (some ⟨b, 0, none⟩)] W (Same (Value.bool B) W) := h ▸ on_any b w k W c0 h0 h1 hk
theorem decC_bad {w l : Int} {k : Nat} (hl : 0 ≤ l ∧ l < 4) (h0 : 0 ≤ w) (hk : k < 64) (h : badB w l k = true) : decC w l = 7 := by
  unfold decC
  rw [if_neg (by omega), if_pos (badB_yes h0 hk h)]
set_option maxHeartbeats 8000000 in
theorem entryOf_any (w l : Int) (W : World) (h0 : 0 ≤ w) (h1 : w < 18446744073709551616) : Calls Try.prog 107 #[.int .u64 w, .int .i64 l] W (Pure (decV w l) W) := by
  have hmf : ∀ (fn : Fn) (first cap : Array Value) (w : World), (Instr.makeFunc fn first cap).run Try.prog w = .ok (.func fn first cap) w := fun _ _ _ _ => rfl
  have hw := (Has.new (has_old W) #[(Value.int .u64) w] 67).new #[Value.bool false, Value.bool false, (Value.int .i64) 0, Value.bool false, Value.bool false, (Value.int .i64) 0] 58
  have xw := ((Ext.refl W).alloc (.cells #[(Value.int .u64) w] 67)).alloc (.cells #[Value.bool false, Value.bool false, (Value.int .i64) 0, Value.bool false, Value.bool false, (Value.int .i64) 0] 58)
  simp only [World.size_alloc] at hw
  by_cases l0 : l < 0
  · have hy := Lib.hid (decV_no (w := w) (l := l) (c := 1) (by unfold decC; rw [if_pos (.inl l0)]) (.inl (by decide)))
    generalize decV w l = V at hy ⊢
    go_enter Try.func107, Try.ntmps107
    go_wp2
    exact bodyPost_ret (results_ct Try.results107 rfl rfl (load_entry hw)) rfl ⟨congrArg Ending.returned hy.out.symm, below_of1 hw.right.right xw⟩
  by_cases l4 : 4 ≤ l
  · have hy := Lib.hid (decV_no (w := w) (l := l) (c := 1) (by unfold decC; rw [if_pos (.inr l4)]) (.inl (by decide)))
    generalize decV w l = V at hy ⊢
    go_enter Try.func107, Try.ntmps107
    go_wp2
    exact bodyPost_ret (results_ct Try.results107 rfl rfl (load_entry hw)) rfl ⟨congrArg Ending.returned hy.out.symm, below_of1 hw.right.right xw⟩
  have hl : 0 ≤ l ∧ l < 4 := by omega
  go_enter Try.func107, Try.ntmps107
  go_wp2_with fail
  generalize (W.alloc (.cells #[(Value.int .u64) w] 67)).alloc (.cells #[Value.bool false, Value.bool false, (Value.int .i64) 0, Value.bool false, Value.bool false, (Value.int .i64) 0] 58) = W2 at *
  obtain ⟨d0, d1, d2, d3, d4, d5⟩ := hw.cells6
  have wc : W2.cell? ⟨W.heap.size, 0, none⟩ = some ((Value.int .u64) w) := hw.right.cell 0
  have f0 := hw.free 0
  have f1 := hw.free 1
  have f2 := hw.free 2
  have f3 := hw.free 3
  have f4 := hw.free 4
  have f5 := hw.free 5
  have zl := hw.lt
  have zl2 := hw.right.lt
  go_loopw [7] (fun t wz => ∃ k : Nat, k ≤ 64 ∧ t = (Value.int .u64) k ∧ (∀ i, i < k → badB w l i = false) ∧ W2 = wz) (fun t _ => 64 - (intOf t).toNat)
  case atStart => exact ⟨0, by omega, rfl, fun i hi => by omega, rfl⟩
  case round =>
    obtain ⟨k, hk, rfl, hno, rfl⟩ := hrel
    by_cases hk64 : k < 64
    · obtain ⟨kn, hkn⟩ : ∃ kn, knownB k = kn := ⟨_, rfl⟩
      have hkn := Lib.hid hkn
      have hnx := Lib.hid hno
      clear hno
      go_upto_region 7 with fail
      go_cut [8] (fun B wx => B = Value.bool kn ∧ W2 = wx)
      case first =>
        have hr : (0 ≤ k ∧ k ≤ 3) ∨ (4 ≤ k ∧ k ≤ 4) ∨ (5 ≤ k ∧ k ≤ 7) ∨ (8 ≤ k ∧ k ≤ 11) ∨ (12 ≤ k ∧ k ≤ 31) ∨ (32 ≤ k ∧ k ≤ 63) := by omega
        rcases hr with ⟨r1, r2⟩ | ⟨r1, r2⟩ | ⟨r1, r2⟩ | ⟨r1, r2⟩ | ⟨r1, r2⟩ | ⟨r1, r2⟩
        · skip
          have hk2 := Lib.hid (show Value.bool true = Value.bool kn by rw [← hkn.out]; congr 1; unfold knownB; symm; simp; omega)
          clear hkn hnx
          go_wp2_with fail
          go_meet
          case rel => exact ⟨by first | (rw [← hk2.out]; done) | (rw [← hk2.out]; rfl) | (rw [← hk2.out]; simp; done) | (rw [← hk2.out]; simp; omega), rfl⟩
        · skip
          have hk2 := Lib.hid (show Value.bool false = Value.bool kn by rw [← hkn.out]; congr 1; unfold knownB; symm; simp; omega)
          clear hkn hnx
          go_wp2_with fail
          go_meet
          case rel => exact ⟨by first | (rw [← hk2.out]; done) | (rw [← hk2.out]; rfl) | (rw [← hk2.out]; simp; done) | (rw [← hk2.out]; simp; omega), rfl⟩
        · skip
          have hk2 := Lib.hid (show Value.bool true = Value.bool kn by rw [← hkn.out]; congr 1; unfold knownB; symm; simp; omega)
          clear hkn hnx
          go_wp2_with fail
          go_meet
          case rel => exact ⟨by first | (rw [← hk2.out]; done) | (rw [← hk2.out]; rfl) | (rw [← hk2.out]; simp; done) | (rw [← hk2.out]; simp; omega), rfl⟩
        · skip
          have hk2 := Lib.hid (show Value.bool false = Value.bool kn by rw [← hkn.out]; congr 1; unfold knownB; symm; simp; omega)
          clear hkn hnx
          go_wp2_with fail
          go_meet
          case rel => exact ⟨by first | (rw [← hk2.out]; done) | (rw [← hk2.out]; rfl) | (rw [← hk2.out]; simp; done) | (rw [← hk2.out]; simp; omega), rfl⟩
        · skip
          have hk2 := Lib.hid (show Value.bool true = Value.bool kn by rw [← hkn.out]; congr 1; unfold knownB; symm; simp; omega)
          clear hkn hnx
          go_wp2_with fail
          go_meet
          case rel => exact ⟨by first | (rw [← hk2.out]; done) | (rw [← hk2.out]; rfl) | (rw [← hk2.out]; simp; done) | (rw [← hk2.out]; simp; omega), rfl⟩
        · skip
          have hk2 := Lib.hid (show Value.bool false = Value.bool kn by rw [← hkn.out]; congr 1; unfold knownB; symm; simp; omega)
          clear hkn hnx
          go_wp2_with fail
          go_meet
          case rel => exact ⟨by first | (rw [← hk2.out]; done) | (rw [← hk2.out]; rfl) | (rw [← hk2.out]; simp; done) | (rw [← hk2.out]; simp; omega), rfl⟩
      case rest =>
        obtain ⟨rfl, rfl⟩ := hcut
        cases hbit : bitOf w ((2 ^ k : Nat) : Int) with
        | false =>
          have hno' := Lib.hid (fun (i : Nat) (hi : i < k + 1) => show badB w l i = false by
            by_cases e : i = k
            · subst e; unfold badB; rw [hbit]; rfl
            · exact hnx.out i (by omega))
          clear hnx hkn
          go_wp2_with fail
          refine (on_is _ w k false hbit _ wc h0 h1 hk64).mono ?_; rintro e w' ⟨rfl, rfl⟩
          go_wp2_with fail
          go_roundw
          case rel => exact ⟨k + 1, by omega, by go_num, hno'.out, trivial⟩
          case measure => simp [intOf]; omega
        | true =>
          cases kn with
          | false =>
            have hy := Lib.hid (decV_no (decC_bad hl h0 hk64 (show badB w l k = true by unfold badB; rw [hbit]; rw [hkn.out]; rfl)) (.inl (by decide)))
            clear hkn hnx
            go_wp2_with fail
            refine (on_is _ w k true hbit _ wc h0 h1 hk64).mono ?_; rintro e w' ⟨rfl, rfl⟩
            go_wp2_with fail
            refine ret_via (fun wz => Has wz (blk (W.heap.size + 1) #[Value.bool false, Value.bool false, (Value.int .i64) 0, Value.bool false, Value.bool false, (Value.int .i64) 0] 58 * (blk W.heap.size #[(Value.int .u64) w] 67 * old W W.heap.size)) ∧ Ext W wz) ⟨hw.set6 _ _ _ _ _ _, by (repeat (first | with_reducible assumption | with_reducible exact Ext.refl _ | with_reducible refine Ext.set ?_ _ _ | with_reducible refine Ext.alloc ?_ _ | with_reducible refine Ext.drew ?_ | with_reducible refine Ext.drewN ?_ _ | assumption | exact Ext.refl _ | refine Ext.alloc ?_ _ | refine Ext.set ?_ _ _ | refine Ext.drew ?_ | refine Ext.drewN ?_ _ | refine Ext.below ?_ (by assumption) | refine Ext.trans ?_ (by assumption)))⟩ ?_
            rintro wz ⟨hz, xz⟩
            exact bodyPost_ret (results_ct Try.results107 rfl rfl (load_entry hz)) rfl ⟨congrArg Ending.returned hy.out.symm, below_of1 hz.right.right xz⟩
          | true =>
            cases hb1 : bitOf w 1 with
            | false =>
              have hy := Lib.hid (decV_no (decC_bad hl h0 hk64 (show badB w l k = true by unfold badB; rw [hbit]; rw [hb1]; simp)) (.inl (by decide)))
              have hb0 : bitOf w ((2 ^ 0 : Nat) : Int) = false := hb1
              clear hkn hnx
              go_wp2_with fail
              refine (on_is _ w k true hbit _ wc h0 h1 hk64).mono ?_; rintro e w' ⟨rfl, rfl⟩
              go_wp2_with fail
              refine (on_is _ w 0 false hb0 _ wc h0 h1 (by omega)).mono ?_; rintro e w' ⟨rfl, rfl⟩
              go_wp2_with fail
              refine ret_via (fun wz => Has wz (blk (W.heap.size + 1) #[Value.bool false, Value.bool false, (Value.int .i64) 0, Value.bool false, Value.bool false, (Value.int .i64) 0] 58 * (blk W.heap.size #[(Value.int .u64) w] 67 * old W W.heap.size)) ∧ Ext W wz) ⟨hw.set6 _ _ _ _ _ _, by (repeat (first | with_reducible assumption | with_reducible exact Ext.refl _ | with_reducible refine Ext.set ?_ _ _ | with_reducible refine Ext.alloc ?_ _ | with_reducible refine Ext.drew ?_ | with_reducible refine Ext.drewN ?_ _ | assumption | exact Ext.refl _ | refine Ext.alloc ?_ _ | refine Ext.set ?_ _ _ | refine Ext.drew ?_ | refine Ext.drewN ?_ _ | refine Ext.below ?_ (by assumption) | refine Ext.trans ?_ (by assumption)))⟩ ?_
              rintro wz ⟨hz, xz⟩
              exact bodyPost_ret (results_ct Try.results107 rfl rfl (load_entry hz)) rfl ⟨congrArg Ending.returned hy.out.symm, below_of1 hz.right.right xz⟩
            | true =>
              have hb0 : bitOf w ((2 ^ 0 : Nat) : Int) = true := hb1
              have hno' := fun (h7 : ¬ (k = 7 ∧ l = 0)) (i : Nat) (hi : i < k + 1) => show badB w l i = false by
                by_cases e : i = k
                · subst e
                  unfold badB
                  rw [hkn.out, hb1]
                  cases hd : (decide (i = 7) && decide (l = 0)) with
                  | false => simp
                  | true => simp at hd; exact absurd hd h7
                · exact hnx.out i (by omega)
              by_cases k7 : k = 7
              · have k7' : ((k : Int) == 7) = true := by rw [beq_iff_eq]; omega
                by_cases l0' : l = 0
                · have hy := Lib.hid (decV_no (decC_bad hl h0 hk64 (show badB w l k = true by unfold badB; rw [hbit]; rw [hkn.out, hb1]; simp [k7, l0'])) (.inl (by decide)))
                  have l1 : (l == 0) = true := by simpa using l0'
                  clear hkn hnx hno' k7 l0' hb1
                  go_wp2_with fail
                  refine (on_is _ w k true hbit _ wc h0 h1 hk64).mono ?_; rintro e w' ⟨rfl, rfl⟩
                  go_wp2_with fail
                  refine (on_is _ w 0 true hb0 _ wc h0 h1 (by omega)).mono ?_; rintro e w' ⟨rfl, rfl⟩
                  go_wp2_with fail
                  refine ret_via (fun wz => Has wz (blk (W.heap.size + 1) #[Value.bool false, Value.bool false, (Value.int .i64) 0, Value.bool false, Value.bool false, (Value.int .i64) 0] 58 * (blk W.heap.size #[(Value.int .u64) w] 67 * old W W.heap.size)) ∧ Ext W wz) ⟨hw.set6 _ _ _ _ _ _, by (repeat (first | with_reducible assumption | with_reducible exact Ext.refl _ | with_reducible refine Ext.set ?_ _ _ | with_reducible refine Ext.alloc ?_ _ | with_reducible refine Ext.drew ?_ | with_reducible refine Ext.drewN ?_ _ | assumption | exact Ext.refl _ | refine Ext.alloc ?_ _ | refine Ext.set ?_ _ _ | refine Ext.drew ?_ | refine Ext.drewN ?_ _ | refine Ext.below ?_ (by assumption) | refine Ext.trans ?_ (by assumption)))⟩ ?_
                  rintro wz ⟨hz, xz⟩
                  exact bodyPost_ret (results_ct Try.results107 rfl rfl (load_entry hz)) rfl ⟨congrArg Ending.returned hy.out.symm, below_of1 hz.right.right xz⟩
                · have l1 : (l == 0) = false := by simpa using l0'
                  have hno' := Lib.hid (hno' (fun h => l0' h.2))
                  clear hkn hnx k7 l0' hb1
                  go_wp2_with fail
                  refine (on_is _ w k true hbit _ wc h0 h1 hk64).mono ?_; rintro e w' ⟨rfl, rfl⟩
                  go_wp2_with fail
                  refine (on_is _ w 0 true hb0 _ wc h0 h1 (by omega)).mono ?_; rintro e w' ⟨rfl, rfl⟩
                  go_wp2_with fail
                  go_roundw
                  case rel => exact ⟨k + 1, by omega, by go_num, hno'.out, trivial⟩
                  case measure => simp [intOf]; omega
              · have k7' : ((k : Int) == 7) = false := by rw [beq_eq_false_iff_ne]; omega
                have hno' := Lib.hid (hno' (fun h => k7 h.1))
                clear hkn hnx k7 hb1
                go_wp2_with fail
                refine (on_is _ w k true hbit _ wc h0 h1 hk64).mono ?_; rintro e w' ⟨rfl, rfl⟩
                go_wp2_with fail
                refine (on_is _ w 0 true hb0 _ wc h0 h1 (by omega)).mono ?_; rintro e w' ⟨rfl, rfl⟩
                go_wp2_with fail
                go_roundw
                case rel => exact ⟨k + 1, by omega, by go_num, hno'.out, trivial⟩
                case measure => simp [intOf]; omega
    · obtain rfl : k = 64 := by omega
      have hok := badB_no h0 h1 hno
      clear hno
      by_cases wz : w = 0
      · have hy := Lib.hid (decV_no (w := w) (l := l) (c := 0) (by unfold decC; rw [if_neg (by omega), if_neg (by simpa using hok), if_pos wz]) (.inr wz))
        have wz' : (w == 0) = true := by simpa using wz
        clear wz hok
        go_wp2_with fail
        refine ret_via (fun wz => Has wz (blk (W.heap.size + 1) #[Value.bool false, Value.bool false, (Value.int .i64) 0, Value.bool false, Value.bool false, (Value.int .i64) 0] 58 * (blk W.heap.size #[(Value.int .u64) w] 67 * old W W.heap.size)) ∧ Ext W wz) ⟨hw.set6 _ _ _ _ _ _, by (repeat (first | with_reducible assumption | with_reducible exact Ext.refl _ | with_reducible refine Ext.set ?_ _ _ | with_reducible refine Ext.alloc ?_ _ | with_reducible refine Ext.drew ?_ | with_reducible refine Ext.drewN ?_ _ | assumption | exact Ext.refl _ | refine Ext.alloc ?_ _ | refine Ext.set ?_ _ _ | refine Ext.drew ?_ | refine Ext.drewN ?_ _ | refine Ext.below ?_ (by assumption) | refine Ext.trans ?_ (by assumption)))⟩ ?_
        rintro wz ⟨hz, xz⟩
        exact bodyPost_ret (results_ct Try.results107 rfl rfl (load_entry hz)) rfl ⟨congrArg Ending.returned hy.out.symm, below_of1 hz.right.right xz⟩
      have wz' : (w == 0) = false := by simpa using wz
      have hd : decC w l = entFault (unword w l) l := by unfold decC; rw [if_neg (by omega), if_neg (by simpa using hok), if_neg wz]
      have hv0 : decC w l = 0 → decV w l = .tuple #[.agg #[Value.bool true, Value.bool (unword w l).leaf, (Value.int .i64) (w / 2 % 8), Value.bool (bitOf w 32), Value.bool (bitOf w 64), (Value.int .i64) (w / 4096)], (Value.int .i64) 0] := fun hc => by
        unfold decV decE
        rw [if_pos ⟨hc, wz⟩, hc]
        rfl
      have hv0 := Lib.hid hv0
      clear wz hok
      by_cases l00 : l = 0
      · subst l00
        have he : unword w 0 = ⟨true, true, w / 2 % 8, bitOf w 32, bitOf w 64, w / 4096⟩ := rfl
        have HC : ∀ X, Calls Try.prog 110 #[.agg #[Value.bool true, Value.bool (true), (Value.int .i64) (w / 2 % 8), Value.bool (bitOf w 32), Value.bool (bitOf w 64), (Value.int .i64) (w / 4096)], .int .i64 0] X (Pure ((Value.int .i64) (decC w 0)) X) := fun X => by
          have := entryFault_any (unword w 0) 0 X
          rw [← hd, he] at this
          exact this
        have HC := Lib.hid HC
        have HO7 := Lib.hid (fun X c => show Calls Try.prog 142 #[.int .u64 7, .pointer (some ⟨W.heap.size, 0, none⟩)] X (Same (Value.bool (bitOf w 128)) X) from on_any W.heap.size w 7 X c h0 h1 (by omega))
        have HO5 := Lib.hid (fun X c => show Calls Try.prog 142 #[.int .u64 5, .pointer (some ⟨W.heap.size, 0, none⟩)] X (Same (Value.bool (bitOf w 32)) X) from on_any W.heap.size w 5 X c h0 h1 (by omega))
        have HO6 := Lib.hid (fun X c => show Calls Try.prog 142 #[.int .u64 6, .pointer (some ⟨W.heap.size, 0, none⟩)] X (Same (Value.bool (bitOf w 64)) X) from on_any W.heap.size w 6 X c h0 h1 (by omega))
        rw [he] at hv0
        have hno := Lib.hid (fun hc => decV_no (w := w) (l := 0) (c := decC w 0) rfl (.inl hc))
        clear hl hd he
        go_upto_region 12 with fail
        clear hmf d0 d1 d2 d3 d4 d5 f0 f1 f2 f3 f4 f5 wz' zl
        have q1 := Lib.hid (show IntKind.i64.wrap ((IntKind.u64.wrap (w.tdiv 2)).tmod 8) = w / 2 % 8 by rw [Int.tdiv_eq_ediv_of_nonneg h0, IntKind.wrap_u64, Int.tmod_eq_emod_of_nonneg (by omega), IntKind.wrap_i64]; omega)
        have q2 := Lib.hid (show IntKind.i64.wrap (IntKind.u64.wrap (w.tdiv 4096)) = w / 4096 by rw [Int.tdiv_eq_ediv_of_nonneg h0, IntKind.wrap_u64, IntKind.wrap_i64]; omega)
        go_cut [9] (fun v wx => v = .pointer (some ⟨W2.heap.size, 0, none⟩) ∧ (W2.alloc (.cells #[Value.bool true, Value.bool (true), (Value.int .i64) (w / 2 % 8), Value.bool (bitOf w 32), Value.bool (bitOf w 64), (Value.int .i64) (w / 4096)] 58)).drew = wx)
        case first =>
          first | (go_region_held (fun w' => w'.cell? ⟨W.heap.size, 0, none⟩ = some ((Value.int .u64) w)) (go_keep) (first | (go_at_call 142; (with_reducible refine (HO7.out _ (by assumption)).mono ?_); rintro e w' ⟨rfl, rfl⟩) | (go_at_call 142; (with_reducible refine (HO5.out _ (by assumption)).mono ?_); rintro e w' ⟨rfl, rfl⟩) | (go_at_call 142; (with_reducible refine (HO6.out _ (by assumption)).mono ?_); rintro e w' ⟨rfl, rfl⟩))) | fail
          all_goals
            go_wp2_with fail
            go_meet
            first | exact ⟨rfl, by rw [q1.out, q2.out]⟩ | (case rel => exact ⟨rfl, by rw [q1.out, q2.out]⟩)
        case rest =>
          obtain ⟨rfl, rfl⟩ := hcut
          have hx := (hw.new #[Value.bool true, Value.bool (true), (Value.int .i64) (w / 2 % 8), Value.bool (bitOf w 32), Value.bool (bitOf w 64), (Value.int .i64) (w / 4096)] 58).drew
          have xx := (xw.alloc (.cells #[Value.bool true, Value.bool (true), (Value.int .i64) (w / 2 % 8), Value.bool (bitOf w 32), Value.bool (bitOf w 64), (Value.int .i64) (w / 4096)] 58)).drew
          clear q1 q2 HO5 HO6 HO7
          by_cases hc : decC w 0 = 0
          · have hy := Lib.hid (hv0.out hc)
            rw [hc] at HC
            clear hc hv0 hno
            go_wp2_with fail
            refine (HC.out _).mono ?_; rintro e w2 ⟨rfl, bl⟩
            have h2 := hx.below bl
            have x2 := xx.below bl
            obtain ⟨c0, c1, c2, c3, c4, c5⟩ := h2.cells6
            obtain ⟨d0, d1, d2, d3, d4, d5⟩ := h2.right.cells6
            obtain ⟨f0, f1, f2, f3, f4, f5⟩ := h2.right.frees6
            have l2 := h2.right.lt
            clear HC bl hx xx hw xw
            go_wp2
            refine ret_via (fun wz => Has wz (blk (W.heap.size + 1) #[Value.bool true, Value.bool (true), (Value.int .i64) (w / 2 % 8), Value.bool (bitOf w 32), Value.bool (bitOf w 64), (Value.int .i64) (w / 4096)] 58 * (blk W.heap.size #[(Value.int .u64) w] 67 * old W W.heap.size)) ∧ Ext W wz) ⟨h2.right.set6 _ _ _ _ _ _, by (repeat (first | with_reducible assumption | with_reducible exact Ext.refl _ | with_reducible refine Ext.set ?_ _ _ | with_reducible refine Ext.alloc ?_ _ | with_reducible refine Ext.drew ?_ | with_reducible refine Ext.drewN ?_ _ | assumption | exact Ext.refl _ | refine Ext.alloc ?_ _ | refine Ext.set ?_ _ _ | refine Ext.drew ?_ | refine Ext.drewN ?_ _ | refine Ext.below ?_ (by assumption) | refine Ext.trans ?_ (by assumption)))⟩ ?_
            rintro wz ⟨hz, xz⟩
            exact bodyPost_ret (results_ct Try.results107 rfl rfl (load_entry hz)) rfl ⟨congrArg Ending.returned hy.out.symm, below_of1 hz.right.right xz⟩
          · have hy := Lib.hid (hno.out hc)
            have hn : (decC w 0 != 0) = true := by simpa using hc
            clear hc hv0 hno
            generalize decC w 0 = c at *
            go_wp2_with fail
            refine (HC.out _).mono ?_; rintro e w2 ⟨rfl, bl⟩
            have h2 := hx.below bl
            have x2 := xx.below bl
            obtain ⟨c0, c1, c2, c3, c4, c5⟩ := h2.cells6
            obtain ⟨d0, d1, d2, d3, d4, d5⟩ := h2.right.cells6
            obtain ⟨f0, f1, f2, f3, f4, f5⟩ := h2.right.frees6
            have l2 := h2.right.lt
            clear HC bl hx xx hw xw
            go_wp2
            refine ret_via (fun wz => Has wz (blk (W.heap.size + 1) #[Value.bool false, Value.bool false, (Value.int .i64) 0, Value.bool false, Value.bool false, (Value.int .i64) 0] 58 * (blk W.heap.size #[(Value.int .u64) w] 67 * old W W.heap.size)) ∧ Ext W wz) ⟨h2.right.set6 _ _ _ _ _ _, by (repeat (first | with_reducible assumption | with_reducible exact Ext.refl _ | with_reducible refine Ext.set ?_ _ _ | with_reducible refine Ext.alloc ?_ _ | with_reducible refine Ext.drew ?_ | with_reducible refine Ext.drewN ?_ _ | assumption | exact Ext.refl _ | refine Ext.alloc ?_ _ | refine Ext.set ?_ _ _ | refine Ext.drew ?_ | refine Ext.drewN ?_ _ | refine Ext.below ?_ (by assumption) | refine Ext.trans ?_ (by assumption)))⟩ ?_
            rintro wz ⟨hz, xz⟩
            exact bodyPost_ret (results_ct Try.results107 rfl rfl (load_entry hz)) rfl ⟨congrArg Ending.returned hy.out.symm, below_of1 hz.right.right xz⟩
      · have l00' : (l == 0) = false := by simpa using l00
        have he : unword w l = ⟨true, bitOf w 128, w / 2 % 8, bitOf w 32, bitOf w 64, w / 4096⟩ := by unfold unword; rw [l00']; rfl
        clear l00
        have HC : ∀ X, Calls Try.prog 110 #[.agg #[Value.bool true, Value.bool (bitOf w 128), (Value.int .i64) (w / 2 % 8), Value.bool (bitOf w 32), Value.bool (bitOf w 64), (Value.int .i64) (w / 4096)], .int .i64 l] X (Pure ((Value.int .i64) (decC w l)) X) := fun X => by
          have := entryFault_any (unword w l) l X
          rw [← hd, he] at this
          exact this
        have HC := Lib.hid HC
        have HO7 := Lib.hid (fun X c => show Calls Try.prog 142 #[.int .u64 7, .pointer (some ⟨W.heap.size, 0, none⟩)] X (Same (Value.bool (bitOf w 128)) X) from on_any W.heap.size w 7 X c h0 h1 (by omega))
        have HO5 := Lib.hid (fun X c => show Calls Try.prog 142 #[.int .u64 5, .pointer (some ⟨W.heap.size, 0, none⟩)] X (Same (Value.bool (bitOf w 32)) X) from on_any W.heap.size w 5 X c h0 h1 (by omega))
        have HO6 := Lib.hid (fun X c => show Calls Try.prog 142 #[.int .u64 6, .pointer (some ⟨W.heap.size, 0, none⟩)] X (Same (Value.bool (bitOf w 64)) X) from on_any W.heap.size w 6 X c h0 h1 (by omega))
        rw [he] at hv0
        have hno := Lib.hid (fun hc => decV_no (w := w) (l := l) (c := decC w l) rfl (.inl hc))
        clear hl hd he
        go_upto_region 12 with fail
        clear hmf d0 d1 d2 d3 d4 d5 f0 f1 f2 f3 f4 f5 wz' zl
        have q1 := Lib.hid (show IntKind.i64.wrap ((IntKind.u64.wrap (w.tdiv 2)).tmod 8) = w / 2 % 8 by rw [Int.tdiv_eq_ediv_of_nonneg h0, IntKind.wrap_u64, Int.tmod_eq_emod_of_nonneg (by omega), IntKind.wrap_i64]; omega)
        have q2 := Lib.hid (show IntKind.i64.wrap (IntKind.u64.wrap (w.tdiv 4096)) = w / 4096 by rw [Int.tdiv_eq_ediv_of_nonneg h0, IntKind.wrap_u64, IntKind.wrap_i64]; omega)
        go_cut [9] (fun v wx => v = .pointer (some ⟨W2.heap.size, 0, none⟩) ∧ (W2.alloc (.cells #[Value.bool true, Value.bool (bitOf w 128), (Value.int .i64) (w / 2 % 8), Value.bool (bitOf w 32), Value.bool (bitOf w 64), (Value.int .i64) (w / 4096)] 58)).drew = wx)
        case first =>
          first | (go_region_held (fun w' => w'.cell? ⟨W.heap.size, 0, none⟩ = some ((Value.int .u64) w)) (go_keep) (first | (go_at_call 142; (with_reducible refine (HO7.out _ (by assumption)).mono ?_); rintro e w' ⟨rfl, rfl⟩) | (go_at_call 142; (with_reducible refine (HO5.out _ (by assumption)).mono ?_); rintro e w' ⟨rfl, rfl⟩) | (go_at_call 142; (with_reducible refine (HO6.out _ (by assumption)).mono ?_); rintro e w' ⟨rfl, rfl⟩))) | fail
          all_goals
            go_wp2_with fail
            go_meet
            first | exact ⟨rfl, by rw [q1.out, q2.out]⟩ | (case rel => exact ⟨rfl, by rw [q1.out, q2.out]⟩)
        case rest =>
          obtain ⟨rfl, rfl⟩ := hcut
          have hx := (hw.new #[Value.bool true, Value.bool (bitOf w 128), (Value.int .i64) (w / 2 % 8), Value.bool (bitOf w 32), Value.bool (bitOf w 64), (Value.int .i64) (w / 4096)] 58).drew
          have xx := (xw.alloc (.cells #[Value.bool true, Value.bool (bitOf w 128), (Value.int .i64) (w / 2 % 8), Value.bool (bitOf w 32), Value.bool (bitOf w 64), (Value.int .i64) (w / 4096)] 58)).drew
          clear q1 q2 HO5 HO6 HO7
          by_cases hc : decC w l = 0
          · have hy := Lib.hid (hv0.out hc)
            rw [hc] at HC
            clear hc hv0 hno
            go_wp2_with fail
            refine (HC.out _).mono ?_; rintro e w2 ⟨rfl, bl⟩
            have h2 := hx.below bl
            have x2 := xx.below bl
            obtain ⟨c0, c1, c2, c3, c4, c5⟩ := h2.cells6
            obtain ⟨d0, d1, d2, d3, d4, d5⟩ := h2.right.cells6
            obtain ⟨f0, f1, f2, f3, f4, f5⟩ := h2.right.frees6
            have l2 := h2.right.lt
            clear HC bl hx xx hw xw
            go_wp2
            refine ret_via (fun wz => Has wz (blk (W.heap.size + 1) #[Value.bool true, Value.bool (bitOf w 128), (Value.int .i64) (w / 2 % 8), Value.bool (bitOf w 32), Value.bool (bitOf w 64), (Value.int .i64) (w / 4096)] 58 * (blk W.heap.size #[(Value.int .u64) w] 67 * old W W.heap.size)) ∧ Ext W wz) ⟨h2.right.set6 _ _ _ _ _ _, by (repeat (first | with_reducible assumption | with_reducible exact Ext.refl _ | with_reducible refine Ext.set ?_ _ _ | with_reducible refine Ext.alloc ?_ _ | with_reducible refine Ext.drew ?_ | with_reducible refine Ext.drewN ?_ _ | assumption | exact Ext.refl _ | refine Ext.alloc ?_ _ | refine Ext.set ?_ _ _ | refine Ext.drew ?_ | refine Ext.drewN ?_ _ | refine Ext.below ?_ (by assumption) | refine Ext.trans ?_ (by assumption)))⟩ ?_
            rintro wz ⟨hz, xz⟩
            exact bodyPost_ret (results_ct Try.results107 rfl rfl (load_entry hz)) rfl ⟨congrArg Ending.returned hy.out.symm, below_of1 hz.right.right xz⟩
          · have hy := Lib.hid (hno.out hc)
            have hn : (decC w l != 0) = true := by simpa using hc
            clear hc hv0 hno
            generalize decC w l = c at *
            go_wp2_with fail
            refine (HC.out _).mono ?_; rintro e w2 ⟨rfl, bl⟩
            have h2 := hx.below bl
            have x2 := xx.below bl
            obtain ⟨c0, c1, c2, c3, c4, c5⟩ := h2.cells6
            obtain ⟨d0, d1, d2, d3, d4, d5⟩ := h2.right.cells6
            obtain ⟨f0, f1, f2, f3, f4, f5⟩ := h2.right.frees6
            have l2 := h2.right.lt
            clear HC bl hx xx hw xw
            go_wp2
            refine ret_via (fun wz => Has wz (blk (W.heap.size + 1) #[Value.bool false, Value.bool false, (Value.int .i64) 0, Value.bool false, Value.bool false, (Value.int .i64) 0] 58 * (blk W.heap.size #[(Value.int .u64) w] 67 * old W W.heap.size)) ∧ Ext W wz) ⟨h2.right.set6 _ _ _ _ _ _, by (repeat (first | with_reducible assumption | with_reducible exact Ext.refl _ | with_reducible refine Ext.set ?_ _ _ | with_reducible refine Ext.alloc ?_ _ | with_reducible refine Ext.drew ?_ | with_reducible refine Ext.drewN ?_ _ | assumption | exact Ext.refl _ | refine Ext.alloc ?_ _ | refine Ext.set ?_ _ _ | refine Ext.drew ?_ | refine Ext.drewN ?_ _ | refine Ext.below ?_ (by assumption) | refine Ext.trans ?_ (by assumption)))⟩ ?_
            rintro wz ⟨hz, xz⟩
            exact bodyPost_ret (results_ct Try.results107 rfl rfl (load_entry hz)) rfl ⟨congrArg Ending.returned hy.out.symm, below_of1 hz.right.right xz⟩
end Go.Proofs.Ytndhgomikpokpaa
