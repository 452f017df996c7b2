/- Contract of sameWords: memories that differ in words of free frames alone. -/
import Derived.Test.YtegkimecdonfgaaFrm
import Derived.Test.YtegkimecdonfgaaAgree
namespace Go.Proofs.Ytegkimecdonfgaa
open Go.RowKit
set_option maxRecDepth 100000
set_option maxHeartbeats 4000000 in
theorem sameWords_any (f q : Nat) (s s' : Ms) (ha : Agree s s') (hs : s.n ≤ 128) (R : HProp) (w : World) (h : Has w (framesAt f s * (memAt q s' * R))) :
    Calls Try.prog 20 #[.pointer (some ⟨f, 0, none⟩), .pointer (some ⟨q, 0, none⟩)] w (Same (Value.bool true) w) := by
  obtain ⟨gw, gi, vk, hq⟩ := memAt_open h.p2
  have c0 : w.cell? ⟨q, 0, none⟩ = some (.slice (some ⟨gw, 0, none⟩) s'.n s'.n) := Has.cell hq 0
  have cl : q < w.heap.size := Has.lt hq
  have hgl : gw < w.heap.size := Has.lt hq.right
  have HQ := Lib.hid hq
  have hn : s'.n ≤ 128 := by rw [← ha.n]; exact hs
  have HT := Lib.hid (fun k => takenF f s k _ w h)
  have HM := Lib.hid (fun k => takenM q s' k _ w h.p2)
  have HL := Lib.hid (fun k i => loadF f s k i _ w h)
  have HA := Lib.hid ha
  clear h hq ha hs
  go_enter Try.func20, Try.ntmps20
  go_wp2_with fail
  go_loopw [5] (fun t wr => ∃ k : Nat, k ≤ s'.n ∧ t = (Value.int .i64) k ∧ wr = w) (fun t _ => s'.n - (intOf t).toNat)
  case atStart => exact ⟨0, Nat.zero_le _, rfl, rfl⟩
  case round =>
    obtain ⟨k, hk, rfl, rfl⟩ := hrel
    by_cases hlt : k < s'.n
    · have T1 := Lib.hid (HT.out k)
      have T2 := Lib.hid (HM.out k)
      rw [HA.out.has] at T1
      cases hb : s'.has k with
      | false =>
        rw [hb] at T1 T2
        go_wp2_with (first | (go_at_call 42; refine T1.out.mono ?_; rintro e2 w2 ⟨rfl, rfl⟩) | (go_at_call 58; refine T2.out.mono ?_; rintro e2 w2 ⟨rfl, rfl⟩))
        go_loopw [6] (fun t wx => t = (Value.int .i64) 0 ∧ wx = wr) (fun _ _ => 0)
        case atStart => exact ⟨rfl, rfl⟩
        case round =>
          obtain ⟨rfl, rfl⟩ := hrel
          go_wp2_with (first | (go_at_call 58; refine T2.out.mono ?_; rintro e2 w2 ⟨rfl, rfl⟩))
          go_roundw
          case rel => exact ⟨k + 1, by omega, by go_num, trivial⟩
          case measure => simp [intOf]; omega
      | true =>
        have HW := Lib.hid (fun i (hi : i < 8) => (show HL.out k i = HL.out k i from rfl))
        have htk : s.has k = true := by rw [HA.out.has]; exact hb
        have hwd : ∀ i : Nat, i < 8 → loadV s k i = s'.wd k i ∧ s.hasW k i = true := fun i hi => by
          have h1 : s.hasW k i = true := by unfold Ms.hasW; rw [htk]; simp; omega
          refine ⟨?_, h1⟩
          unfold loadV
          rw [if_pos h1]
          have := HA.out.wd k i (by have := (Ms.has_iff.1 htk).2.2; simpa using this)
          simpa using this
        have HWD := Lib.hid hwd
        rw [hb] at T1 T2
        clear hwd HW
        go_wp2_with (first | (go_at_call 42; refine T1.out.mono ?_; rintro e2 w2 ⟨rfl, rfl⟩) | (go_at_call 58; refine T2.out.mono ?_; rintro e2 w2 ⟨rfl, rfl⟩))
        go_loopw [6] (fun t wx => ∃ i : Nat, i ≤ 8 ∧ t = (Value.int .i64) i ∧ wx = wr) (fun t _ => 8 - (intOf t).toNat)
        case atStart => exact ⟨0, by omega, rfl, rfl⟩
        case round =>
          obtain ⟨i, hi, rfl, rfl⟩ := hrel
          by_cases hi8 : i < 8
          · have L1 := Lib.hid (HL.out k i)
            obtain ⟨hw1, hw2⟩ := HWD.out i hi8
            rw [hw1, hw2] at L1
            have d0 := mem_word HQ.out (k := k) (i := i) hlt hi8
            clear hw1 hw2
            generalize s'.wd k i = v at *
            go_wp2_with (first | (go_at_call 58; refine T2.out.mono ?_; rintro e2 w2 ⟨rfl, rfl⟩) | (go_at_call 30; refine L1.out.mono ?_; rintro e2 w2 ⟨rfl, rfl⟩))
            go_roundw
            case rel => exact ⟨i + 1, by omega, by go_num, trivial⟩
            case measure => simp [intOf]; omega
          · obtain rfl : i = 8 := by omega
            go_wp2_with fail
            go_roundw
            case rel => exact ⟨k + 1, by omega, by go_num, trivial⟩
            case measure => simp [intOf]; omega
    · obtain rfl : k = s'.n := by omega
      go_wp2_with fail
      go_ret
      exact ⟨rfl, rfl⟩
end Go.Proofs.Ytegkimecdonfgaa
