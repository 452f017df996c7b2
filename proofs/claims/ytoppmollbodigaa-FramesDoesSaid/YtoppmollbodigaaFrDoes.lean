/- The law FramesDoes: the walk. -/
import Derived.Test.YtoppmollbodigaaFrLaw
namespace Go.Proofs.Ytoppmollbodigaa
open Go.RowKit
set_option maxRecDepth 100000

set_option maxHeartbeats 8000000 in
theorem framesDoes_walk (N : Int) (A : Option Addr) (n c : Nat) (l : List Fst) (w : World) (_ : i64 N) (h : Arr w A n 5 (l.map Fst.cells)) (hok : ∀ x ∈ l, x.ok) :
    Calls Try.prog 7 #[(Value.int .i64) N, .slice A n c] w (Pure (Value.bool true) w) := by
  have hm := h.2.1
  have hn : l.length = n := by simpa using h.1
  have hN := Lib.hid hn
  have hA := Lib.hid h
  clear h hn
  by_cases hbig : 400 < n
  · go_enter Try.func7, Try.ntmps7
    go_wp2_with fail
    refine (framesBegun_any _).mono ?_; rintro e w1 ⟨rfl, hb⟩
    go_wp2_with fail
    go_ret
    exact ⟨rfl, hb⟩
  have h0 := has_old w
  go_enter Try.func7, Try.ntmps7
  go_wp2_with fail
  refine (framesBegun_any _).mono ?_; rintro e w1 ⟨rfl, hb⟩
  have h1 := h0.below hb
  have x1 := (Ext.refl w).below hb
  clear h0 hb
  by_cases hin : 0 ≤ N ∧ N ≤ 128
  · obtain ⟨hin0, hin1⟩ := hin
    go_wp2_with fail
    refine (newF _ _ N h1 hin0 hin1).mono ?_; rintro e w2 ⟨p, rfl, h2, x2⟩
    have h3 := h2.alloc (.cells #[(Value.int .i64) 0, (Value.int .i64) 0] 52)
    have x3 := (x1.trans x2).alloc (.cells #[(Value.int .i64) 0, (Value.int .i64) 0] 52)
    go_wp2_with fail
    refine (newM _ _ N h3 hin0 hin1).mono ?_; rintro e w3 ⟨q, rfl, h4, x4⟩
    have h5 := h4.p2
    have x5 := x3.trans x4
    have ok5 := Ms.Ok.new (n := N.toNat) (by omega)
    generalize Ms.new N.toNat = s5 at *
    clear h1 h2 h3 h4 x1 x2 x3 x4 hin0 hin1
    go_wp2_with fail
    go_loopw [8] (fun t wr => ∃ (i : Nat) (s : Ms), i ≤ n ∧ t = (Value.int .i64) i ∧ s.Ok ∧ Has wr (framesAt p s * (memAt q s * old w w.heap.size)) ∧ Ext w wr)
      (fun t _ => n - (intOf t).toNat)
    case atStart => exact ⟨0, s5, by omega, rfl, ok5, h5, x5⟩
    case round =>
      clear h5 x5 ok5 s5
      obtain ⟨i, s, hi, rfl, hs, hr, hx⟩ := hrel
      by_cases hlt : i < n
      · have hil : i < l.length := by have := hN.out; omega
        obtain ⟨b, off, hb, hbl, hc⟩ := (hA.out.old1 hr.right.right hx).at_ (i := i) (xs := (l[i]).cells) (by simp [hil])
        have ho := hok _ (List.getElem_mem hil)
        generalize l[i] = x at hc ho
        obtain ⟨op, K, I, od, W⟩ := x
        obtain ⟨_, _, _, hod, hW⟩ := ho
        have d0 : wr.cell? ⟨b, off + i * 5, none⟩ = some ((Value.int .i64) op) := hc 0 _ rfl
        have d1 : wr.cell? ⟨b, off + i * 5 + 1, none⟩ = some ((Value.int .i64) K) := hc 1 _ rfl
        have d2 : wr.cell? ⟨b, off + i * 5 + 2, none⟩ = some ((Value.int .i64) I) := hc 2 _ rfl
        have d3 : wr.cell? ⟨b, off + i * 5 + 3, none⟩ = some ((Value.int .u64) od) := hc 3 _ rfl
        have d4 : wr.cell? ⟨b, off + i * 5 + 4, none⟩ = some ((Value.int .u64) W) := hc 4 _ rfl
        clear hc
        subst hb
        have hs4 := hr.new #[(Value.int .i64) op, (Value.int .i64) K, (Value.int .i64) I, (Value.int .u64) od, (Value.int .u64) W] 59
        have x2 := hx.alloc (.cells #[(Value.int .i64) op, (Value.int .i64) K, (Value.int .i64) I, (Value.int .u64) od, (Value.int .u64) W] 59)
        go_upto_region 15 with fail
        generalize wr.alloc (.cells #[(Value.int .i64) op, (Value.int .i64) K, (Value.int .i64) I, (Value.int .u64) od, (Value.int .u64) W] 59) = w4 at *
        generalize wr.heap.size = X at *
        clear d0 d1 d2 d3 d4 hr hx hbl
        have hw : Has w4 (framesAt p s * (memAt q s * (blk X #[(Value.int .i64) op, (Value.int .i64) K, (Value.int .i64) I, (Value.int .u64) od, (Value.int .u64) W] 59 * old w w.heap.size))) := hs4.eq (by ac_rfl)
        obtain ⟨c0, c1, c2, c3, c4⟩ := hs4.cells5
        have cl := hs4.lt
        clear hs4
        go_cut [10] (fun b wx => b = Value.bool (s.hasW K I) ∧ w4 = wx)
        case first =>
          cases hk : s.has K with
          | false =>
            have hy := Lib.hid (show s.hasW K I = false by unfold Ms.hasW; rw [hk]; rfl)
            go_wp2_with (go_at_call 32; refine (takenM q s _ _ _ hw.p2).mono ?_; rintro e w' ⟨rfl, rfl⟩)
            go_meet
            case rel => exact ⟨by rw [hy.out], rfl⟩
          | true =>
            by_cases i0 : 0 ≤ I
            · have hy := Lib.hid (show s.hasW K I = decide (I < 8) by unfold Ms.hasW; rw [hk]; simp [i0])
              go_wp2_with (go_at_call 32; refine (takenM q s _ _ _ hw.p2).mono ?_; rintro e w' ⟨rfl, rfl⟩)
              go_meet
              case rel => exact ⟨by rw [hy.out], rfl⟩
            · have hy := Lib.hid (show s.hasW K I = false by unfold Ms.hasW; simp; omega)
              have hd : decide (0 ≤ I) = false := by simpa using i0
              go_wp2_with (go_at_call 32; refine (takenM q s _ _ _ hw.p2).mono ?_; rintro e w' ⟨rfl, rfl⟩)
              go_meet
              case rel => exact ⟨by rw [hy.out], rfl⟩
        case rest =>
          obtain ⟨rfl, rfl⟩ := hcut
          go_upto_block 2 with fail
          go_cut [10] (fun _ wx => ∃ (s' : Ms), s'.Ok ∧ Has wx (framesAt p s' * (memAt q s' * (blk X #[(Value.int .i64) op, (Value.int .i64) K, (Value.int .i64) I, (Value.int .u64) od, (Value.int .u64) W] 59 * old w w.heap.size))) ∧ Ext w wx)
          case first =>
            by_cases o0 : op = 0
            · as_aux_lemma =>
                subst o0
                go_wp2_with fail
                refine (takeF p s _ _ hw hs).mono ?_; rintro e w5 ⟨rfl, h5, x5⟩
                go_wp2_with fail
                refine (takeM q s _ _ h5.p2 hs).mono ?_; rintro e w6 ⟨rfl, h6, x6⟩
                go_wp2_with fail
                go_meet
                case rel => exact ⟨_, hs.takeS, h6.p2, (x2.trans x5).trans x6⟩
            by_cases o1 : op = 1
            · as_aux_lemma =>
                subst o1
                go_wp2_with fail
                go_region_held3 (fun w' => w'.cell? ⟨X, 1, none⟩ = some ((Value.int .i64) K)) (first | go_keep | exact (h5.right.right.cells5).2.1 | exact (h6.right.right.cells5).2.1) (first | (go_at_call 35; first | (refine (giveF p s _ _ _ hw.drew hs).mono ?_; rintro e w5 ⟨rfl, h5, x5⟩) | (refine (giveF p s _ _ _ h6.p2 hs).mono ?_; rintro e w5 ⟨rfl, h5, x5⟩)) | (go_at_call 36; first | (refine (giveM q s _ _ _ hw.p2.drew hs).mono ?_; rintro e w6 ⟨rfl, h6, x6⟩) | (refine (giveM q s _ _ _ h5.p2 hs).mono ?_; rintro e w6 ⟨rfl, h6, x6⟩)))
                all_goals
                  go_wp2_with fail
                  go_meet
                  case rel => first | exact ⟨_, hs.giveS K, h6.p2, (x2.drew.trans x5).trans x6⟩ | exact ⟨_, hs.giveS K, h5, (x2.drew.trans x6).trans x5⟩
            by_cases o2 : op = 2
            · as_aux_lemma =>
                subst o2
                go_wp2_with fail
                refine (loadF p s _ _ _ _ hw).mono ?_; rintro e w5 ⟨rfl, rfl⟩
                cases hy : s.hasW K I with
                | false =>
                  have hl := Lib.hid (show loadV s K I = 0 by unfold loadV; rw [hy]; rfl)
                  rw [hl.out]
                  clear hy hl
                  go_wp2_with fail
                  go_quiet (fail)
                  go_wp2_with fail
                  go_meet
                  case rel => exact ⟨s, hs, hw.drewN nq, x2.drewN nq⟩
                | true =>
                  obtain ⟨hk, i0, i8⟩ := hasW_iff.1 hy
                  obtain ⟨k0, k1, _⟩ := Ms.has_iff.1 hk
                  clear hk
                  obtain ⟨gw, gi, vk, hq⟩ := memAt_open hw.p2
                  obtain ⟨k, rfl⟩ := Int.eq_ofNat_of_zero_le k0
                  obtain ⟨i', rfl⟩ := Int.eq_ofNat_of_zero_le i0
                  obtain ⟨q0, q1, q2, q3⟩ := hq.cells4
                  have gl := hq.right.lt
                  have hl := Lib.hid (show loadV s k i' = s.wd k i' by unfold loadV; rw [hy]; rfl)
                  have hc := mem_word hq (k := k) (i := i') (by omega) (by omega)
                  rw [hl.out]
                  generalize s.wd k i' = x at *
                  go_wp2_with fail
                  go_quiet (fail)
                  go_wp2_with fail
                  go_meet
                  case rel => exact ⟨s, hs, hw.drewN nq, x2.drewN nq⟩
            by_cases o3 : op = 3
            · as_aux_lemma =>
                subst o3
                go_wp2_with fail
                refine (storeF p s _ _ _ _ _ hw).mono ?_; rintro e w5 ⟨rfl, h5, x5⟩
                have x5 := x2.trans x5
                clear hw x2 c0 c1 c2 c3 c4
                obtain ⟨c0, c1, c2, c3, c4⟩ := h5.right.right.cells5
                have cl := h5.right.right.lt
                cases hy : s.hasW K I with
                | false =>
                  have he : storeS s K I W = s := by unfold storeS; rw [hy]; rfl
                  rw [he] at h5
                  clear he hy
                  go_wp2_with fail
                  go_meet
                  case rel => exact ⟨s, hs, h5, x5⟩
                | true =>
                  have he : storeS s K I W = s.setW K.toNat I.toNat W := by unfold storeS; rw [hy]; rfl
                  rw [he] at h5
                  clear he
                  have hs' := hs.inv.setW K.toNat I.toNat hW
                  obtain ⟨hk, i0, i8⟩ := hasW_iff.1 hy
                  obtain ⟨k0, k1, _⟩ := Ms.has_iff.1 hk
                  clear hk
                  obtain ⟨gw, gi, vk, hq⟩ := memAt_open h5.p2
                  obtain ⟨k, rfl⟩ := Int.eq_ofNat_of_zero_le k0
                  obtain ⟨i', rfl⟩ := Int.eq_ofNat_of_zero_le i0
                  simp only [Int.toNat_natCast] at h5 hs' hq
                  have hqs := mem_setW hq (k := k) (i := i') (by omega) W
                  obtain ⟨e0, _⟩ := hqs.cells4
                  obtain ⟨_, e1, e2, _, e4⟩ := hqs.right.right.right.right.right.cells5
                  have h6 := (memAt_shut hqs).p2
                  clear hqs
                  obtain ⟨q0, q1, q2, q3⟩ := hq.cells4
                  have gl := hq.right.lt
                  have gf := hq.right.free (k * 8 + i')
                  have gc := mem_word hq (k := k) (i := i') (by omega) (by omega)
                  clear hq hy
                  go_wp2_with fail
                  go_region_held3 (fun w' => w'.cell? ⟨q, 0, none⟩ = some (.slice (some ⟨gw, 0, none⟩) s.n s.n) ∧ w'.cell? ⟨X, 1, none⟩ = some ((Value.int .i64) k) ∧ w'.cell? ⟨X, 2, none⟩ = some ((Value.int .i64) i') ∧ w'.cell? ⟨X, 4, none⟩ = some ((Value.int .u64) W)) (first | exact ⟨q0, c1, c2, c4⟩ | exact ⟨e0, e1, e2, e4⟩) (fail)
                  all_goals
                    go_wp2_with fail
                    go_meet
                    case rel => exact ⟨_, ⟨hs', hs.small⟩, h6.drew, (x5.set _ _).drew⟩
            by_cases o4 : op = 4
            · as_aux_lemma =>
                subst o4
                cases hy : s.hasW K I with
                | false =>
                  have hb := Lib.hid (show swapB s K I od = false by unfold swapB; rw [hy]; rfl)
                  have he : swapS s K I od W = s := by unfold swapS; rw [hb.out]; rfl
                  clear hy
                  go_wp2_with fail
                  go_quiet (fail)
                  go_wp2_with fail
                  refine (swapF p s _ _ _ _ _ _ (hw.drewN nq)).mono ?_; rintro e w5 ⟨rfl, h5, x5⟩
                  rw [hb.out]
                  rw [he] at h5
                  clear he hb
                  go_wp2_with fail
                  go_meet
                  case rel => exact ⟨s, hs, h5, (x2.drewN _).trans x5⟩
                | true =>
                  obtain ⟨hk, i0, i8⟩ := hasW_iff.1 hy
                  obtain ⟨k0, k1, _⟩ := Ms.has_iff.1 hk
                  clear hk
                  obtain ⟨gw, gi, vk, hq⟩ := memAt_open hw.p2
                  obtain ⟨k, rfl⟩ := Int.eq_ofNat_of_zero_le k0
                  obtain ⟨i', rfl⟩ := Int.eq_ofNat_of_zero_le i0
                  obtain ⟨q0, q1, q2, q3⟩ := hq.cells4
                  have gl := hq.right.lt
                  have gc := mem_word hq (k := k) (i := i') (by omega) (by omega)
                  have hb : swapB s k i' od = (s.wd k i' == od) := by unfold swapB; rw [hy]; rfl
                  have hsw : swapS s k i' od W = if swapB s k i' od = true then s.setW k i' W else s := rfl
                  generalize s.wd k i' = x at *
                  clear hq
                  cases he : (x == od) with
                  | false =>
                    have hb := Lib.hid (hb.trans he)
                    rw [hb.out] at hsw
                    have he' : swapS s k i' od W = s := hsw
                    clear hsw hy
                    go_wp2_with fail
                    go_quiet (fail)
                    go_wp2_with fail
                    refine (swapF p s _ _ _ _ _ _ (hw.drewN nq)).mono ?_; rintro e w5 ⟨rfl, h5, x5⟩
                    rw [hb.out]
                    rw [he'] at h5
                    clear he he' hb
                    go_wp2_with fail
                    go_meet
                    case rel => exact ⟨s, hs, h5, (x2.drewN _).trans x5⟩
                  | true =>
                    have hb := Lib.hid (hb.trans he)
                    rw [hb.out] at hsw
                    have he' : swapS s k i' od W = s.setW k i' W := hsw
                    clear hsw hy
                    go_wp2_with fail
                    go_quiet (fail)
                    go_wp2_with fail
                    refine (swapF p s _ _ _ _ _ _ (hw.drewN nq)).mono ?_; rintro e w5 ⟨rfl, h5, x5⟩
                    rw [hb.out]
                    rw [he'] at h5
                    clear he he' hb q0 q1 q2 q3 gl gc
                    have x5 := (x2.drewN _).trans x5
                    clear hw x2 c0 c1 c2 c3 c4
                    obtain ⟨c0, c1, c2, c3, c4⟩ := h5.right.right.cells5
                    have cl := h5.right.right.lt
                    have hs' := hs.inv.setW k i' hW
                    obtain ⟨gw, gi, vk, hq⟩ := memAt_open h5.p2
                    have hqs := mem_setW hq (k := k) (i := i') (by omega) W
                    obtain ⟨e0, _⟩ := hqs.cells4
                    obtain ⟨_, e1, e2, _, e4⟩ := hqs.right.right.right.right.right.cells5
                    have h6 := (memAt_shut hqs).p2
                    clear hqs
                    obtain ⟨q0, q1, q2, q3⟩ := hq.cells4
                    have gl := hq.right.lt
                    have gf := hq.right.free (k * 8 + i')
                    have gc := mem_word hq (k := k) (i := i') (by omega) (by omega)
                    clear hq
                    go_wp2_with fail
                    go_region_held3 (fun w' => w'.cell? ⟨q, 0, none⟩ = some (.slice (some ⟨gw, 0, none⟩) s.n s.n) ∧ w'.cell? ⟨X, 1, none⟩ = some ((Value.int .i64) k) ∧ w'.cell? ⟨X, 2, none⟩ = some ((Value.int .i64) i') ∧ w'.cell? ⟨X, 4, none⟩ = some ((Value.int .u64) W)) (first | exact ⟨q0, c1, c2, c4⟩ | exact ⟨e0, e1, e2, e4⟩) (fail)
                    all_goals
                      go_wp2_with fail
                      go_meet
                      case rel => exact ⟨_, ⟨hs', hs.small⟩, h6.drew, (x5.set _ _).drew⟩
            go_wp2_with fail
            go_meet
            case rel => exact ⟨s, hs, hw, x2⟩
          case rest => as_aux_lemma =>
            obtain ⟨s', hs', hw', x2'⟩ := hcut
            clear hw hs x2 c0 c1 c2 c3 c4
            obtain ⟨c0, c1, c2, c3, c4⟩ := hw'.right.right.cells5
            have v1 := via_cell c1
            have cl := hw'.right.right.lt
            go_wp2_with fail
            refine wp_region_via (by kernel_rfl) (by kernel_rfl) ?_
            repeat (first | go_big_quiet_step ((first | (go_at_call 40; exact Same.via (freeF p s' _ _ (hw'.via _))) | (go_at_call 41; exact Pure.via (freeM q s' _ _ (hw'.via _).p2 hs')) | (go_at_call 42; exact Same.via (takenF p s' _ _ _ (hw'.via _))) | (go_at_call 32; exact Same.via (takenM q s' _ _ _ (hw'.via _).p2)))) | quiet_step ((first | (go_at_call 40; exact Same.via (freeF p s' _ _ (hw'.via _))) | (go_at_call 41; exact Pure.via (freeM q s' _ _ (hw'.via _).p2 hs')) | (go_at_call 42; exact Same.via (takenF p s' _ _ _ (hw'.via _))) | (go_at_call 32; exact Same.via (takenM q s' _ _ _ (hw'.via _).p2)))))
            refine wpQuiet_nil ?_
            intro _ hw'
            obtain ⟨uq, hw''⟩ := hw'
            subst hw''
            go_wp2_with fail
            go_roundw
            case rel => exact ⟨i + 1, s', by omega, by go_num, hs', (hw'.via uq).drop3, x2'.below (via_below _ _)⟩
            case measure => simp [intOf]; omega
      · go_wp2_with fail
        go_ret
        exact ⟨rfl, below_of1 hr.right.right hx⟩
  · have hd : ¬ (0 ≤ N ∧ N ≤ 128) := hin
    go_wp2_with fail
    refine (new_no N _ hd).mono ?_; rintro e w2 ⟨rfl, b2⟩
    have x2 := (x1.below b2).alloc (.cells #[(Value.int .i64) 1, (Value.int .i64) (-1)] 52)
    have h2 := (h1.below b2).alloc (.cells #[(Value.int .i64) 1, (Value.int .i64) (-1)] 52)
    by_cases h0 : N < 0
    · go_wp2_with fail
      go_ret
      exact ⟨rfl, below_of1 h2 x2⟩
    · have h8 : 128 < N := by omega
      go_wp2_with fail
      go_ret
      exact ⟨rfl, below_of1 h2 x2⟩
end Go.Proofs.Ytoppmollbodigaa
