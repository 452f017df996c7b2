/- The law BookApart: the walk. -/
import Derived.Test.YtndhgomikpokpaaBkBegun
import Derived.Test.YtndhgomikpokpaaStp
import Derived.Test.YtndhgomikpokpaaPages
import Derived.StillTailTactics
namespace Go.Proofs.Ytndhgomikpokpaa
open Go.RowKit
set_option maxRecDepth 100000

namespace Bk
/-- What a look through the first i mappings has found of a page. -/
def atV (k : List Mp) (p : Int) (i : Nat) : Int := if (find k p).isSome = true ∧ pos k p < i then (pos k p : Int) else -1
theorem atV_hit {k : List Mp} (h : Ok k) {p : Int} {i : Nat} (hi : i < k.length) (ho : over k[i] p = true) : atV k p (i + 1) = i := by
  obtain ⟨e1, e2⟩ := over_at h hi ho
  unfold atV
  rw [e2, ← e1, if_pos ⟨rfl, by omega⟩]
theorem atV_miss {k : List Mp} (h : Ok k) {p : Int} {i : Nat} (hi : i < k.length) (ho : over k[i] p = false) : atV k p (i + 1) = atV k p i := by
  unfold atV
  rcases place h p with ⟨hf, _⟩ | ⟨hl, ho2, hf, _⟩
  · rw [hf]; simp
  · have : pos k p ≠ i := by
      intro e
      simp only [e] at ho2
      rw [ho] at ho2; cases ho2
    rw [hf]
    by_cases h1 : pos k p < i
    · rw [if_pos ⟨rfl, by omega⟩, if_pos ⟨rfl, h1⟩]
    · rw [if_neg (by simp; omega), if_neg (by simp; omega)]
theorem atV_zero (k : List Mp) (p : Int) : atV k p 0 = -1 := by unfold atV; rw [if_neg (by omega)]
theorem atV_end {k : List Mp} (h : Ok k) (p : Int) : (atV k p k.length = -1 ∧ find k p = none) ∨ ∃ j : Nat, ∃ hj : j < k.length, atV k p k.length = j ∧ find k p = some k[j] ∧ over k[j] p = true ∧ ∀ i (hi : i < k.length), i ≠ j → over k[i] p = false := by
  unfold atV
  rcases place h p with ⟨hf, _⟩ | ⟨hl, ho2, hf, _⟩
  · rw [hf]; simp
  · refine .inr ⟨pos k p, hl, ?_, hf, ho2, fun i hi hne => ?_⟩
    · rw [hf, if_pos ⟨rfl, hl⟩]
    · cases ho : over k[i] p with
      | false => rfl
      | true => exact absurd (over_at h hi ho).1 hne
end Bk
set_option maxHeartbeats 8000000 in
theorem bookApart_walk (A : Option Addr) (n c : Nat) (l : List Stp) (a : Ac) (w : World) (h : Arr w A n 9 (l.map Stp.cells)) (hok : ∀ x ∈ l, x.ok) (ha : a.ok) :
    Calls Try.prog 5 #[.slice A n c, .agg #[(Value.int .i64) a.page, (Value.int .i64) a.kind, Value.bool a.user]] w (Pure (Value.bool true) w) := by
  have hm := h.2.1
  have hn : l.length = n := by simpa using h.1
  have hN := Lib.hid hn
  have hA := Lib.hid h
  clear h hn
  have h0 := (has_old w).new #[(Value.int .i64) a.page, (Value.int .i64) a.kind, Value.bool a.user] 29
  have x0 := (Ext.refl w).alloc (.cells #[(Value.int .i64) a.page, (Value.int .i64) a.kind, Value.bool a.user] 29)
  by_cases hbig : 200 < n
  · go_enter Try.func5, Try.ntmps5
    go_wp2_with fail
    refine (bookBegun_any _).mono ?_; rintro e w1 ⟨rfl, hb⟩
    go_wp2_with fail
    go_ret
    exact ⟨rfl, below_of1 (h0.below hb).right (x0.below hb)⟩
  go_enter Try.func5, Try.ntmps5
  go_wp2_with fail
  refine (bookBegun_any _).mono ?_; rintro e w1 ⟨rfl, hb⟩
  have h1 := h0.below hb
  have x1 := x0.below hb
  clear h0 hb x0
  go_wp2_with fail
  refine (newB _ _ h1).mono ?_; rintro e w2 ⟨p, rfl, h2, x2⟩
  have x3 := x1.trans x2
  clear h1 x1 x2
  go_wp2_with fail
  go_loopw [6] (fun t wr => ∃ (i : Nat) (k : List Mp), i ≤ n ∧ t = (Value.int .i64) i ∧ Bk.Ok k ∧ Has wr (bookAt p k * (blk w.heap.size #[(Value.int .i64) a.page, (Value.int .i64) a.kind, Value.bool a.user] 29 * old w w.heap.size)) ∧ Ext w wr) (fun t _ => n - (intOf t).toNat)
  case atStart => exact ⟨0, [], by omega, rfl, Bk.Ok.nil, h2, x3⟩
  case round =>
    clear h2 x3
    obtain ⟨i, k, hi, rfl, hk, hr, hx⟩ := hrel
    by_cases hlt : i < n
    · have hil : i < l.length := by have := hN.out; omega
      obtain ⟨b, off, hbe, hb, c0, c1, c2, c3, c4, c5, c6, c7, c8⟩ := (hA.out.old1 hr.right.right hx).stp hil
      have hxo := hok _ (List.getElem_mem hil)
      generalize l[i] = x at c0 c1 c2 c3 c4 c5 c6 c7 c8 hxo
      clear c1 c6 c7 c8
      subst hbe
      have P1 := Lib.hid (fun R W h => addB p k x.m R W hk hxo.2.2.1.1 h)
      have P2 := Lib.hid (fun R W h => dropB p k x.m.page R W hk hxo.2.2.1.1 h)
      have P3 := Lib.hid (fun R W h => protectB p k x.m.page x.m.rights R W hk hxo.2.2.1.1 h)
      by_cases o1 : x.kind = 1
      · have d1 : (x.kind == 1) = true := by simp [o1]
        clear o1
        go_wp2_with (refine (P1.out _ _ hr).mono ?_; rintro e w5 ⟨rfl, h5, x5⟩)
        go_roundw
        case rel => exact ⟨i + 1, Bk.add k x.m, by omega, by go_num, hk.add _, h5, hx.trans x5⟩
        case measure => simp [intOf]; omega
      have d1 : (x.kind == 1) = false := by simpa using o1
      clear o1
      by_cases o2 : x.kind = 2
      · have d2 : (x.kind == 2) = true := by simp [o2]
        clear o2
        go_wp2_with (refine (P2.out _ _ hr).mono ?_; rintro e w5 ⟨rfl, h5, x5⟩)
        go_roundw
        case rel => exact ⟨i + 1, Bk.dropL k x.m.page, by omega, by go_num, hk.dropL _, h5, hx.trans x5⟩
        case measure => simp [intOf]; omega
      have d2 : (x.kind == 2) = false := by simpa using o2
      clear o2
      by_cases o3 : x.kind = 3
      · have d3 : (x.kind == 3) = true := by simp [o3]
        clear o3
        go_wp2_with fail
        go_still_tail 13, (by kernel_rfl)
        repeat still_step
        try refine wpStill_nil ?_
        have hr2 := hr.drew
        have x2 := hx.drew
        go_wp2_with (refine (P3.out _ _ hr2).mono ?_; rintro e w5 ⟨rfl, h5, x5⟩)
        go_roundw
        case rel => exact ⟨i + 1, Bk.protL k x.m.page x.m.rights, by omega, by go_num, hk.protL _ _, h5, x2.trans x5⟩
        case measure => simp [intOf]; omega
      have d3 : (x.kind == 3) = false := by simpa using o3
      clear o3
      go_wp2_with fail
      go_roundw
      case rel => exact ⟨i + 1, k, by omega, by go_num, hk, hr, hx⟩
      case measure => simp [intOf]; omega
    · have hle := hk.le
      have L1 := Lib.hid (fun R W h => listB p k R W (by omega) h)
      go_wp2_with fail
      refine (L1.out _ _ hr).mono ?_; rintro e w5 ⟨A', n', c', rfl, h5, x5⟩
      obtain rfl := mrow_len h5
      have h6 : Has w5 (bookAt p k * (mrow (.slice A' k.length c') k * (blk w.heap.size #[(Value.int .i64) a.page, (Value.int .i64) a.kind, Value.bool a.user] 29 * old w w.heap.size))) := (hr.onto' h5).eq (by ac_rfl)
      have x6 := hx.trans x5
      clear hr hx h5 x5 L1
      go_wp2_with fail
      go_loopw [8, 9] (fun t8 t wr => ∃ (i : Nat), i ≤ k.length ∧ t = (Value.int .i64) i ∧ t8 = (Value.int .i64) (Bk.atV k a.page i) ∧ Has wr (bookAt p k * (mrow (.slice A' k.length c') k * (blk w.heap.size #[(Value.int .i64) a.page, (Value.int .i64) a.kind, Value.bool a.user] 29 * old w w.heap.size))) ∧ Ext w wr) (fun _ t _ => k.length - (intOf t).toNat)
      case atStart => exact ⟨0, by omega, rfl, by rw [Bk.atV_zero], h6, x6⟩
      case round =>
        clear h6 x6
        obtain ⟨i, hi, rfl, rfl, hr, hx⟩ := hrel
        by_cases hlt : i < k.length
        · obtain ⟨b, rfl, hb, d0, d1, d2, d3⟩ := mrow_at hr.right hlt
          obtain ⟨a0, a1, a2⟩ := hr.right.right.cells3
          have al := hr.right.right.lt
          have v0 := via_cell d0
          have v1 := via_cell d1
          have v2 := via_cell d2
          have v3 := via_cell d3
          have u0 := via_cell a0
          have hmo := hk.chk _ (List.getElem_mem hlt)
          have HM := Lib.hid (fun W => mapFault_any k[i] W)
          rw [mapOk_check hmo] at HM
          have HH := Lib.hid (fun W => refHas_any k[i] a.page W hmo.pageI ha.1)
          have HHIT := Lib.hid (fun h => Bk.atV_hit hk (p := a.page) hlt h)
          have HMIS := Lib.hid (fun h => Bk.atV_miss hk (p := a.page) hlt h)
          by_cases hz : i = 0
          · subst hz
            generalize k[0] = x at *
            generalize Bk.atV k a.page 0 = at0 at *
            go_wp2_with fail
            refine wp_region_via (by kernel_rfl) (by kernel_rfl) ?_
            repeat (first | go_big_quiet_step ((go_at_call 33; exact Pure.via (HM.out _))) | quiet_step ((go_at_call 33; exact Pure.via (HM.out _))))
            refine wpQuiet_nil ?_
            intro _ hw'
            obtain ⟨uq, hw''⟩ := hw'
            subst hw''
            go_wp2_with fail
            have hv := hr.via uq
            have xv := hx.below (via_below wr uq)
            have c0 := v0 uq
            have c1 := v1 uq
            have c2 := v2 uq
            have c3 := v3 uq
            have c4 := u0 uq
            have bl := (via_below wr uq).size
            clear v0 v1 v2 v3 u0 a0 a1 a2 d0 d1 d2 d3
            generalize via wr uq = wv at *
            have v0 := via_cell c0
            have v1 := via_cell c1
            have v2 := via_cell c2
            have v3 := via_cell c3
            have u0 := via_cell c4
            cases hq : over x a.page with
            | true =>
              rw [hq] at HH
              have HE := Lib.hid (HHIT.out hq)
              clear HHIT HMIS hq
              refine wp_region_via (by kernel_rfl) (by kernel_rfl) ?_
              repeat (first | go_big_quiet_step ((go_at_call 35; exact Pure.via (HH.out _))) | quiet_step ((go_at_call 35; exact Pure.via (HH.out _))))
              refine wpQuiet_nil ?_
              intro _ hw'
              obtain ⟨uq, hw''⟩ := hw'
              subst hw''
              go_wp2_with fail
              go_roundw
              case rel => exact ⟨0 + 1, by omega, by go_num, by rw [HE.out], hv.via uq, xv.below (via_below _ _)⟩
              case measure => simp [intOf]; omega
            | false =>
              rw [hq] at HH
              have HE := Lib.hid (HMIS.out hq)
              clear HHIT HMIS hq
              refine wp_region_via (by kernel_rfl) (by kernel_rfl) ?_
              repeat (first | go_big_quiet_step ((go_at_call 35; exact Pure.via (HH.out _))) | quiet_step ((go_at_call 35; exact Pure.via (HH.out _))))
              refine wpQuiet_nil ?_
              intro _ hw'
              obtain ⟨uq, hw''⟩ := hw'
              subst hw''
              go_wp2_with fail
              go_roundw
              case rel => exact ⟨0 + 1, by omega, by go_num, by rw [HE.out], hv.via uq, xv.below (via_below _ _)⟩
              case measure => simp [intOf]; omega
          · obtain ⟨j, rfl⟩ : ∃ j, i = j + 1 := ⟨i - 1, by omega⟩
            have hjl : j < k.length := by omega
            obtain ⟨_, e0, e1, e2, e3⟩ := mrow_in hr.right hjl
            have hyo := hk.chk _ (List.getElem_mem hjl)
            have hup := List.pairwise_iff_getElem.1 hk.up j (j + 1) hjl hlt (by omega)
            have HB := Lib.hid (fun W => both_any k[j] k[j + 1] W hyo.pageI hmo.pageI)
            rw [(meet_false hyo hmo).2 (.inl hup)] at HB
            have hge : decide (k[j + 1].page ≤ k[j].page) = false := decide_eq_false (by have := hyo.sp; omega)
            have w0 := via_cell e0
            have w1 := via_cell e1
            have w2 := via_cell e2
            have w3 := via_cell e3
            clear hz
            generalize k[j + 1] = x at *
            generalize k[j] = y at *
            generalize Bk.atV k a.page (j + 1) = at0 at *
            clear hup hyo e0 e1 e2 e3
            have hgt : decide ((0 : Int) < (j : Int) + 1) = true := decide_eq_true (by omega)
            have hwr : IntKind.i64.wrap ((j : Int) + 1 - 1) = (j : Int) := by rw [IntKind.wrap_i64]; omega
            go_wp2_with fail
            refine wp_region_via (by kernel_rfl) (by kernel_rfl) ?_
            repeat (first | go_big_quiet_step ((first | (go_at_call 33; exact Pure.via (HM.out _)) | (go_at_call 34; exact Pure.via (HB.out _)))) | quiet_step ((first | (go_at_call 33; exact Pure.via (HM.out _)) | (go_at_call 34; exact Pure.via (HB.out _)))))
            refine wpQuiet_nil ?_
            intro _ hw'
            obtain ⟨uq, hw''⟩ := hw'
            subst hw''
            go_wp2_with fail
            have hv := hr.via uq
            have xv := hx.below (via_below wr uq)
            have c0 := v0 uq
            have c1 := v1 uq
            have c2 := v2 uq
            have c3 := v3 uq
            have c4 := u0 uq
            have bl := (via_below wr uq).size
            clear w0 w1 w2 w3 HB hge hgt hwr v0 v1 v2 v3 u0 a0 a1 a2 d0 d1 d2 d3
            generalize via wr uq = wv at *
            have v0 := via_cell c0
            have v1 := via_cell c1
            have v2 := via_cell c2
            have v3 := via_cell c3
            have u0 := via_cell c4
            cases hq : over x a.page with
            | true =>
              rw [hq] at HH
              have HE := Lib.hid (HHIT.out hq)
              clear HHIT HMIS hq
              refine wp_region_via (by kernel_rfl) (by kernel_rfl) ?_
              repeat (first | go_big_quiet_step ((go_at_call 35; exact Pure.via (HH.out _))) | quiet_step ((go_at_call 35; exact Pure.via (HH.out _))))
              refine wpQuiet_nil ?_
              intro _ hw'
              obtain ⟨uq, hw''⟩ := hw'
              subst hw''
              go_wp2_with fail
              go_roundw
              case rel => exact ⟨j + 1 + 1, by omega, by go_num, by rw [HE.out], hv.via uq, xv.below (via_below _ _)⟩
              case measure => simp [intOf]; omega
            | false =>
              rw [hq] at HH
              have HE := Lib.hid (HMIS.out hq)
              clear HHIT HMIS hq
              refine wp_region_via (by kernel_rfl) (by kernel_rfl) ?_
              repeat (first | go_big_quiet_step ((go_at_call 35; exact Pure.via (HH.out _))) | quiet_step ((go_at_call 35; exact Pure.via (HH.out _))))
              refine wpQuiet_nil ?_
              intro _ hw'
              obtain ⟨uq, hw''⟩ := hw'
              subst hw''
              go_wp2_with fail
              go_roundw
              case rel => exact ⟨j + 1 + 1, by omega, by go_num, by rw [HE.out], hv.via uq, xv.below (via_below _ _)⟩
              case measure => simp [intOf]; omega
        · have hil : i = k.length := by omega
          subst hil
          have HA := Lib.hid (fun R W h => answerB p k a R W hk ha.1 h)
          have HA2 := Lib.hid (fun R W h => answerB p (Bk.stage k a.page k.length) a R W (Bk.stage_ok hk _ _) ha.1 h)
          have hsame : Bk.ans (Bk.stage k a.page k.length) a = Bk.ans k a := by unfold Bk.ans; rw [Bk.stage_find]
          rw [hsame] at HA2
          obtain ⟨a0, a1, a2⟩ := hr.right.right.cells3
          have al := hr.right.right.lt
          have hbx : ∃ bb : Bool, decide (0 ≤ Bk.atV k a.page k.length) = bb ∧ ((Bk.ans k a).fin != 1) = bb ∧ ∀ i (hi : i < k.length), if ((i : Int) != Bk.atV k a.page k.length) = true then over k[i] a.page = false else over k[i] a.page = true := by
            rcases Bk.atV_end hk a.page with ⟨e1, e2⟩ | ⟨j, hj, e1, e2, e3, e4⟩
            · refine ⟨false, by rw [e1]; decide, by unfold Bk.ans; rw [e2]; rfl, fun i hi => ?_⟩
              have hni : ((i : Int) != Bk.atV k a.page k.length) = true := by rw [e1, bne_iff_ne]; omega
              rw [if_pos hni]
              exact Bk.over_none e2 hi
            · refine ⟨true, by rw [e1]; exact decide_eq_true (by omega), ?_, fun i hi => ?_⟩
              · unfold Bk.ans
                rw [e2]
                show ((answer k[j] a).fin != 1) = true
                unfold answer
                split <;> rfl
              · rw [e1]
                by_cases hij : i = j
                · subst hij
                  rw [if_neg (by simp)]
                  exact e3
                · rw [if_pos (by simp; omega)]
                  exact e4 i hi hij
          obtain ⟨bb, hb1, hb2, hb3⟩ := hbx
          have HB3 := Lib.hid hb3
          clear hb3 hsame
          generalize Bk.atV k a.page k.length = at0 at *
          generalize Bk.ans k a = r at *
          go_wp2_with (refine (HA.out _ _ hr).mono ?_; rintro e w6 ⟨rfl, b6⟩)
          have h7 := ((hr.below b6).new #[(Value.int .i64) r.fin, (Value.int .i64) r.frame, (Value.int .i64) r.rights] 49).p2
          have x7 := (hx.below b6).alloc (.cells #[(Value.int .i64) r.fin, (Value.int .i64) r.frame, (Value.int .i64) r.rights] 49)
          have h8 : Has (w6.alloc (.cells #[(Value.int .i64) r.fin, (Value.int .i64) r.frame, (Value.int .i64) r.rights] 49)) (bookAt p (Bk.stage k a.page 0) * (blk w6.heap.size #[(Value.int .i64) r.fin, (Value.int .i64) r.frame, (Value.int .i64) r.rights] 49 * (mrow (.slice A' k.length c') k * (blk w.heap.size #[(Value.int .i64) a.page, (Value.int .i64) a.kind, Value.bool a.user] 29 * old w w.heap.size)))) := by rw [Bk.stage_zero]; exact h7
          clear hr hx b6 HA h7 a0 a1 a2 al
          go_wp2_with fail
          go_loopw [11] (fun t wr => ∃ (i : Nat), i ≤ k.length ∧ t = (Value.int .i64) i ∧ Has wr (bookAt p (Bk.stage k a.page i) * (blk w6.heap.size #[(Value.int .i64) r.fin, (Value.int .i64) r.frame, (Value.int .i64) r.rights] 49 * (mrow (.slice A' k.length c') k * (blk w.heap.size #[(Value.int .i64) a.page, (Value.int .i64) a.kind, Value.bool a.user] 29 * old w w.heap.size)))) ∧ Ext w wr) (fun t _ => k.length - (intOf t).toNat)
          case atStart => exact ⟨0, by omega, rfl, h8, x7⟩
          case round =>
            clear h8 x7
            obtain ⟨i, hi, rfl, hr, hx⟩ := hrel
            by_cases hlt : i < k.length
            · have hi3 := HB3.out i hlt
              obtain ⟨b, rfl, hb, d0, d1, d2, d3⟩ := mrow_at hr.right.right hlt
              have hmo := hk.chk _ (List.getElem_mem hlt)
              cases hne : ((i : Int) != at0) with
              | true =>
                rw [hne, if_pos rfl] at hi3
                have hsn := Bk.stage_next hk hlt hi3
                have hdl : Bk.dropL (Bk.stage k a.page i) k[i].page = Bk.stage k a.page (i + 1) := by
                  unfold Bk.dropL
                  rw [if_pos (by unfold hasB; have := hmo.p0; have := hmo.p1; have := hmo.sp; simp; omega)]
                  exact hsn
                have HD := Lib.hid (fun R W h => dropB p (Bk.stage k a.page i) k[i].page R W (Bk.stage_ok hk _ _) hmo.pageI h)
                rw [hdl] at HD
                clear hsn hdl hi3 hmo
                generalize Bk.dropR (Bk.stage k a.page i) k[i].page = y1 at *
                generalize Bk.dropC (Bk.stage k a.page i) k[i].page = y2 at *
                generalize k[i] = y at *
                go_wp2_with (refine (HD.out _ _ hr).mono ?_; rintro e w7 ⟨rfl, h9, x9⟩)
                go_roundw
                case rel => exact ⟨i + 1, by omega, by go_num, h9, hx.trans x9⟩
                case measure => simp [intOf]; omega
              | false =>
                rw [hne, if_neg (by simp)] at hi3
                have hs := Lib.hid (Bk.stage_same hlt hi3)
                clear hi3 hmo
                go_wp2_with fail
                go_roundw
                case rel => exact ⟨i + 1, by omega, by go_num, by rw [hs.out]; exact hr, hx⟩
                case measure => simp [intOf]; omega
            · have hil : i = k.length := by omega
              subst hil
              obtain ⟨a0, a1, a2⟩ := hr.right.right.right.cells3
              have al := hr.right.right.right.lt
              obtain ⟨r0, r1, r2⟩ := hr.right.cells3
              have rl := hr.right.lt
              have v0 := via_cell a0
              have v1 := via_cell a1
              have v2 := via_cell a2
              have u0 := via_cell r0
              have u1 := via_cell r1
              have u2 := via_cell r2
              clear a0 a1 a2 r0 r1 r2
              go_wp2_with fail
              refine wp_region_via (by kernel_rfl) (by kernel_rfl) ?_
              repeat (first | go_big_quiet_step ((go_at_call 36; exact Pure.via (HA2.out _ _ (hr.via _)))) | quiet_step ((go_at_call 36; exact Pure.via (HA2.out _ _ (hr.via _)))))
              refine wpQuiet_nil ?_
              intro _ hw'
              obtain ⟨uq, hw''⟩ := hw'
              subst hw''
              go_wp2_with fail
              go_ret
              have hf := hr.via uq
              exact ⟨rfl, below_of1 hf.right.right.right.right (hx.below (via_below _ _))⟩
end Go.Proofs.Ytndhgomikpokpaa
