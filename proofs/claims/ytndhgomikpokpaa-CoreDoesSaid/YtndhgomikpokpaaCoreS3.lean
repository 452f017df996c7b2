/- The document's Core.Step, where it meets a leaf that is marked as it must be. -/
import Derived.Test.YtndhgomikpokpaaCoreS2
namespace Go.Proofs.Ytndhgomikpokpaa
open Go.RowKit
set_option maxRecDepth 100000

set_option maxHeartbeats 8000000 in
theorem stepR_ready (q m X : Nat) (root : Int) (l : List Ln) (k : Ck) (s : Ms) (R : HProp) (W : World) (A : Option Addr) (c : Nat)
    (h1 : Has (W.alloc (.cells #[(Value.int .i64) 0, (Value.int .i64) 0, (Value.int .i64) 0] 49)) (blk W.heap.size #[(Value.int .i64) 0, (Value.int .i64) 0, (Value.int .i64) 0] 49 * coreIn q A c l k (memAt m s * (blk X #[(Value.int .i64) 0, (Value.int .i64) 0, (Value.int .i64) 0, (Value.int .i64) 0, Value.bool false] 99 * R))))
    (x1 : Ext W (W.alloc (.cells #[(Value.int .i64) 0, (Value.int .i64) 0, (Value.int .i64) 0] 49))) (hon : k.on = true) (t j : Nat) (HTT : Hid (k.t = (t : Int))) (hj8 : j < 8) (htn : t < s.n) (_ : s.n ≤ 128)
    (hj : index k.a.page k.level = (j : Int)) (ht : s.has (t : Int) = true) (v : Int) (HV : Hid (s.wd t j = v)) (hvb : 0 ≤ v ∧ v < 18446744073709551616) (hcond : (k.mark && v != k.w) = false)
    (rg : Int) (us di : Bool) (fr : Int) (hE : decV v k.level = .tuple #[.agg #[Value.bool true, Value.bool true, (Value.int .i64) rg, Value.bool us, Value.bool di, (Value.int .i64) fr], (Value.int .i64) 0]) (hmay : may rg k.a = true) (HMK : Hid (k.mark = false)) (hr : readyE ⟨true, true, rg, us, di, fr⟩ k.a = true) (hstep : stepC s root k = k.leafEnd s ⟨true, true, rg, us, di, fr⟩) :
    Calls Try.prog 47 #[.pointer (some ⟨q, 0, none⟩), .pointer (some ⟨m, 0, none⟩), (Value.int .i64) root, .pointer (some ⟨X, 0, none⟩)] W
      (Res (.tuple #[.agg #[(Value.int .i64) (stepC s root k).r.an.fin, (Value.int .i64) (stepC s root k).r.an.frame, (Value.int .i64) (stepC s root k).r.an.rights], Value.bool (stepC s root k).r.fin, (Value.int .i64) (stepC s root k).code])
        (coreAt q l (stepC s root k).c * (memAt m (stepC s root k).s * (blk X #[(Value.int .i64) (stepC s root k).r.ln.m.page, (Value.int .i64) (stepC s root k).r.ln.m.size, (Value.int .i64) (stepC s root k).r.ln.m.frame, (Value.int .i64) (stepC s root k).r.ln.m.rights, Value.bool (stepC s root k).r.ln.dirty] 99 * R))) W) := by
  have HT := Lib.hid (fun R X h => takenM m s (t : Int) R X h)
  rw [ht] at HT
  have HI := Lib.hid (fun Y => indexOf_any k.a.page k.level Y)
  rw [hj] at HI
  have HD := Lib.hid (fun Y => entryOf_any v k.level Y hvb.1 hvb.2)
  rw [hE] at HD
  have HY := Lib.hid (fun Y => lets_any rg k.a.page k.a.kind k.a.user Y)
  rw [show (⟨k.a.page, k.a.kind, k.a.user⟩ : Ac) = k.a from rfl, hmay] at HY
  have htnz : (t : Int) < (s.n : Int) := by omega
  have hj8z : (j : Int) < 8 := by omega
  clear ht hj hE hmay hvb
  have hy := Lib.hid hstep
  clear hstep
  have HYR := Lib.hid (hy.out.trans (show k.leafEnd s ⟨true, true, rg, us, di, fr⟩ = ⟨k.idle, s, ⟨true, answer (leafMap ⟨true, true, rg, us, di, fr⟩ k.level k.a.page) k.a, ⟨leafMap ⟨true, true, rg, us, di, fr⟩ k.level k.a.page, di⟩⟩, 0⟩ from rfl))
  have HLM : Hid (∀ Y, Calls Try.prog 108 #[.agg #[Value.bool true, Value.bool true, (Value.int .i64) rg, Value.bool us, Value.bool (di), (Value.int .i64) fr], .int .i64 k.level, .int .i64 k.a.page] Y (Pure (.agg #[(Value.int .i64) (leafMap ⟨true, true, rg, us, di, fr⟩ k.level k.a.page).page, (Value.int .i64) (leafMap ⟨true, true, rg, us, di, fr⟩ k.level k.a.page).size, (Value.int .i64) (leafMap ⟨true, true, rg, us, di, fr⟩ k.level k.a.page).frame, (Value.int .i64) (leafMap ⟨true, true, rg, us, di, fr⟩ k.level k.a.page).rights]) Y)) := Lib.hid (fun Y => refLeafMap_any ⟨true, true, rg, us, di, fr⟩ k.level k.a.page Y)
  have HAN : Hid (∀ Y, Calls Try.prog 29 #[.agg #[(Value.int .i64) (leafMap ⟨true, true, rg, us, di, fr⟩ k.level k.a.page).page, (Value.int .i64) (leafMap ⟨true, true, rg, us, di, fr⟩ k.level k.a.page).size, (Value.int .i64) (leafMap ⟨true, true, rg, us, di, fr⟩ k.level k.a.page).frame, (Value.int .i64) (leafMap ⟨true, true, rg, us, di, fr⟩ k.level k.a.page).rights], .agg #[(Value.int .i64) k.a.page, (Value.int .i64) k.a.kind, Value.bool k.a.user]] Y (Pure (.agg #[(Value.int .i64) (answer (leafMap ⟨true, true, rg, us, di, fr⟩ k.level k.a.page) k.a).fin, (Value.int .i64) (answer (leafMap ⟨true, true, rg, us, di, fr⟩ k.level k.a.page) k.a).frame, (Value.int .i64) (answer (leafMap ⟨true, true, rg, us, di, fr⟩ k.level k.a.page) k.a).rights]) Y)) := Lib.hid (fun Y => answerOf_any (leafMap ⟨true, true, rg, us, di, fr⟩ k.level k.a.page) k.a.page k.a.kind k.a.user Y)
  clear hy
  generalize answer (leafMap ⟨true, true, rg, us, di, fr⟩ k.level k.a.page) k.a = an at *
  generalize leafMap ⟨true, true, rg, us, di, fr⟩ k.level k.a.page = lm at *
  go_enter Try.func47, Try.ntmps47
  go_upto_region 1 with fail
  generalize W.alloc (.cells #[(Value.int .i64) 0, (Value.int .i64) 0, (Value.int .i64) 0] 49) = W1 at *
  generalize W.heap.size = X0 at *
  obtain ⟨q1, q2, q3, q4, q5, q6, q7, q8, ql⟩ := core_cells h1.right
  rw [hon] at q1
  rw [HTT.out] at q5
  go_wp2_with fail
  refine (HT.out _ _ h1.right.right.right).mono ?_; rintro e2 w2 ⟨rfl, rfl⟩
  obtain ⟨gw, gi, vk, hq⟩ := memAt_open h1.right.right.right
  have d0 := via_cell (Has.cell hq 0)
  have dw := mem_word hq htn hj8
  rw [HV.out] at dw
  have dw := via_cell dw
  have v2 := via_cell q2
  have v5 := via_cell q5
  have v6 := via_cell q6
  clear hq q1 q2 q3 q4 q5 q6 q7 q8 ql HT
  go_upto_region 5 with fail
  refine wp_region_via (by kernel_rfl) (by kernel_rfl) ?_
  repeat (first | go_big_quiet_step ((go_at_call 31; exact Pure.via (HI.out _))) | quiet_step ((go_at_call 31; exact Pure.via (HI.out _))))
  refine wpQuiet_nil ?_
  intro _ hw'
  obtain ⟨uq, hw''⟩ := hw'
  subst hw''
  have h2 := h1.via uq
  have x2 := x1.below (via_below _ uq)
  generalize via W1 uq = W2 at *
  clear h1 x1 d0 dw v2 v5 v6 HI
  obtain ⟨q1, q2, q3, q4, q5, q6, q7, q8, ql⟩ := core_cells h2.right
  go_upto_region 6 with fail
  go_cut [62] from 51 to 62 (fun s62 wx => s62 = Value.bool false ∧ Has wx (blk X0 #[(Value.int .i64) 0, (Value.int .i64) 0, (Value.int .i64) 0] 49 * coreIn q A c l k (memAt m s * (blk X #[(Value.int .i64) 0, (Value.int .i64) 0, (Value.int .i64) 0, (Value.int .i64) 0, Value.bool false] 99 * R))) ∧ Ext W wx)
  case first =>
    cases hmk : k.mark with
    | false =>
      rw [hmk] at q7
      clear hmk hcond
      go_wp2_with fail
      go_meet
      case rel => exact ⟨rfl, h2, x2⟩
    | true =>
      rw [hmk] at q7 hcond
      have hcond' : (v != k.w) = false := hcond
      clear hmk hcond
      go_wp2_with fail
      go_meet
      case rel => exact ⟨rfl, h2, x2⟩
  case rest =>
    clear h2 x2 q1 q2 q3 q4 q5 q6 q7 q8 ql hcond
    obtain ⟨rfl, h2, x2⟩ := hcut
    obtain ⟨q1, q2, q3, q4, q5, q6, q7, q8, ql⟩ := core_cells h2.right
    go_wp2_with fail
    refine (HD.out _).mono ?_; rintro e2 w3 ⟨rfl, b3⟩
    have h3 := h2.below b3
    have x3 := x2.below b3
    clear h2 x2 b3 HD q1 q2 q3 q4 q5 q6 q7 q8 ql
    have h4 := h3.new #[Value.bool true, Value.bool true, (Value.int .i64) rg, Value.bool us, Value.bool di, (Value.int .i64) fr] 58
    have x4 := x3.alloc (.cells #[Value.bool true, Value.bool true, (Value.int .i64) rg, Value.bool us, Value.bool di, (Value.int .i64) fr] 58)
    clear h3 x3
    go_upto_region 18 with fail
    generalize w3.alloc (.cells #[Value.bool true, Value.bool true, (Value.int .i64) rg, Value.bool us, Value.bool di, (Value.int .i64) fr] 58) = w4 at *
    generalize w3.heap.size = EB at *
    obtain ⟨e0', e1', e2', e3', e4', e5'⟩ := h4.cells6
    have el := h4.lt
    obtain ⟨q1, q2, q3, q4, q5, q6, q7, q8, ql⟩ := core_cells h4.right.right
    have v2 := via_cell q2
    have v3 := via_cell q3
    have v4 := via_cell q4
    have ve2 := via_cell e2'
    clear e0' e1' e2' e3' e4' e5' el q1 q2 q3 q4 q5 q6 q7 q8 ql
    refine wp_region_via (by kernel_rfl) (by kernel_rfl) ?_
    repeat (first | go_big_quiet_step ((go_at_call 109; exact Pure.via (HY.out _))) | quiet_step ((go_at_call 109; exact Pure.via (HY.out _))))
    refine wpQuiet_nil ?_
    intro _ hw'
    obtain ⟨uq, hw''⟩ := hw'
    subst hw''
    have h5 := h4.via uq
    have x5 := x4.below (via_below _ uq)
    generalize via w4 uq = w5 at *
    clear h4 x4 v2 v3 v4 ve2 HY
    obtain ⟨q1, q2, q3, q4, q5, q6, q7, q8, ql⟩ := core_cells h5.right.right
    obtain ⟨e0', e1', e2', e3', e4', e5'⟩ := h5.cells6
    have el := h5.lt
    go_upto_region 20 with fail
    go_cut [14] from 119 to 132 (fun s14 wx => s14 = Value.bool true ∧ Has wx (blk EB #[Value.bool true, Value.bool true, (Value.int .i64) rg, Value.bool us, Value.bool di, (Value.int .i64) fr] 58 * (blk X0 #[(Value.int .i64) 0, (Value.int .i64) 0, (Value.int .i64) 0] 49 * coreIn q A c l k (memAt m s * (blk X #[(Value.int .i64) 0, (Value.int .i64) 0, (Value.int .i64) 0, (Value.int .i64) 0, Value.bool false] 99 * R)))) ∧ Ext W wx)
    case first =>
      have HRR := Lib.hid hr
      clear hr
      cases us with
      | false =>
        go_wp2_with fail
        go_meet
        case rel => exact ⟨by rw [← HRR.out]; first | done | rfl, h5, x5⟩
      | true =>
        cases di with
        | true =>
          go_wp2_with fail
          go_meet
          case rel => exact ⟨by rw [← HRR.out]; first | done | rfl, h5, x5⟩
        | false =>
          go_wp2_with fail
          go_meet
          case rel => exact ⟨by rw [← HRR.out]; first | done | rfl, h5, x5⟩
    case rest =>
      clear h5 x5 q1 q2 q3 q4 q5 q6 q7 q8 ql e0' e1' e2' e3' e4' e5' el hr
      obtain ⟨rfl, h6, x6⟩ := hcut
      obtain ⟨q1, q2, q3, q4, q5, q6, q7, q8, ql⟩ := core_cells h6.right.right
      rw [HMK.out] at q7
      obtain ⟨e0', e1', e2', e3', e4', e5'⟩ := h6.cells6
      have el := h6.lt
      go_upto_region 28 with fail
      have HK := Lib.hid (fun (w' : World) (P : HProp) (h : Has w' (blk EB #[Value.bool true, Value.bool true, (Value.int .i64) rg, Value.bool us, Value.bool (di), (Value.int .i64) fr] 58 * (blk X0 #[(Value.int .i64) 0, (Value.int .i64) 0, (Value.int .i64) 0] 49 * coreIn q A c l k P))) => (by
        obtain ⟨t1, t2, t3, t4, t5, t6, t7, t8, _⟩ := core_cells h.right.right
        obtain ⟨b0, b1, b2, b3, b4, b5⟩ := h.cells6
        exact ⟨b0, b1, b2, b3, b4, b5, t2, t6⟩ : w'.cell? ⟨EB, 0, none⟩ = some (Value.bool true) ∧ w'.cell? ⟨EB, 1, none⟩ = some (Value.bool true) ∧ w'.cell? ⟨EB, 2, none⟩ = some ((Value.int .i64) rg) ∧ w'.cell? ⟨EB, 3, none⟩ = some (Value.bool us) ∧ w'.cell? ⟨EB, 4, none⟩ = some (Value.bool (di)) ∧ w'.cell? ⟨EB, 5, none⟩ = some ((Value.int .i64) fr) ∧ w'.cell? ⟨q, 2, none⟩ = some ((Value.int .i64) k.a.page) ∧ w'.cell? ⟨q, 6, none⟩ = some ((Value.int .i64) k.level)))
      go_cut [15] from 195 to 205 (fun s15 wx => ∃ XM : Nat, s15 = .pointer (some ⟨XM, 0, none⟩) ∧ Has wx (blk XM #[(Value.int .i64) lm.page, (Value.int .i64) lm.size, (Value.int .i64) lm.frame, (Value.int .i64) lm.rights] 27 * (blk EB #[Value.bool true, Value.bool true, (Value.int .i64) rg, Value.bool us, Value.bool (di), (Value.int .i64) fr] 58 * (blk X0 #[(Value.int .i64) 0, (Value.int .i64) 0, (Value.int .i64) 0] 49 * coreIn q A c l k (memAt m s * (blk X #[(Value.int .i64) 0, (Value.int .i64) 0, (Value.int .i64) 0, (Value.int .i64) 0, Value.bool false] 99 * R))))) ∧ Ext W wx)
      case first =>
        go_region_held3 (fun w' => w'.cell? ⟨EB, 0, none⟩ = some (Value.bool true) ∧ w'.cell? ⟨EB, 1, none⟩ = some (Value.bool true) ∧ w'.cell? ⟨EB, 2, none⟩ = some ((Value.int .i64) rg) ∧ w'.cell? ⟨EB, 3, none⟩ = some (Value.bool us) ∧ w'.cell? ⟨EB, 4, none⟩ = some (Value.bool (di)) ∧ w'.cell? ⟨EB, 5, none⟩ = some ((Value.int .i64) fr) ∧ w'.cell? ⟨q, 2, none⟩ = some ((Value.int .i64) k.a.page) ∧ w'.cell? ⟨q, 6, none⟩ = some ((Value.int .i64) k.level)) (first | (with_reducible exact HK.out _ _ (h6).drew) | (with_reducible exact HK.out _ _ hL) | (with_reducible exact HK.out _ _ (hL.alloc _)) | (with_reducible exact HK.out _ _ gL.right) | (with_reducible exact HK.out _ _ ((h6).drew.alloc _)) | (with_reducible exact HK.out _ _ (gL.set4 _ _ _ _).right) | go_keep) (first | (go_at_call 108; (with_reducible refine (HLM.out _).mono ?_); rintro e2 wL ⟨rfl, bL⟩; first | (have hL := (h6).drew.below bL; have xL := (x6).drew.below bL) | (have gL : Has wL (blk (wc).heap.size #[(Value.int .i64) 0, (Value.int .i64) 0, (Value.int .i64) 0, (Value.int .i64) 0] 27 * (blk EB #[Value.bool true, Value.bool true, (Value.int .i64) rg, Value.bool us, Value.bool (di), (Value.int .i64) fr] 58 * (blk X0 #[(Value.int .i64) 0, (Value.int .i64) 0, (Value.int .i64) 0] 49 * coreIn q A c l k (memAt m s * (blk X #[(Value.int .i64) 0, (Value.int .i64) 0, (Value.int .i64) 0, (Value.int .i64) 0, Value.bool false] 99 * R))))) := ((h6).drew.new #[(Value.int .i64) 0, (Value.int .i64) 0, (Value.int .i64) 0, (Value.int .i64) 0] 27).below bL; have yL := ((x6).drew.alloc _).below bL; obtain ⟨y0, y1, y2, y3⟩ := gL.frees4; obtain ⟨z0, z1, z2, z3⟩ := gL.cells4; have zl := gL.lt)))
        all_goals
          go_wp2_with fail
          go_meet
          case rel => first | exact ⟨_, rfl, hL.new #[(Value.int .i64) lm.page, (Value.int .i64) lm.size, (Value.int .i64) lm.frame, (Value.int .i64) lm.rights] 27, xL.alloc _⟩ | exact ⟨_, rfl, gL.set4 _ _ _ _, (((yL.set _ _).set _ _).set _ _).set _ _⟩
      case rest =>
        obtain ⟨XM, rfl, hM, xM⟩ := hcut
        clear HK HLM e0' e1' e2' e3' e4' e5' el q1 q2 q3 q4 q5 q6 q7 q8 ql
        have hX : Has wc (blk X #[(Value.int .i64) 0, (Value.int .i64) 0, (Value.int .i64) 0, (Value.int .i64) 0, Value.bool false] 99 * (blk XM #[(Value.int .i64) lm.page, (Value.int .i64) lm.size, (Value.int .i64) lm.frame, (Value.int .i64) lm.rights] 27 * (blk EB #[Value.bool true, Value.bool true, (Value.int .i64) rg, Value.bool us, Value.bool (di), (Value.int .i64) fr] 58 * (blk X0 #[(Value.int .i64) 0, (Value.int .i64) 0, (Value.int .i64) 0] 49 * coreIn q A c l k (memAt m s * R))))) := hM.eq (by unfold coreIn; ac_rfl)
        obtain ⟨m0, m1, m2, m3⟩ := hX.right.cells4
        have ml := hX.right.lt
        have e4' := hX.right.right.cell 4
        have el := hX.right.right.lt
        obtain ⟨s0, s1, s2, s3, s4⟩ := hX.cells5
        have sl := hX.lt
        have f0 := hX.free 0
        have f1 := hX.free 1
        have f2 := hX.free 2
        have f3 := hX.free 3
        have f4 := hX.free 4
        have hX2 := hX.set5 ((Value.int .i64) lm.page) ((Value.int .i64) lm.size) ((Value.int .i64) lm.frame) ((Value.int .i64) lm.rights) (Value.bool (di))
        have xX2 := ((((xM.set ⟨X, 0, none⟩ ((Value.int .i64) lm.page)).set ⟨X, 1, none⟩ ((Value.int .i64) lm.size)).set ⟨X, 2, none⟩ ((Value.int .i64) lm.frame)).set ⟨X, 3, none⟩ ((Value.int .i64) lm.rights)).set ⟨X, 4, none⟩ (Value.bool (di))
        go_upto_region 30 with fail
        generalize ((((wc.setCell ⟨X, 0, none⟩ ((Value.int .i64) lm.page)).setCell ⟨X, 1, none⟩ ((Value.int .i64) lm.size)).setCell ⟨X, 2, none⟩ ((Value.int .i64) lm.frame)).setCell ⟨X, 3, none⟩ ((Value.int .i64) lm.rights)).setCell ⟨X, 4, none⟩ (Value.bool (di)) = w12 at *
        clear hM xM hX m0 m1 m2 m3 ml e4' el s0 s1 s2 s3 s4 sl f0 f1 f2 f3 f4
        have hB : Has w12 (blk XM #[(Value.int .i64) lm.page, (Value.int .i64) lm.size, (Value.int .i64) lm.frame, (Value.int .i64) lm.rights] 27 * coreIn q A c l k (blk X0 #[(Value.int .i64) 0, (Value.int .i64) 0, (Value.int .i64) 0] 49 * (blk EB #[Value.bool true, Value.bool true, (Value.int .i64) rg, Value.bool us, Value.bool (di), (Value.int .i64) fr] 58 * (memAt m s * (blk X #[(Value.int .i64) lm.page, (Value.int .i64) lm.size, (Value.int .i64) lm.frame, (Value.int .i64) lm.rights, Value.bool (di)] 99 * R))))) := hX2.eq (by unfold coreIn; ac_rfl)
        clear hX2
        obtain ⟨q1, q2, q3, q4, q5, q6, q7, q8, ql⟩ := core_cells hB.right
        obtain ⟨m0, m1, m2, m3⟩ := hB.cells4
        have ml := hB.lt
        have HN := Lib.hid (fun R X h => endCR q l k an R X h)
        have HKX := Lib.hid (fun (w' : World) (P : HProp) (h : Has w' (blk XM #[(Value.int .i64) lm.page, (Value.int .i64) lm.size, (Value.int .i64) lm.frame, (Value.int .i64) lm.rights] 27 * P)) => h.cells4)
        have hBd := hB.drew
        obtain ⟨n1', n2', n3', n4', n5', n6', n7', n8', nl'⟩ := core_cells hBd.right
        have hS0 : (fun (L : Array Bool) (w' : World) => (w'.cell? ⟨XM, 0, none⟩ = some ((Value.int .i64) lm.page) ∧ w'.cell? ⟨XM, 1, none⟩ = some ((Value.int .i64) lm.size) ∧ w'.cell? ⟨XM, 2, none⟩ = some ((Value.int .i64) lm.frame) ∧ w'.cell? ⟨XM, 3, none⟩ = some ((Value.int .i64) lm.rights)) ∧ Till 6 5 (fun w' => w'.cell? ⟨q, 2, none⟩ = some ((Value.int .i64) k.a.page) ∧ w'.cell? ⟨q, 3, none⟩ = some ((Value.int .i64) k.a.kind) ∧ w'.cell? ⟨q, 4, none⟩ = some (Value.bool k.a.user)) L w') (Array.replicate 14 false) w12.drew := ⟨hBd.cells4, Till.start ⟨n2', n3', n4'⟩⟩
        clear n1' n2' n3' n4' n5' n6' n7' n8' nl'
        refine region_L (S := fun L w' => (w'.cell? ⟨XM, 0, none⟩ = some ((Value.int .i64) lm.page) ∧ w'.cell? ⟨XM, 1, none⟩ = some ((Value.int .i64) lm.size) ∧ w'.cell? ⟨XM, 2, none⟩ = some ((Value.int .i64) lm.frame) ∧ w'.cell? ⟨XM, 3, none⟩ = some ((Value.int .i64) lm.rights)) ∧ Till 6 5 (fun w' => w'.cell? ⟨q, 2, none⟩ = some ((Value.int .i64) k.a.page) ∧ w'.cell? ⟨q, 3, none⟩ = some ((Value.int .i64) k.a.kind) ∧ w'.cell? ⟨q, 4, none⟩ = some (Value.bool k.a.user)) L w') (by kernel_rfl) hS0 (fun hHeld => ?_)
        clear q1 q2 q3 q4 q5 q6 q7 q8 ql m0 m1 m2 m3 ml
        refine anyL_take (i := 0) (v := ?_) rfl (by kernel_rfl) (by kernel_rfl) (by kernel_rfl) (fun _ _ _ h => h) (Good.and Good.const (Good.till (by decide) ⟨_, ⟨5, .data⟩, rfl, by simp, rfl, rfl⟩)) (Or.inl ⟨by kernel_rfl, ?_⟩) hHeld (fun hHeld => ?_)
        rotate_left
        focus (intro wS hSw; obtain ⟨Lx, hLx, hs1, hs2⟩ := hSw; skip; go_simp; first | done | with_reducible rfl)
        refine anyL_take (i := 1) (v := ?_) rfl (by kernel_rfl) (by kernel_rfl) (by kernel_rfl) (fun _ _ _ h => h) (Good.and Good.const (Good.till (by decide) ⟨_, ⟨5, .data⟩, rfl, by simp, rfl, rfl⟩)) (Or.inl ⟨by kernel_rfl, ?_⟩) hHeld (fun hHeld => ?_)
        rotate_left
        focus (intro wS hSw; obtain ⟨Lx, hLx, hs1, hs2⟩ := hSw; obtain ⟨s0, s1, s2, s3⟩ := hs1; go_simp; first | done | with_reducible rfl)
        refine anyL_take (i := 2) (v := ?_) rfl (by kernel_rfl) (by kernel_rfl) (by kernel_rfl) (fun _ _ _ h => h) (Good.and Good.const (Good.till (by decide) ⟨_, ⟨5, .data⟩, rfl, by simp, rfl, rfl⟩)) (Or.inl ⟨by kernel_rfl, ?_⟩) hHeld (fun hHeld => ?_)
        rotate_left
        focus (intro wS hSw; obtain ⟨Lx, hLx, hs1, hs2⟩ := hSw; skip; go_simp; first | done | with_reducible rfl)
        refine anyL_take (i := 3) (v := ?_) rfl (by kernel_rfl) (by kernel_rfl) (by kernel_rfl) (fun _ _ _ h => h) (Good.and Good.const (Good.till (by decide) ⟨_, ⟨5, .data⟩, rfl, by simp, rfl, rfl⟩)) (Or.inl ⟨by kernel_rfl, ?_⟩) hHeld (fun hHeld => ?_)
        rotate_left
        focus (intro wS hSw; obtain ⟨Lx, hLx, hs1, hs2⟩ := hSw; skip; go_simp; first | done | with_reducible rfl)
        refine anyL_take (i := 4) (v := ?_) rfl (by kernel_rfl) (by kernel_rfl) (by kernel_rfl) (fun _ _ _ h => h) (Good.and Good.const (Good.till (by decide) ⟨_, ⟨5, .data⟩, rfl, by simp, rfl, rfl⟩)) (Or.inl ⟨by kernel_rfl, ?_⟩) hHeld (fun hHeld => ?_)
        rotate_left
        focus (intro wS hSw; obtain ⟨Lx, hLx, hs1, hs2⟩ := hSw; skip; go_simp; first | done | with_reducible rfl)
        refine anyL_take (i := 5) (v := ?_) rfl (by kernel_rfl) (by kernel_rfl) (by kernel_rfl) (fun _ _ _ h => h) (Good.and Good.const (Good.till (by decide) ⟨_, ⟨5, .data⟩, rfl, by simp, rfl, rfl⟩)) (Or.inl ⟨by kernel_rfl, ?_⟩) hHeld (fun hHeld => ?_)
        rotate_left
        focus (intro wS hSw; obtain ⟨Lx, hLx, hs1, hs2⟩ := hSw; obtain ⟨s0, s1, s2⟩ := hs2.still hLx; go_simp; first | done | with_reducible rfl)
        refine anyL_ready (rs := [6]) (by kernel_rfl) (by simp) ?_
        refine OneOf.cons rfl (fun K hK => ?_) OneOf.nil
        go_simp
        go_wp2_with (refine (HAN.out _).mono ?_; rintro e2 w13 ⟨rfl, b13⟩)
        have h13 := hBd.below b13
        have x13 := xX2.drew.below b13
        refine hK.out _ _ ⟨HKX.out _ _ h13, ⟨fun _ => by kernel_rfl, fun h => till_gone (by kernel_rfl) h⟩⟩ (fun hHeld => ?_)
        clear hK K hB hBd hS0 xX2 b13 HAN
        refine anyL_ready (rs := [7]) (by kernel_rfl) (by simp) ?_
        refine OneOf.cons rfl (fun K hK => ?_) OneOf.nil
        go_simp
        go_wp2_with (refine (HN.out _ _ (coreAt_shut (core_in h13))).mono ?_; rintro e2 w14 ⟨rfl, h14, x14⟩)
        have x15 := x13.trans x14
        have hA : Has w14 (blk X0 #[(Value.int .i64) 0, (Value.int .i64) 0, (Value.int .i64) 0] 49 * (blk XM #[(Value.int .i64) lm.page, (Value.int .i64) lm.size, (Value.int .i64) lm.frame, (Value.int .i64) lm.rights] 27 * (coreAt q l k.idle * (blk EB #[Value.bool true, Value.bool true, (Value.int .i64) rg, Value.bool us, Value.bool (di), (Value.int .i64) fr] 58 * (memAt m s * (blk X #[(Value.int .i64) lm.page, (Value.int .i64) lm.size, (Value.int .i64) lm.frame, (Value.int .i64) lm.rights, Value.bool (di)] 99 * R)))))) := h14.eq (by ac_rfl)
        refine hK.out _ _ ⟨HKX.out _ _ hA.right, ⟨fun _ => by kernel_rfl, fun h => till_gone (by kernel_rfl) h⟩⟩ (fun hHeld => ?_)
        clear hK K h13 x13 h14 x14 HN
        refine anyL_take (i := 8) (v := ?_) rfl (by kernel_rfl) (by kernel_rfl) (by kernel_rfl) (fun _ _ _ h => h) (Good.and Good.const (Good.till (by decide) ⟨_, ⟨5, .data⟩, rfl, by simp, rfl, rfl⟩)) (Or.inl ⟨by kernel_rfl, ?_⟩) hHeld (fun hHeld => ?_)
        rotate_left
        focus (intro wS hSw; obtain ⟨Lx, hLx, hs1, hs2⟩ := hSw; skip; go_simp; first | done | with_reducible rfl)
        refine anyL_take (i := 9) (v := ?_) rfl (by kernel_rfl) (by kernel_rfl) (by kernel_rfl) (fun _ _ _ h => h) (Good.and Good.const (Good.till (by decide) ⟨_, ⟨5, .data⟩, rfl, by simp, rfl, rfl⟩)) (Or.inl ⟨by kernel_rfl, ?_⟩) hHeld (fun hHeld => ?_)
        rotate_left
        focus (intro wS hSw; obtain ⟨Lx, hLx, hs1, hs2⟩ := hSw; skip; go_simp; first | done | with_reducible rfl)
        refine anyL_take (i := 10) (v := ?_) rfl (by kernel_rfl) (by kernel_rfl) (by kernel_rfl) (fun _ _ _ h => h) (Good.and Good.const (Good.till (by decide) ⟨_, ⟨5, .data⟩, rfl, by simp, rfl, rfl⟩)) (Or.inl ⟨by kernel_rfl, ?_⟩) hHeld (fun hHeld => ?_)
        rotate_left
        focus (intro wS hSw; obtain ⟨Lx, hLx, hs1, hs2⟩ := hSw; skip; go_simp; first | done | with_reducible rfl)
        obtain ⟨r0, r1, r2⟩ := hA.cells3
        obtain ⟨g0, g1, g2⟩ := hA.frees3
        have rl := hA.lt
        have hF := hA.set3 ((Value.int .i64) an.fin) ((Value.int .i64) an.frame) ((Value.int .i64) an.rights)
        refine anyL_ready (rs := [11]) (by kernel_rfl) (by simp) ?_
        refine OneOf.cons rfl (fun K hK => ?_) OneOf.nil
        go_simp
        refine hK.out _ _ ⟨HKX.out _ _ hF.right, ⟨fun _ => by kernel_rfl, fun h => till_gone (by kernel_rfl) h⟩⟩ (fun hHeld => ?_)
        clear hK K
        refine anyL_ready (rs := [12]) (by kernel_rfl) (by simp) ?_
        refine OneOf.cons rfl (fun K hK => ?_) OneOf.nil
        go_simp
        refine hK.out _ _ ⟨HKX.out _ _ hF.right, ⟨fun _ => by kernel_rfl, fun h => till_gone (by kernel_rfl) h⟩⟩ (fun hHeld => ?_)
        clear hK K
        refine anyL_ready (rs := [13]) (by kernel_rfl) (by simp) ?_
        refine OneOf.cons rfl (fun K hK => ?_) OneOf.nil
        go_simp
        refine hK.out _ _ ⟨HKX.out _ _ hF.right, ⟨fun _ => by kernel_rfl, fun h => till_gone (by kernel_rfl) h⟩⟩ (fun hHeld => ?_)
        clear hK K
        refine anyL_done (by kernel_rfl) ?_
        clear hHeld
        go_wp2_with fail
        refine ret_via (fun wz => Has wz (blk X0 #[(Value.int .i64) an.fin, (Value.int .i64) an.frame, (Value.int .i64) an.rights] 49 * (blk XM #[(Value.int .i64) lm.page, (Value.int .i64) lm.size, (Value.int .i64) lm.frame, (Value.int .i64) lm.rights] 27 * (coreAt q l k.idle * (blk EB #[Value.bool true, Value.bool true, (Value.int .i64) rg, Value.bool us, Value.bool (di), (Value.int .i64) fr] 58 * (memAt m s * (blk X #[(Value.int .i64) lm.page, (Value.int .i64) lm.size, (Value.int .i64) lm.frame, (Value.int .i64) lm.rights, Value.bool (di)] 99 * R)))))) ∧ Ext W wz) ⟨hF, by (repeat (first | with_reducible assumption | with_reducible exact Ext.refl _ | with_reducible refine Ext.set ?_ _ _ | with_reducible refine Ext.alloc ?_ _ | with_reducible refine Ext.drew ?_ | with_reducible refine Ext.drewN ?_ _ | assumption | exact Ext.refl _ | refine Ext.alloc ?_ _ | refine Ext.set ?_ _ _ | refine Ext.drew ?_ | refine Ext.drewN ?_ _ | refine Ext.below ?_ (by assumption) | refine Ext.trans ?_ (by assumption)))⟩ ?_
        rintro wz ⟨hz, xz⟩
        exact bodyPost_ret (results_ctt Try.results47 rfl rfl rfl (load_answer hz)) rfl ⟨by rw [HYR.out]; rfl, by rw [HYR.out]; exact hz.right.right.p2.right.p2.eq (by ac_rfl), xz⟩
end Go.Proofs.Ytndhgomikpokpaa
