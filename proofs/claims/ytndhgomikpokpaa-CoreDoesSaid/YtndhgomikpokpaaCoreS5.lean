/- Contract of the document's Core.Step, against stepC. -/
import Derived.Test.YtndhgomikpokpaaCoreS3
import Derived.Test.YtndhgomikpokpaaCoreS4
namespace Go.Proofs.Ytndhgomikpokpaa
open Go.RowKit
set_option maxRecDepth 100000

set_option maxHeartbeats 8000000 in
theorem stepR (q m X : Nat) (root : Int) (l : List Ln) (k : Ck) (s : Ms) (hs : s.Ok) (hk : k.Ok) (R : HProp) (W : World) (h : Has W (coreAt q l k * (memAt m s * (blk X #[(Value.int .i64) 0, (Value.int .i64) 0, (Value.int .i64) 0, (Value.int .i64) 0, Value.bool false] 99 * R)))) :
    Calls Try.prog 47 #[.pointer (some ⟨q, 0, none⟩), .pointer (some ⟨m, 0, none⟩), (Value.int .i64) root, .pointer (some ⟨X, 0, none⟩)] W
      (Res (.tuple #[.agg #[(Value.int .i64) (stepC s root k).r.an.fin, (Value.int .i64) (stepC s root k).r.an.frame, (Value.int .i64) (stepC s root k).r.an.rights], Value.bool (stepC s root k).r.fin, (Value.int .i64) (stepC s root k).code])
        (coreAt q l (stepC s root k).c * (memAt m (stepC s root k).s * (blk X #[(Value.int .i64) (stepC s root k).r.ln.m.page, (Value.int .i64) (stepC s root k).r.ln.m.size, (Value.int .i64) (stepC s root k).r.ln.m.frame, (Value.int .i64) (stepC s root k).r.ln.m.rights, Value.bool (stepC s root k).r.ln.dirty] 99 * R))) W) := by
  obtain ⟨A, c, h⟩ := coreAt_open h
  have h1 := h.new #[(Value.int .i64) 0, (Value.int .i64) 0, (Value.int .i64) 0] 49
  have x1 := (Ext.refl W).alloc (.cells #[(Value.int .i64) 0, (Value.int .i64) 0, (Value.int .i64) 0] 49)
  clear h
  cases hon : k.on with
  | false =>
    have hy := Lib.hid (show stepC s root k = ⟨k, s, Rs.zero, 9⟩ by unfold stepC; rw [if_pos hon])
    obtain ⟨q1, q2, q3, q4, q5, q6, q7, q8, ql⟩ := core_cells h1.right
    rw [hon] at q1
    obtain ⟨r0, r1, r2⟩ := h1.cells3
    obtain ⟨g0, g1, g2⟩ := h1.frees3
    have rl := h1.lt
    clear hon hk hs
    go_enter Try.func47, Try.ntmps47
    go_wp2_with fail
    refine ret_via (fun wz => Has wz (blk W.heap.size #[(Value.int .i64) 0, (Value.int .i64) 0, (Value.int .i64) 0] 49 * coreIn q A c l k (memAt m s * (blk X #[(Value.int .i64) 0, (Value.int .i64) 0, (Value.int .i64) 0, (Value.int .i64) 0, Value.bool false] 99 * R))) ∧ Ext W wz) ⟨h1, by (repeat (first | with_reducible assumption | with_reducible exact Ext.refl _ | with_reducible refine Ext.set ?_ _ _ | with_reducible refine Ext.alloc ?_ _ | with_reducible refine Ext.drew ?_ | with_reducible refine Ext.drewN ?_ _ | assumption | exact Ext.refl _ | refine Ext.alloc ?_ _ | refine Ext.set ?_ _ _ | refine Ext.drew ?_ | refine Ext.drewN ?_ _ | refine Ext.below ?_ (by assumption) | refine Ext.trans ?_ (by assumption)))⟩ ?_
    rintro wz ⟨hz, xz⟩
    exact bodyPost_ret (results_ctt Try.results47 rfl rfl rfl (load_answer hz)) rfl ⟨by rw [hy.out]; rfl, by rw [hy.out]; exact coreAt_shut hz.right, xz⟩
  | true =>
    have HT := Lib.hid (fun R X h => takenM m s k.t R X h)
    cases ht : s.has k.t with
    | false =>
      have hy := Lib.hid (show stepC s root k = ⟨k, s, Rs.zero, 12⟩ by unfold stepC; rw [if_neg (by rw [hon]; simp), if_pos ht])
      rw [ht] at HT
      clear ht hk hs
      go_enter Try.func47, Try.ntmps47
      go_upto_region 1 with fail
      generalize W.alloc (.cells #[(Value.int .i64) 0, (Value.int .i64) 0, (Value.int .i64) 0] 49) = W1 at *
      generalize W.heap.size = X0 at *
      obtain ⟨q1, q2, q3, q4, q5, q6, q7, q8, ql⟩ := core_cells h1.right
      rw [hon] at q1
      skip
      go_wp2_with fail
      refine (HT.out _ _ h1.right.right.right).mono ?_; rintro e2 w2 ⟨rfl, rfl⟩
      clear hon HT
      obtain ⟨r0, r1, r2⟩ := (h1).cells3
      obtain ⟨g0, g1, g2⟩ := (h1).frees3
      have rl := (h1).lt
      go_wp2_with fail
      refine ret_via (fun wz => Has wz (blk X0 #[(Value.int .i64) 0, (Value.int .i64) 0, (Value.int .i64) 0] 49 * coreIn q A c l k (memAt m s * (blk X #[(Value.int .i64) 0, (Value.int .i64) 0, (Value.int .i64) 0, (Value.int .i64) 0, Value.bool false] 99 * R))) ∧ Ext W wz) ⟨h1.set3 _ _ _, by (repeat (first | with_reducible assumption | with_reducible exact Ext.refl _ | with_reducible refine Ext.set ?_ _ _ | with_reducible refine Ext.alloc ?_ _ | with_reducible refine Ext.drew ?_ | with_reducible refine Ext.drewN ?_ _ | assumption | exact Ext.refl _ | refine Ext.alloc ?_ _ | refine Ext.set ?_ _ _ | refine Ext.drew ?_ | refine Ext.drewN ?_ _ | refine Ext.below ?_ (by assumption) | refine Ext.trans ?_ (by assumption)))⟩ ?_
      rintro wz ⟨hz, xz⟩
      exact bodyPost_ret (results_ctt Try.results47 rfl rfl rfl (load_answer hz)) rfl ⟨by rw [hy.out]; rfl, by rw [hy.out]; exact coreAt_shut hz.right, xz⟩
    | true =>
      rw [ht] at HT
      have hp := check_has (hk.acc hon)
      obtain ⟨u0, un, _⟩ := Ms.has_iff.1 ht
      obtain ⟨t, htt⟩ := Int.eq_ofNat_of_zero_le u0
      rw [htt] at HT
      have HTT := Lib.hid htt
      obtain ⟨j, hj⟩ := Int.eq_ofNat_of_zero_le (index_le hp (hk.l0 hon) (hk.l3 hon)).1
      have hj8 : j < 8 := by have := (index_le hp (hk.l0 hon) (hk.l3 hon)).2; omega
      have htn : t < s.n := by omega
      have hsn := hs.small
      have hword : k.word s = s.wd t j := by unfold Ck.word wordV; rw [htt, hj]; rfl
      have HI := Lib.hid (fun Y => indexOf_any k.a.page k.level Y)
      rw [hj] at HI
      have hwb := hs.inv.wok t j
      have HD := Lib.hid (fun Y => entryOf_any (s.wd t j) k.level Y hwb.1 hwb.2)
      have hstep : stepC s root k = if k.mark = true ∧ s.wd t j ≠ k.w then ⟨k.again root, s, Rs.zero, 0⟩
          else if decC (s.wd t j) k.level ≠ 0 then ⟨k, s, Rs.zero, decC (s.wd t j) k.level⟩
          else if (decE (s.wd t j) k.level).there = false then k.endWith s 1
          else if (decE (s.wd t j) k.level).leaf = false then ⟨{ k with t := (decE (s.wd t j) k.level).frame, level := k.level - 1 }, s, Rs.zero, 0⟩
          else if may (decE (s.wd t j) k.level).rights k.a = false then k.endWith s 2
          else if k.mark = true then k.leafEnd (s.setW t j (encW (markE (decE (s.wd t j) k.level) k.a) k.level)) (markE (decE (s.wd t j) k.level) k.a)
          else if readyE (decE (s.wd t j) k.level) k.a = true then k.leafEnd s (decE (s.wd t j) k.level)
          else ⟨{ k with mark := true, w := s.wd t j }, s, Rs.zero, 0⟩ := by
        unfold stepC
        rw [if_neg (by rw [hon]; simp), if_neg (by rw [ht]; simp), hword, htt, hj]
        rfl
      have hlw : k.mark = true → s.wd t j = k.w → readyE (decE (s.wd t j) k.level) k.a = false := fun h1 h2 => by rw [h2]; exact hk.need h1
      have hwr : 0 ≤ k.level ∧ k.level ≤ 3 := ⟨hk.l0 hon, hk.l3 hon⟩
      have htnz : (t : Int) < (s.n : Int) := by omega
      have hj8z : (j : Int) < 8 := by omega
      have hjx := hj
      have htx : s.has (t : Int) = true := by rw [← htt]; exact ht
      have hX1 := h1
      have hXx := x1
      have HJX := Lib.hid (And.intro hjx htx)
      have HWB := Lib.hid hwb
      clear hwb hj u0 un ht hp hk hs hword htt hjx htx hX1 hXx
      generalize hv : s.wd t j = v at *
      have HV := Lib.hid hv
      clear hv
      by_cases htr : k.mark = true ∧ v ≠ k.w
      · rw [if_pos htr] at hstep
        have hy := Lib.hid hstep
        obtain ⟨hmk, hne⟩ := htr
        have hne' : (v != k.w) = true := by simpa using hne
        have HAG := Lib.hid (fun R X h => againR q root l k R X h)
        clear hstep hne hlw HD
        as_aux_lemma =>
          go_enter Try.func47, Try.ntmps47
          go_upto_region 1 with fail
          generalize W.alloc (.cells #[(Value.int .i64) 0, (Value.int .i64) 0, (Value.int .i64) 0] 49) = W1 at *
          generalize W.heap.size = X0 at *
          obtain ⟨q1, q2, q3, q4, q5, q6, q7, q8, ql⟩ := core_cells h1.right
          rw [hon] at q1
          rw [HTT.out] at q5
          go_wp2_with fail
          refine (HT.out _ _ h1.right.right.right).mono ?_; rintro e2 w2 ⟨rfl, rfl⟩
          obtain ⟨gw, gi, vk, hq⟩ := memAt_open h1.right.right.right
          have d0 := via_cell (Has.cell hq 0)
          have dw := mem_word hq htn hj8
          rw [HV.out] at dw
          have dw := via_cell dw
          have v2 := via_cell q2
          have v5 := via_cell q5
          have v6 := via_cell q6
          clear hq q1 q2 q3 q4 q5 q6 q7 q8 ql HT
          go_upto_region 5 with fail
          refine wp_region_via (by kernel_rfl) (by kernel_rfl) ?_
          repeat (first | go_big_quiet_step ((go_at_call 31; exact Pure.via (HI.out _))) | quiet_step ((go_at_call 31; exact Pure.via (HI.out _))))
          refine wpQuiet_nil ?_
          intro _ hw'
          obtain ⟨uq, hw''⟩ := hw'
          subst hw''
          have h2 := h1.via uq
          have x2 := x1.below (via_below _ uq)
          generalize via W1 uq = W2 at *
          clear h1 x1 d0 dw v2 v5 v6 HI
          obtain ⟨q1, q2, q3, q4, q5, q6, q7, q8, ql⟩ := core_cells h2.right
          rw [hmk] at q7
          clear hmk hon
          go_wp2_with fail
          refine (HAG.out _ _ (coreAt_shut (core_in h2))).mono ?_; rintro e2 w3 ⟨rfl, h3, x3⟩
          have hA := h3.p2
          have xA := x2.trans x3
          obtain ⟨r0, r1, r2⟩ := hA.cells3
          obtain ⟨g0, g1, g2⟩ := hA.frees3
          have rl := hA.lt
          clear h2 x2 h3 x3 HAG q1 q2 q3 q4 q5 q6 q7 q8 ql
          go_wp2_with fail
          refine ret_via (fun wz => Has wz (blk X0 #[(Value.int .i64) 0, (Value.int .i64) 0, (Value.int .i64) 0] 49 * (coreAt q l (k.again root) * (memAt m s * (blk X #[(Value.int .i64) 0, (Value.int .i64) 0, (Value.int .i64) 0, (Value.int .i64) 0, Value.bool false] 99 * R)))) ∧ Ext W wz) ⟨hA.set3 _ _ _, by (repeat (first | with_reducible assumption | with_reducible exact Ext.refl _ | with_reducible refine Ext.set ?_ _ _ | with_reducible refine Ext.alloc ?_ _ | with_reducible refine Ext.drew ?_ | with_reducible refine Ext.drewN ?_ _ | assumption | exact Ext.refl _ | refine Ext.alloc ?_ _ | refine Ext.set ?_ _ _ | refine Ext.drew ?_ | refine Ext.drewN ?_ _ | refine Ext.below ?_ (by assumption) | refine Ext.trans ?_ (by assumption)))⟩ ?_
          rintro wz ⟨hz, xz⟩
          exact bodyPost_ret (results_ctt Try.results47 rfl rfl rfl (load_answer hz)) rfl ⟨by rw [hy.out]; rfl, by rw [hy.out]; exact hz.right, xz⟩
      · rw [if_neg htr] at hstep
        have hmw : k.mark = true → v = k.w := fun h => Decidable.byContradiction fun hn => htr ⟨h, hn⟩
        have hcond : (k.mark && v != k.w) = false := by
          cases hmk : k.mark with
          | false => rfl
          | true => simp [hmw hmk]
        have HLW := Lib.hid (fun h => hlw h (hmw h))
        clear hmw hlw htr
        by_cases hd : decC v k.level = 0
        case neg =>
          rw [if_pos hd] at hstep
          have hy := Lib.hid hstep
          have hv := Lib.hid (decV_no (w := v) (l := k.level) rfl (.inl hd))
          rw [hv.out] at HD
          have hn : (decC v k.level != 0) = true := by simpa using hd
          clear hv hstep hd
          generalize decC v k.level = code at *
          as_aux_lemma =>
            go_enter Try.func47, Try.ntmps47
            go_upto_region 1 with fail
            generalize W.alloc (.cells #[(Value.int .i64) 0, (Value.int .i64) 0, (Value.int .i64) 0] 49) = W1 at *
            generalize W.heap.size = X0 at *
            obtain ⟨q1, q2, q3, q4, q5, q6, q7, q8, ql⟩ := core_cells h1.right
            rw [hon] at q1
            rw [HTT.out] at q5
            go_wp2_with fail
            refine (HT.out _ _ h1.right.right.right).mono ?_; rintro e2 w2 ⟨rfl, rfl⟩
            obtain ⟨gw, gi, vk, hq⟩ := memAt_open h1.right.right.right
            have d0 := via_cell (Has.cell hq 0)
            have dw := mem_word hq htn hj8
            rw [HV.out] at dw
            have dw := via_cell dw
            have v2 := via_cell q2
            have v5 := via_cell q5
            have v6 := via_cell q6
            clear hq q1 q2 q3 q4 q5 q6 q7 q8 ql HT
            go_upto_region 5 with fail
            refine wp_region_via (by kernel_rfl) (by kernel_rfl) ?_
            repeat (first | go_big_quiet_step ((go_at_call 31; exact Pure.via (HI.out _))) | quiet_step ((go_at_call 31; exact Pure.via (HI.out _))))
            refine wpQuiet_nil ?_
            intro _ hw'
            obtain ⟨uq, hw''⟩ := hw'
            subst hw''
            have h2 := h1.via uq
            have x2 := x1.below (via_below _ uq)
            generalize via W1 uq = W2 at *
            clear h1 x1 d0 dw v2 v5 v6 HI
            obtain ⟨q1, q2, q3, q4, q5, q6, q7, q8, ql⟩ := core_cells h2.right
            go_upto_region 6 with fail
            go_cut [62] from 51 to 62 (fun s62 wx => s62 = Value.bool false ∧ Has wx (blk X0 #[(Value.int .i64) 0, (Value.int .i64) 0, (Value.int .i64) 0] 49 * coreIn q A c l k (memAt m s * (blk X #[(Value.int .i64) 0, (Value.int .i64) 0, (Value.int .i64) 0, (Value.int .i64) 0, Value.bool false] 99 * R))) ∧ Ext W wx)
            case first =>
              cases hmk : k.mark with
              | false =>
                rw [hmk] at q7
                clear hmk hcond
                go_wp2_with fail
                go_meet
                case rel => exact ⟨rfl, h2, x2⟩
              | true =>
                rw [hmk] at q7 hcond
                have hcond' : (v != k.w) = false := hcond
                clear hmk hcond
                go_wp2_with fail
                go_meet
                case rel => exact ⟨rfl, h2, x2⟩
            case rest =>
              clear h2 x2 q1 q2 q3 q4 q5 q6 q7 q8 ql hcond
              obtain ⟨rfl, h2, x2⟩ := hcut
              obtain ⟨q1, q2, q3, q4, q5, q6, q7, q8, ql⟩ := core_cells h2.right
              go_wp2_with fail
              refine (HD.out _).mono ?_; rintro e2 w3 ⟨rfl, b3⟩
              have h3 := h2.below b3
              have x3 := x2.below b3
              clear h2 x2 b3 HD q1 q2 q3 q4 q5 q6 q7 q8 ql
              obtain ⟨r0, r1, r2⟩ := h3.cells3
              obtain ⟨g0, g1, g2⟩ := h3.frees3
              have rl := h3.lt
              go_wp2_with fail
              refine ret_via (fun wz => Has wz (blk X0 #[(Value.int .i64) 0, (Value.int .i64) 0, (Value.int .i64) 0] 49 * (coreIn q A c l k (memAt m s * (blk X #[(Value.int .i64) 0, (Value.int .i64) 0, (Value.int .i64) 0, (Value.int .i64) 0, Value.bool false] 99 * R)))) ∧ Ext W wz) ⟨(h3.set3 _ _ _).alloc _, by (repeat (first | with_reducible assumption | with_reducible exact Ext.refl _ | with_reducible refine Ext.set ?_ _ _ | with_reducible refine Ext.alloc ?_ _ | with_reducible refine Ext.drew ?_ | with_reducible refine Ext.drewN ?_ _ | assumption | exact Ext.refl _ | refine Ext.alloc ?_ _ | refine Ext.set ?_ _ _ | refine Ext.drew ?_ | refine Ext.drewN ?_ _ | refine Ext.below ?_ (by assumption) | refine Ext.trans ?_ (by assumption)))⟩ ?_
              rintro wz ⟨hz, xz⟩
              exact bodyPost_ret (results_ctt Try.results47 rfl rfl rfl (load_answer hz)) rfl ⟨by rw [hy.out]; rfl, by rw [hy.out]; exact coreAt_shut hz.right, xz⟩
        case pos =>
          rw [if_neg (by rw [hd]; simp)] at hstep
          have hvv : decV v k.level = .tuple #[.agg #[Value.bool (decE v k.level).there, Value.bool (decE v k.level).leaf, (Value.int .i64) (decE v k.level).rights, Value.bool (decE v k.level).used, Value.bool (decE v k.level).dirty, (Value.int .i64) (decE v k.level).frame], (Value.int .i64) 0] := by unfold decV; rw [hd]
          rw [hvv] at HD
          generalize hE : decE v k.level = e at *
          obtain ⟨th, lf, rg, us, di, fr⟩ := e
          dsimp only at hstep
          have HVV := Lib.hid hvv
          clear hvv hE hd
          cases th with
          | false =>
            rw [if_pos rfl] at hstep
            have hy := Lib.hid hstep
            clear hstep HLW
            as_aux_lemma =>
              go_enter Try.func47, Try.ntmps47
              go_upto_region 1 with fail
              generalize W.alloc (.cells #[(Value.int .i64) 0, (Value.int .i64) 0, (Value.int .i64) 0] 49) = W1 at *
              generalize W.heap.size = X0 at *
              obtain ⟨q1, q2, q3, q4, q5, q6, q7, q8, ql⟩ := core_cells h1.right
              rw [hon] at q1
              rw [HTT.out] at q5
              go_wp2_with fail
              refine (HT.out _ _ h1.right.right.right).mono ?_; rintro e2 w2 ⟨rfl, rfl⟩
              obtain ⟨gw, gi, vk, hq⟩ := memAt_open h1.right.right.right
              have d0 := via_cell (Has.cell hq 0)
              have dw := mem_word hq htn hj8
              rw [HV.out] at dw
              have dw := via_cell dw
              have v2 := via_cell q2
              have v5 := via_cell q5
              have v6 := via_cell q6
              clear hq q1 q2 q3 q4 q5 q6 q7 q8 ql HT
              go_upto_region 5 with fail
              refine wp_region_via (by kernel_rfl) (by kernel_rfl) ?_
              repeat (first | go_big_quiet_step ((go_at_call 31; exact Pure.via (HI.out _))) | quiet_step ((go_at_call 31; exact Pure.via (HI.out _))))
              refine wpQuiet_nil ?_
              intro _ hw'
              obtain ⟨uq, hw''⟩ := hw'
              subst hw''
              have h2 := h1.via uq
              have x2 := x1.below (via_below _ uq)
              generalize via W1 uq = W2 at *
              clear h1 x1 d0 dw v2 v5 v6 HI
              obtain ⟨q1, q2, q3, q4, q5, q6, q7, q8, ql⟩ := core_cells h2.right
              go_upto_region 6 with fail
              go_cut [62] from 51 to 62 (fun s62 wx => s62 = Value.bool false ∧ Has wx (blk X0 #[(Value.int .i64) 0, (Value.int .i64) 0, (Value.int .i64) 0] 49 * coreIn q A c l k (memAt m s * (blk X #[(Value.int .i64) 0, (Value.int .i64) 0, (Value.int .i64) 0, (Value.int .i64) 0, Value.bool false] 99 * R))) ∧ Ext W wx)
              case first =>
                cases hmk : k.mark with
                | false =>
                  rw [hmk] at q7
                  clear hmk hcond
                  go_wp2_with fail
                  go_meet
                  case rel => exact ⟨rfl, h2, x2⟩
                | true =>
                  rw [hmk] at q7 hcond
                  have hcond' : (v != k.w) = false := hcond
                  clear hmk hcond
                  go_wp2_with fail
                  go_meet
                  case rel => exact ⟨rfl, h2, x2⟩
              case rest =>
                clear h2 x2 q1 q2 q3 q4 q5 q6 q7 q8 ql hcond
                obtain ⟨rfl, h2, x2⟩ := hcut
                obtain ⟨q1, q2, q3, q4, q5, q6, q7, q8, ql⟩ := core_cells h2.right
                go_wp2_with fail
                refine (HD.out _).mono ?_; rintro e2 w3 ⟨rfl, b3⟩
                have h3 := h2.below b3
                have x3 := x2.below b3
                clear h2 x2 b3 HD q1 q2 q3 q4 q5 q6 q7 q8 ql
                have h4 := h3.new #[Value.bool false, Value.bool lf, (Value.int .i64) rg, Value.bool us, Value.bool di, (Value.int .i64) fr] 58
                have x4 := x3.alloc (.cells #[Value.bool false, Value.bool lf, (Value.int .i64) rg, Value.bool us, Value.bool di, (Value.int .i64) fr] 58)
                clear h3 x3
                go_upto_region 13 with fail
                generalize w3.alloc (.cells #[Value.bool false, Value.bool lf, (Value.int .i64) rg, Value.bool us, Value.bool di, (Value.int .i64) fr] 58) = w4 at *
                generalize w3.heap.size = EB at *
                obtain ⟨e0', e1', e2', e3', e4', e5'⟩ := h4.cells6
                have el := h4.lt
                obtain ⟨q1, q2, q3, q4, q5, q6, q7, q8, ql⟩ := core_cells h4.right.right
                have h8 : Has w4 (coreIn q A c l k (blk X0 #[(Value.int .i64) 0, (Value.int .i64) 0, (Value.int .i64) 0] 49 * (blk EB #[Value.bool false, Value.bool lf, (Value.int .i64) rg, Value.bool us, Value.bool di, (Value.int .i64) fr] 58 * (memAt m s * (blk X #[(Value.int .i64) 0, (Value.int .i64) 0, (Value.int .i64) 0, (Value.int .i64) 0, Value.bool false] 99 * R))))) := (h4).eq (by unfold coreIn; ac_rfl)
                have HE := Lib.hid (fun R X h => endCR q l k ⟨1, 0, 0⟩ R X h)
                go_wp2_with fail
                refine (HE.out _ _ (coreAt_shut h8)).mono ?_; rintro e2 w9 ⟨rfl, h9, x9⟩
                have hA := h9.p2
                obtain ⟨r0, r1, r2⟩ := hA.cells3
                obtain ⟨g0, g1, g2⟩ := hA.frees3
                have rl := hA.lt
                have xA := (x4).trans x9
                clear h8 h9 HE x9
                go_wp2_with fail
                refine ret_via (fun wz => Has wz (blk X0 #[(Value.int .i64) 1, (Value.int .i64) 0, (Value.int .i64) 0] 49 * (coreAt q l k.idle * (blk EB #[Value.bool false, Value.bool lf, (Value.int .i64) rg, Value.bool us, Value.bool di, (Value.int .i64) fr] 58 * (memAt m s * (blk X #[(Value.int .i64) 0, (Value.int .i64) 0, (Value.int .i64) 0, (Value.int .i64) 0, Value.bool false] 99 * R))))) ∧ Ext W wz) ⟨hA.set3 _ _ _, by (repeat (first | with_reducible assumption | with_reducible exact Ext.refl _ | with_reducible refine Ext.set ?_ _ _ | with_reducible refine Ext.alloc ?_ _ | with_reducible refine Ext.drew ?_ | with_reducible refine Ext.drewN ?_ _ | assumption | exact Ext.refl _ | refine Ext.alloc ?_ _ | refine Ext.set ?_ _ _ | refine Ext.drew ?_ | refine Ext.drewN ?_ _ | refine Ext.below ?_ (by assumption) | refine Ext.trans ?_ (by assumption)))⟩ ?_
                rintro wz ⟨hz, xz⟩
                exact bodyPost_ret (results_ctt Try.results47 rfl rfl rfl (load_answer hz)) rfl ⟨by rw [hy.out]; rfl, by rw [hy.out]; exact hz.right.p2.right, xz⟩
          | true =>
            rw [if_neg (by simp)] at hstep
            cases lf with
            | false =>
              rw [if_pos rfl] at hstep
              have hy := Lib.hid hstep
              have hwr' : IntKind.i64.wrap (k.level - 1) = k.level - 1 := by rw [IntKind.wrap_i64]; omega
              clear hstep HLW hwr
              as_aux_lemma =>
                go_enter Try.func47, Try.ntmps47
                go_upto_region 1 with fail
                generalize W.alloc (.cells #[(Value.int .i64) 0, (Value.int .i64) 0, (Value.int .i64) 0] 49) = W1 at *
                generalize W.heap.size = X0 at *
                obtain ⟨q1, q2, q3, q4, q5, q6, q7, q8, ql⟩ := core_cells h1.right
                rw [hon] at q1
                rw [HTT.out] at q5
                go_wp2_with fail
                refine (HT.out _ _ h1.right.right.right).mono ?_; rintro e2 w2 ⟨rfl, rfl⟩
                obtain ⟨gw, gi, vk, hq⟩ := memAt_open h1.right.right.right
                have d0 := via_cell (Has.cell hq 0)
                have dw := mem_word hq htn hj8
                rw [HV.out] at dw
                have dw := via_cell dw
                have v2 := via_cell q2
                have v5 := via_cell q5
                have v6 := via_cell q6
                clear hq q1 q2 q3 q4 q5 q6 q7 q8 ql HT
                go_upto_region 5 with fail
                refine wp_region_via (by kernel_rfl) (by kernel_rfl) ?_
                repeat (first | go_big_quiet_step ((go_at_call 31; exact Pure.via (HI.out _))) | quiet_step ((go_at_call 31; exact Pure.via (HI.out _))))
                refine wpQuiet_nil ?_
                intro _ hw'
                obtain ⟨uq, hw''⟩ := hw'
                subst hw''
                have h2 := h1.via uq
                have x2 := x1.below (via_below _ uq)
                generalize via W1 uq = W2 at *
                clear h1 x1 d0 dw v2 v5 v6 HI
                obtain ⟨q1, q2, q3, q4, q5, q6, q7, q8, ql⟩ := core_cells h2.right
                go_upto_region 6 with fail
                go_cut [62] from 51 to 62 (fun s62 wx => s62 = Value.bool false ∧ Has wx (blk X0 #[(Value.int .i64) 0, (Value.int .i64) 0, (Value.int .i64) 0] 49 * coreIn q A c l k (memAt m s * (blk X #[(Value.int .i64) 0, (Value.int .i64) 0, (Value.int .i64) 0, (Value.int .i64) 0, Value.bool false] 99 * R))) ∧ Ext W wx)
                case first =>
                  cases hmk : k.mark with
                  | false =>
                    rw [hmk] at q7
                    clear hmk hcond
                    go_wp2_with fail
                    go_meet
                    case rel => exact ⟨rfl, h2, x2⟩
                  | true =>
                    rw [hmk] at q7 hcond
                    have hcond' : (v != k.w) = false := hcond
                    clear hmk hcond
                    go_wp2_with fail
                    go_meet
                    case rel => exact ⟨rfl, h2, x2⟩
                case rest =>
                  clear h2 x2 q1 q2 q3 q4 q5 q6 q7 q8 ql hcond
                  obtain ⟨rfl, h2, x2⟩ := hcut
                  obtain ⟨q1, q2, q3, q4, q5, q6, q7, q8, ql⟩ := core_cells h2.right
                  go_wp2_with fail
                  refine (HD.out _).mono ?_; rintro e2 w3 ⟨rfl, b3⟩
                  have h3 := h2.below b3
                  have x3 := x2.below b3
                  clear h2 x2 b3 HD q1 q2 q3 q4 q5 q6 q7 q8 ql
                  have h4 := h3.new #[Value.bool true, Value.bool false, (Value.int .i64) rg, Value.bool us, Value.bool di, (Value.int .i64) fr] 58
                  have x4 := x3.alloc (.cells #[Value.bool true, Value.bool false, (Value.int .i64) rg, Value.bool us, Value.bool di, (Value.int .i64) fr] 58)
                  clear h3 x3
                  go_upto_region 15 with fail
                  generalize w3.alloc (.cells #[Value.bool true, Value.bool false, (Value.int .i64) rg, Value.bool us, Value.bool di, (Value.int .i64) fr] 58) = w4 at *
                  generalize w3.heap.size = EB at *
                  obtain ⟨e0', e1', e2', e3', e4', e5'⟩ := h4.cells6
                  have el := h4.lt
                  obtain ⟨q1, q2, q3, q4, q5, q6, q7, q8, ql⟩ := core_cells h4.right.right
                  have h5 : Has w4 (coreBlk q (.slice A l.length c) k * (blk EB #[Value.bool true, Value.bool false, (Value.int .i64) rg, Value.bool us, Value.bool di, (Value.int .i64) fr] 58 * (blk X0 #[(Value.int .i64) 0, (Value.int .i64) 0, (Value.int .i64) 0] 49 * (rrow (.slice A l.length c) l * (memAt m s * (blk X #[(Value.int .i64) 0, (Value.int .i64) 0, (Value.int .i64) 0, (Value.int .i64) 0, Value.bool false] 99 * R)))))) := h4.eq (by unfold coreIn; ac_rfl)
                  have h6 : Has w4 (coreBlk q (.slice A l.length c) k * (blk X0 #[(Value.int .i64) 0, (Value.int .i64) 0, (Value.int .i64) 0] 49 * (blk EB #[Value.bool true, Value.bool false, (Value.int .i64) rg, Value.bool us, Value.bool di, (Value.int .i64) fr] 58 * (rrow (.slice A l.length c) l * (memAt m s * (blk X #[(Value.int .i64) 0, (Value.int .i64) 0, (Value.int .i64) 0, (Value.int .i64) 0, Value.bool false] 99 * R)))))) := h4.eq (by unfold coreIn; ac_rfl)
                  unfold coreBlk at h5 h6
                  have n1 := h5.ne
                  have n2 := n1.symm
                  have n3 := h6.ne
                  have n4 := n3.symm
                  have f5 := h5.free 5
                  have f6 := h5.free 6
                  have h7 : Has ((w4.setCell ⟨q, 5, none⟩ ((Value.int .i64) fr)).setCell ⟨q, 6, none⟩ ((Value.int .i64) (k.level - 1))) (coreBlk q (.slice A l.length c) { k with t := fr, level := k.level - 1 } * (blk X0 #[(Value.int .i64) 0, (Value.int .i64) 0, (Value.int .i64) 0] 49 * (blk EB #[Value.bool true, Value.bool false, (Value.int .i64) rg, Value.bool us, Value.bool di, (Value.int .i64) fr] 58 * (rrow (.slice A l.length c) l * (memAt m s * (blk X #[(Value.int .i64) 0, (Value.int .i64) 0, (Value.int .i64) 0, (Value.int .i64) 0, Value.bool false] 99 * R)))))) := (h6.set 5 _).set 6 _
                  obtain ⟨r0, r1, r2⟩ := h6.right.cells3
                  obtain ⟨g0, g1, g2⟩ := h6.right.frees3
                  have rl := h6.right.lt
                  clear h4 h5 h6
                  go_wp2_with fail
                  refine ret_via (fun wz => Has wz (blk X0 #[(Value.int .i64) 0, (Value.int .i64) 0, (Value.int .i64) 0] 49 * (coreBlk q (.slice A l.length c) { k with t := fr, level := k.level - 1 } * (blk EB #[Value.bool true, Value.bool false, (Value.int .i64) rg, Value.bool us, Value.bool di, (Value.int .i64) fr] 58 * (rrow (.slice A l.length c) l * (memAt m s * (blk X #[(Value.int .i64) 0, (Value.int .i64) 0, (Value.int .i64) 0, (Value.int .i64) 0, Value.bool false] 99 * R)))))) ∧ Ext W wz) ⟨h7.p2.set3 _ _ _, by (repeat (first | with_reducible assumption | with_reducible exact Ext.refl _ | with_reducible refine Ext.set ?_ _ _ | with_reducible refine Ext.alloc ?_ _ | with_reducible refine Ext.drew ?_ | with_reducible refine Ext.drewN ?_ _ | assumption | exact Ext.refl _ | refine Ext.alloc ?_ _ | refine Ext.set ?_ _ _ | refine Ext.drew ?_ | refine Ext.drewN ?_ _ | refine Ext.below ?_ (by assumption) | refine Ext.trans ?_ (by assumption)))⟩ ?_
                  rintro wz ⟨hz, xz⟩
                  exact bodyPost_ret (results_ctt Try.results47 rfl rfl rfl (load_answer hz)) rfl ⟨by rw [hy.out]; rfl, by rw [hy.out]; exact coreAt_shut (A := A) (c := c) (by unfold coreIn; exact hz.right.p2.right), xz⟩
            | true =>
              rw [if_neg (by simp)] at hstep
              have HY := Lib.hid (fun Y => lets_any rg k.a.page k.a.kind k.a.user Y)
              rw [show (⟨k.a.page, k.a.kind, k.a.user⟩ : Ac) = k.a from rfl] at HY
              cases hmay : may rg k.a with
              | false =>
                rw [if_pos hmay] at hstep
                rw [hmay] at HY
                have hy := Lib.hid hstep
                clear hstep hmay HLW
                as_aux_lemma =>
                  go_enter Try.func47, Try.ntmps47
                  go_upto_region 1 with fail
                  generalize W.alloc (.cells #[(Value.int .i64) 0, (Value.int .i64) 0, (Value.int .i64) 0] 49) = W1 at *
                  generalize W.heap.size = X0 at *
                  obtain ⟨q1, q2, q3, q4, q5, q6, q7, q8, ql⟩ := core_cells h1.right
                  rw [hon] at q1
                  rw [HTT.out] at q5
                  go_wp2_with fail
                  refine (HT.out _ _ h1.right.right.right).mono ?_; rintro e2 w2 ⟨rfl, rfl⟩
                  obtain ⟨gw, gi, vk, hq⟩ := memAt_open h1.right.right.right
                  have d0 := via_cell (Has.cell hq 0)
                  have dw := mem_word hq htn hj8
                  rw [HV.out] at dw
                  have dw := via_cell dw
                  have v2 := via_cell q2
                  have v5 := via_cell q5
                  have v6 := via_cell q6
                  clear hq q1 q2 q3 q4 q5 q6 q7 q8 ql HT
                  go_upto_region 5 with fail
                  refine wp_region_via (by kernel_rfl) (by kernel_rfl) ?_
                  repeat (first | go_big_quiet_step ((go_at_call 31; exact Pure.via (HI.out _))) | quiet_step ((go_at_call 31; exact Pure.via (HI.out _))))
                  refine wpQuiet_nil ?_
                  intro _ hw'
                  obtain ⟨uq, hw''⟩ := hw'
                  subst hw''
                  have h2 := h1.via uq
                  have x2 := x1.below (via_below _ uq)
                  generalize via W1 uq = W2 at *
                  clear h1 x1 d0 dw v2 v5 v6 HI
                  obtain ⟨q1, q2, q3, q4, q5, q6, q7, q8, ql⟩ := core_cells h2.right
                  go_upto_region 6 with fail
                  go_cut [62] from 51 to 62 (fun s62 wx => s62 = Value.bool false ∧ Has wx (blk X0 #[(Value.int .i64) 0, (Value.int .i64) 0, (Value.int .i64) 0] 49 * coreIn q A c l k (memAt m s * (blk X #[(Value.int .i64) 0, (Value.int .i64) 0, (Value.int .i64) 0, (Value.int .i64) 0, Value.bool false] 99 * R))) ∧ Ext W wx)
                  case first =>
                    cases hmk : k.mark with
                    | false =>
                      rw [hmk] at q7
                      clear hmk hcond
                      go_wp2_with fail
                      go_meet
                      case rel => exact ⟨rfl, h2, x2⟩
                    | true =>
                      rw [hmk] at q7 hcond
                      have hcond' : (v != k.w) = false := hcond
                      clear hmk hcond
                      go_wp2_with fail
                      go_meet
                      case rel => exact ⟨rfl, h2, x2⟩
                  case rest =>
                    clear h2 x2 q1 q2 q3 q4 q5 q6 q7 q8 ql hcond
                    obtain ⟨rfl, h2, x2⟩ := hcut
                    obtain ⟨q1, q2, q3, q4, q5, q6, q7, q8, ql⟩ := core_cells h2.right
                    go_wp2_with fail
                    refine (HD.out _).mono ?_; rintro e2 w3 ⟨rfl, b3⟩
                    have h3 := h2.below b3
                    have x3 := x2.below b3
                    clear h2 x2 b3 HD q1 q2 q3 q4 q5 q6 q7 q8 ql
                    have h4 := h3.new #[Value.bool true, Value.bool true, (Value.int .i64) rg, Value.bool us, Value.bool di, (Value.int .i64) fr] 58
                    have x4 := x3.alloc (.cells #[Value.bool true, Value.bool true, (Value.int .i64) rg, Value.bool us, Value.bool di, (Value.int .i64) fr] 58)
                    clear h3 x3
                    go_upto_region 18 with fail
                    generalize w3.alloc (.cells #[Value.bool true, Value.bool true, (Value.int .i64) rg, Value.bool us, Value.bool di, (Value.int .i64) fr] 58) = w4 at *
                    generalize w3.heap.size = EB at *
                    obtain ⟨e0', e1', e2', e3', e4', e5'⟩ := h4.cells6
                    have el := h4.lt
                    obtain ⟨q1, q2, q3, q4, q5, q6, q7, q8, ql⟩ := core_cells h4.right.right
                    have v2 := via_cell q2
                    have v3 := via_cell q3
                    have v4 := via_cell q4
                    have ve2 := via_cell e2'
                    clear e0' e1' e2' e3' e4' e5' el q1 q2 q3 q4 q5 q6 q7 q8 ql
                    refine wp_region_via (by kernel_rfl) (by kernel_rfl) ?_
                    repeat (first | go_big_quiet_step ((go_at_call 109; exact Pure.via (HY.out _))) | quiet_step ((go_at_call 109; exact Pure.via (HY.out _))))
                    refine wpQuiet_nil ?_
                    intro _ hw'
                    obtain ⟨uq, hw''⟩ := hw'
                    subst hw''
                    have h5 := h4.via uq
                    have x5 := x4.below (via_below _ uq)
                    generalize via w4 uq = w5 at *
                    clear h4 x4 v2 v3 v4 ve2 HY
                    obtain ⟨q1, q2, q3, q4, q5, q6, q7, q8, ql⟩ := core_cells h5.right.right
                    obtain ⟨e0', e1', e2', e3', e4', e5'⟩ := h5.cells6
                    have el := h5.lt
                    have h8 : Has w5 (coreIn q A c l k (blk X0 #[(Value.int .i64) 0, (Value.int .i64) 0, (Value.int .i64) 0] 49 * (blk EB #[Value.bool true, Value.bool true, (Value.int .i64) rg, Value.bool us, Value.bool di, (Value.int .i64) fr] 58 * (memAt m s * (blk X #[(Value.int .i64) 0, (Value.int .i64) 0, (Value.int .i64) 0, (Value.int .i64) 0, Value.bool false] 99 * R))))) := (h5).eq (by unfold coreIn; ac_rfl)
                    have HE := Lib.hid (fun R X h => endCR q l k ⟨2, 0, 0⟩ R X h)
                    go_wp2_with fail
                    refine (HE.out _ _ (coreAt_shut h8)).mono ?_; rintro e2 w9 ⟨rfl, h9, x9⟩
                    have hA := h9.p2
                    obtain ⟨r0, r1, r2⟩ := hA.cells3
                    obtain ⟨g0, g1, g2⟩ := hA.frees3
                    have rl := hA.lt
                    have xA := (x5).trans x9
                    clear h8 h9 HE x9
                    go_wp2_with fail
                    refine ret_via (fun wz => Has wz (blk X0 #[(Value.int .i64) 2, (Value.int .i64) 0, (Value.int .i64) 0] 49 * (coreAt q l k.idle * (blk EB #[Value.bool true, Value.bool true, (Value.int .i64) rg, Value.bool us, Value.bool di, (Value.int .i64) fr] 58 * (memAt m s * (blk X #[(Value.int .i64) 0, (Value.int .i64) 0, (Value.int .i64) 0, (Value.int .i64) 0, Value.bool false] 99 * R))))) ∧ Ext W wz) ⟨hA.set3 _ _ _, by (repeat (first | with_reducible assumption | with_reducible exact Ext.refl _ | with_reducible refine Ext.set ?_ _ _ | with_reducible refine Ext.alloc ?_ _ | with_reducible refine Ext.drew ?_ | with_reducible refine Ext.drewN ?_ _ | assumption | exact Ext.refl _ | refine Ext.alloc ?_ _ | refine Ext.set ?_ _ _ | refine Ext.drew ?_ | refine Ext.drewN ?_ _ | refine Ext.below ?_ (by assumption) | refine Ext.trans ?_ (by assumption)))⟩ ?_
                    rintro wz ⟨hz, xz⟩
                    exact bodyPost_ret (results_ctt Try.results47 rfl rfl rfl (load_answer hz)) rfl ⟨by rw [hy.out]; rfl, by rw [hy.out]; exact hz.right.p2.right, xz⟩
              | true =>
                rw [if_neg (by rw [hmay]; simp)] at hstep
                have HMAY := Lib.hid hmay
                clear hmay
                cases hmk : k.mark with
                | true =>
                  rw [if_pos hmk] at hstep
                  exact stepR_mark q m X root l k s R W A c h1 x1 hon t j HTT hj8 htn hsn HJX.out.1 HJX.out.2 v HV HWB.out hcond rg us di fr HVV.out HMAY.out (Lib.hid hmk) (HLW.out hmk) hstep
                | false =>
                  rw [if_neg (by rw [hmk]; simp)] at hstep
                  have HMK := Lib.hid hmk
                  clear hmk
                  cases hr : readyE ⟨true, true, rg, us, di, fr⟩ k.a with
                  | true =>
                    rw [if_pos hr] at hstep
                    exact stepR_ready q m X root l k s R W A c h1 x1 hon t j HTT hj8 htn hsn HJX.out.1 HJX.out.2 v HV HWB.out hcond rg us di fr HVV.out HMAY.out HMK hr hstep
                  | false =>
                    rw [if_neg (by rw [hr]; simp)] at hstep
                    have hy := Lib.hid hstep
                    rw [HMAY.out] at HY
                    clear hstep HLW HMAY HVV HJX
                    as_aux_lemma =>
                      go_enter Try.func47, Try.ntmps47
                      go_upto_region 1 with fail
                      generalize W.alloc (.cells #[(Value.int .i64) 0, (Value.int .i64) 0, (Value.int .i64) 0] 49) = W1 at *
                      generalize W.heap.size = X0 at *
                      obtain ⟨q1, q2, q3, q4, q5, q6, q7, q8, ql⟩ := core_cells h1.right
                      rw [hon] at q1
                      rw [HTT.out] at q5
                      go_wp2_with fail
                      refine (HT.out _ _ h1.right.right.right).mono ?_; rintro e2 w2 ⟨rfl, rfl⟩
                      obtain ⟨gw, gi, vk, hq⟩ := memAt_open h1.right.right.right
                      have d0 := via_cell (Has.cell hq 0)
                      have dw := mem_word hq htn hj8
                      rw [HV.out] at dw
                      have dw := via_cell dw
                      have v2 := via_cell q2
                      have v5 := via_cell q5
                      have v6 := via_cell q6
                      clear hq q1 q2 q3 q4 q5 q6 q7 q8 ql HT
                      go_upto_region 5 with fail
                      refine wp_region_via (by kernel_rfl) (by kernel_rfl) ?_
                      repeat (first | go_big_quiet_step ((go_at_call 31; exact Pure.via (HI.out _))) | quiet_step ((go_at_call 31; exact Pure.via (HI.out _))))
                      refine wpQuiet_nil ?_
                      intro _ hw'
                      obtain ⟨uq, hw''⟩ := hw'
                      subst hw''
                      have h2 := h1.via uq
                      have x2 := x1.below (via_below _ uq)
                      generalize via W1 uq = W2 at *
                      clear h1 x1 d0 dw v2 v5 v6 HI
                      obtain ⟨q1, q2, q3, q4, q5, q6, q7, q8, ql⟩ := core_cells h2.right
                      go_upto_region 6 with fail
                      go_cut [62] from 51 to 62 (fun s62 wx => s62 = Value.bool false ∧ Has wx (blk X0 #[(Value.int .i64) 0, (Value.int .i64) 0, (Value.int .i64) 0] 49 * coreIn q A c l k (memAt m s * (blk X #[(Value.int .i64) 0, (Value.int .i64) 0, (Value.int .i64) 0, (Value.int .i64) 0, Value.bool false] 99 * R))) ∧ Ext W wx)
                      case first =>
                        cases hmk : k.mark with
                        | false =>
                          rw [hmk] at q7
                          clear hmk hcond
                          go_wp2_with fail
                          go_meet
                          case rel => exact ⟨rfl, h2, x2⟩
                        | true =>
                          rw [hmk] at q7 hcond
                          have hcond' : (v != k.w) = false := hcond
                          clear hmk hcond
                          go_wp2_with fail
                          go_meet
                          case rel => exact ⟨rfl, h2, x2⟩
                      case rest =>
                        clear h2 x2 q1 q2 q3 q4 q5 q6 q7 q8 ql hcond
                        obtain ⟨rfl, h2, x2⟩ := hcut
                        obtain ⟨q1, q2, q3, q4, q5, q6, q7, q8, ql⟩ := core_cells h2.right
                        go_wp2_with fail
                        refine (HD.out _).mono ?_; rintro e2 w3 ⟨rfl, b3⟩
                        have h3 := h2.below b3
                        have x3 := x2.below b3
                        clear h2 x2 b3 HD q1 q2 q3 q4 q5 q6 q7 q8 ql
                        have h4 := h3.new #[Value.bool true, Value.bool true, (Value.int .i64) rg, Value.bool us, Value.bool di, (Value.int .i64) fr] 58
                        have x4 := x3.alloc (.cells #[Value.bool true, Value.bool true, (Value.int .i64) rg, Value.bool us, Value.bool di, (Value.int .i64) fr] 58)
                        clear h3 x3
                        go_upto_region 18 with fail
                        generalize w3.alloc (.cells #[Value.bool true, Value.bool true, (Value.int .i64) rg, Value.bool us, Value.bool di, (Value.int .i64) fr] 58) = w4 at *
                        generalize w3.heap.size = EB at *
                        obtain ⟨e0', e1', e2', e3', e4', e5'⟩ := h4.cells6
                        have el := h4.lt
                        obtain ⟨q1, q2, q3, q4, q5, q6, q7, q8, ql⟩ := core_cells h4.right.right
                        have v2 := via_cell q2
                        have v3 := via_cell q3
                        have v4 := via_cell q4
                        have ve2 := via_cell e2'
                        clear e0' e1' e2' e3' e4' e5' el q1 q2 q3 q4 q5 q6 q7 q8 ql
                        refine wp_region_via (by kernel_rfl) (by kernel_rfl) ?_
                        repeat (first | go_big_quiet_step ((go_at_call 109; exact Pure.via (HY.out _))) | quiet_step ((go_at_call 109; exact Pure.via (HY.out _))))
                        refine wpQuiet_nil ?_
                        intro _ hw'
                        obtain ⟨uq, hw''⟩ := hw'
                        subst hw''
                        have h5 := h4.via uq
                        have x5 := x4.below (via_below _ uq)
                        generalize via w4 uq = w5 at *
                        clear h4 x4 v2 v3 v4 ve2 HY
                        obtain ⟨q1, q2, q3, q4, q5, q6, q7, q8, ql⟩ := core_cells h5.right.right
                        obtain ⟨e0', e1', e2', e3', e4', e5'⟩ := h5.cells6
                        have el := h5.lt
                        go_upto_region 20 with fail
                        go_cut [14] from 119 to 132 (fun s14 wx => s14 = Value.bool false ∧ Has wx (blk EB #[Value.bool true, Value.bool true, (Value.int .i64) rg, Value.bool us, Value.bool di, (Value.int .i64) fr] 58 * (blk X0 #[(Value.int .i64) 0, (Value.int .i64) 0, (Value.int .i64) 0] 49 * coreIn q A c l k (memAt m s * (blk X #[(Value.int .i64) 0, (Value.int .i64) 0, (Value.int .i64) 0, (Value.int .i64) 0, Value.bool false] 99 * R)))) ∧ Ext W wx)
                        case first =>
                          have HRR := Lib.hid hr
                          clear hr
                          cases us with
                          | false =>
                            go_wp2_with fail
                            go_meet
                            case rel => exact ⟨by rw [← HRR.out]; first | done | rfl, h5, x5⟩
                          | true =>
                            cases di with
                            | true =>
                              go_wp2_with fail
                              go_meet
                              case rel => exact ⟨by rw [← HRR.out]; first | done | rfl, h5, x5⟩
                            | false =>
                              go_wp2_with fail
                              go_meet
                              case rel => exact ⟨by rw [← HRR.out]; first | done | rfl, h5, x5⟩
                        case rest =>
                          clear h5 x5 q1 q2 q3 q4 q5 q6 q7 q8 ql e0' e1' e2' e3' e4' e5' el hr
                          obtain ⟨rfl, h6, x6⟩ := hcut
                          obtain ⟨q1, q2, q3, q4, q5, q6, q7, q8, ql⟩ := core_cells h6.right.right
                          rw [HMK.out] at q7
                          obtain ⟨e0', e1', e2', e3', e4', e5'⟩ := h6.cells6
                          have el := h6.lt
                          have h7 : Has wc (coreBlk q (.slice A l.length c) k * (blk X0 #[(Value.int .i64) 0, (Value.int .i64) 0, (Value.int .i64) 0] 49 * (blk EB #[Value.bool true, Value.bool true, (Value.int .i64) rg, Value.bool us, Value.bool di, (Value.int .i64) fr] 58 * (rrow (.slice A l.length c) l * (memAt m s * (blk X #[(Value.int .i64) 0, (Value.int .i64) 0, (Value.int .i64) 0, (Value.int .i64) 0, Value.bool false] 99 * R)))))) := h6.eq (by unfold coreIn; ac_rfl)
                          unfold coreBlk at h7
                          have n3 := h7.ne
                          have n4 := n3.symm
                          have f7 := h7.free 7
                          have f8 := h7.free 8
                          have h8 : Has ((wc.setCell ⟨q, 7, none⟩ (Value.bool true)).setCell ⟨q, 8, none⟩ ((Value.int .u64) v)) (coreBlk q (.slice A l.length c) { k with mark := true, w := v } * (blk X0 #[(Value.int .i64) 0, (Value.int .i64) 0, (Value.int .i64) 0] 49 * (blk EB #[Value.bool true, Value.bool true, (Value.int .i64) rg, Value.bool us, Value.bool di, (Value.int .i64) fr] 58 * (rrow (.slice A l.length c) l * (memAt m s * (blk X #[(Value.int .i64) 0, (Value.int .i64) 0, (Value.int .i64) 0, (Value.int .i64) 0, Value.bool false] 99 * R)))))) := (h7.set 7 _).set 8 _
                          obtain ⟨r0, r1, r2⟩ := h7.right.cells3
                          obtain ⟨g0, g1, g2⟩ := h7.right.frees3
                          have rl := h7.right.lt
                          clear h6 h7
                          go_wp2_with fail
                          refine ret_via (fun wz => Has wz (blk X0 #[(Value.int .i64) 0, (Value.int .i64) 0, (Value.int .i64) 0] 49 * (coreBlk q (.slice A l.length c) { k with mark := true, w := v } * (blk EB #[Value.bool true, Value.bool true, (Value.int .i64) rg, Value.bool us, Value.bool di, (Value.int .i64) fr] 58 * (rrow (.slice A l.length c) l * (memAt m s * (blk X #[(Value.int .i64) 0, (Value.int .i64) 0, (Value.int .i64) 0, (Value.int .i64) 0, Value.bool false] 99 * R)))))) ∧ Ext W wz) ⟨h8.p2.set3 _ _ _, by (repeat (first | with_reducible assumption | with_reducible exact Ext.refl _ | with_reducible refine Ext.set ?_ _ _ | with_reducible refine Ext.alloc ?_ _ | with_reducible refine Ext.drew ?_ | with_reducible refine Ext.drewN ?_ _ | assumption | exact Ext.refl _ | refine Ext.alloc ?_ _ | refine Ext.set ?_ _ _ | refine Ext.drew ?_ | refine Ext.drewN ?_ _ | refine Ext.below ?_ (by assumption) | refine Ext.trans ?_ (by assumption)))⟩ ?_
                          rintro wz ⟨hz, xz⟩
                          exact bodyPost_ret (results_ctt Try.results47 rfl rfl rfl (load_answer hz)) rfl ⟨by rw [hy.out]; rfl, by rw [hy.out]; exact coreAt_shut (A := A) (c := c) (by unfold coreIn; exact hz.right.p2.right), xz⟩
end Go.Proofs.Ytndhgomikpokpaa

namespace Go.Proofs.Ytndhgomikpokpaa
open Go.RowKit
set_option maxRecDepth 100000

theorem core_begin {w : World} {q c : Nat} {A : Option Addr} {l : List Ln} {k : Ck} {R : HProp} (h : Has w (coreIn q A c l k R)) (a : Ac) :
    Has ((((w.setCell ⟨q, 1, none⟩ (Value.bool true)).setCell ⟨q, 2, none⟩ ((Value.int .i64) a.page)).setCell ⟨q, 3, none⟩ ((Value.int .i64) a.kind)).setCell ⟨q, 4, none⟩ (Value.bool a.user)) (coreIn q A c l { k with on := true, a := a } R) := by
  unfold coreIn coreBlk at h ⊢
  exact (((h.set 1 (Value.bool true)).set 2 ((Value.int .i64) a.page)).set 3 ((Value.int .i64) a.kind)).set 4 (Value.bool a.user)
set_option maxHeartbeats 4000000 in
theorem beginR0 (q : Nat) (root : Int) (k : Ck) (a : Ac) (ha : checkAccess a = 0) (hp : i64 a.page) (hon : k.on = false) (R : HProp) (W : World) (h : Has W (coreAt q [] k * R)) :
    Calls Try.prog 46 #[.pointer (some ⟨q, 0, none⟩), (Value.int .i64) root, .agg #[(Value.int .i64) a.page, (Value.int .i64) a.kind, Value.bool a.user]] W (Res (.tuple #[.agg #[(Value.int .i64) 0, (Value.int .i64) 0, (Value.int .i64) 0], Value.bool false, (Value.int .i64) 0]) (coreAt q [] (k.begin root a) * R) W) := by
  have h1 : Has _ (coreAt q [] k * (blk (W.heap.size + 1) #[(Value.int .i64) 0, (Value.int .i64) 0, (Value.int .i64) 0] 49 * (blk W.heap.size #[(Value.int .i64) a.page, (Value.int .i64) a.kind, Value.bool a.user] 29 * R))) := ((h.new #[(Value.int .i64) a.page, (Value.int .i64) a.kind, Value.bool a.user] 29).new #[(Value.int .i64) 0, (Value.int .i64) 0, (Value.int .i64) 0] 49).eq (by simp only [World.size_alloc]; ac_rfl)
  have x1 := ((Ext.refl W).alloc (.cells #[(Value.int .i64) a.page, (Value.int .i64) a.kind, Value.bool a.user] 29)).alloc (.cells #[(Value.int .i64) 0, (Value.int .i64) 0, (Value.int .i64) 0] 49)
  have HC := Lib.hid (fun X => accessFault_any a.page a.kind a.user X)
  rw [show checkAccess ⟨a.page, a.kind, a.user⟩ = 0 from ha] at HC
  have HKP := Lib.hid (fun R X h => keptRA q [] k a.page R X Tl.Ok.nil hp h)
  rw [show Tl.idx [] a.page = -1 from rfl] at HKP
  have HAG := Lib.hid (fun R X h => againR q root [] { k with on := true, a := a } R X h)
  have hag : ({ k with on := true, a := a } : Ck).again root = k.begin root a := by unfold Ck.again Ck.begin; rw [if_pos rfl]
  rw [hag] at HAG
  clear h ha hp hag
  go_enter Try.func46, Try.ntmps46
  go_upto_region 1 with fail
  generalize (W.alloc (.cells #[(Value.int .i64) a.page, (Value.int .i64) a.kind, Value.bool a.user] 29)).alloc (.cells #[(Value.int .i64) 0, (Value.int .i64) 0, (Value.int .i64) 0] 49) = W1 at *
  generalize W.heap.size + 1 = X1 at *
  generalize W.heap.size = X0 at *
  obtain ⟨a0, a1, a2⟩ := h1.right.right.cells3
  have al := h1.right.right.lt
  go_wp2_with fail
  refine (HC.out _).mono ?_; rintro e w2 ⟨rfl, b2⟩
  have h2 := h1.below b2
  have x2 := x1.below b2
  clear h1 x1 a0 a1 a2 al b2 HC
  obtain ⟨a0, a1, a2⟩ := h2.right.right.cells3
  have al := h2.right.right.lt
  obtain ⟨A, c, h3⟩ := coreAt_open h2
  obtain ⟨q1, q2, q3, q4, q5, q6, q7, q8, ql⟩ := core_cells h3
  rw [hon] at q1
  go_wp2_with fail
  refine (HKP.out _ _ h2).mono ?_; rintro e w4 ⟨rfl, b4⟩
  have h5 := h3.below b4
  have x5 := x2.below b4
  clear h2 h3 x2 a0 a1 a2 al b4 HKP q1 q2 q3 q4 q5 q6 q7 q8 ql
  go_upto_region 11 with fail
  go_cut [] from 58 to 64 (fun wx => Has wx (coreIn q A c [] { k with on := true, a := a } (blk X1 #[(Value.int .i64) 0, (Value.int .i64) 0, (Value.int .i64) 0] 49 * (blk X0 #[(Value.int .i64) a.page, (Value.int .i64) a.kind, Value.bool a.user] 29 * R))) ∧ Ext W wx)
  case first =>
    have h6 : Has w4 (coreBlk q (.slice A ([] : List Ln).length c) k * (blk X0 #[(Value.int .i64) a.page, (Value.int .i64) a.kind, Value.bool a.user] 29 * (rrow (.slice A ([] : List Ln).length c) [] * (blk X1 #[(Value.int .i64) 0, (Value.int .i64) 0, (Value.int .i64) 0] 49 * R)))) := h5.eq (by unfold coreIn; ac_rfl)
    unfold coreBlk at h6
    have n1 := h6.ne
    have n2 := n1.symm
    obtain ⟨a0, a1, a2⟩ := h6.right.cells3
    have al := h6.right.lt
    have f1 := h6.free 1
    have f2 := h6.free 2
    have f3 := h6.free 3
    have f4 := h6.free 4
    obtain ⟨q1, q2, q3, q4, q5, q6, q7, q8, ql⟩ := core_cells h5
    go_region
    all_goals
      go_wp2_with fail
      go_meet
      case rel => first | exact ⟨(core_begin h5 a).drew, ((((x5.set _ _).set _ _).set _ _).set _ _).drew⟩ | exact ⟨core_begin h5.drew a, (((x5.drew.set _ _).set _ _).set _ _).set _ _⟩
  case rest =>
    clear h5 x5
    obtain ⟨h6, x6⟩ := hcut
    go_wp2_with fail
    refine (HAG.out _ _ (coreAt_shut h6)).mono ?_; rintro e w7 ⟨rfl, h7, x7⟩
    have hA := h7.p2
    have xA := x6.trans x7
    obtain ⟨r0, r1, r2⟩ := hA.cells3
    obtain ⟨g0, g1, g2⟩ := hA.frees3
    have rl := hA.lt
    clear h6 x6 h7 x7
    go_wp2_with fail
    refine ret_via (fun wz => Has wz (blk X1 #[(Value.int .i64) 0, (Value.int .i64) 0, (Value.int .i64) 0] 49 * (coreAt q [] (k.begin root a) * (blk X0 #[(Value.int .i64) a.page, (Value.int .i64) a.kind, Value.bool a.user] 29 * R))) ∧ Ext W wz) ⟨hA.set3 _ _ _, by (repeat (first | with_reducible assumption | with_reducible exact Ext.refl _ | with_reducible refine Ext.set ?_ _ _ | with_reducible refine Ext.alloc ?_ _ | with_reducible refine Ext.drew ?_ | with_reducible refine Ext.drewN ?_ _ | assumption | exact Ext.refl _ | refine Ext.alloc ?_ _ | refine Ext.set ?_ _ _ | refine Ext.drew ?_ | refine Ext.drewN ?_ _ | refine Ext.below ?_ (by assumption) | refine Ext.trans ?_ (by assumption)))⟩ ?_
    rintro wz ⟨hz, xz⟩
    exact bodyPost_ret (results_ctt Try.results46 rfl rfl rfl (load_answer hz)) rfl ⟨rfl, hz.right.p2.right, xz⟩
end Go.Proofs.Ytndhgomikpokpaa
