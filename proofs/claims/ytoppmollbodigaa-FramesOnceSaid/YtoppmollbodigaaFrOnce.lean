/- The law FramesOnce: the walk. -/
import Derived.Test.YtoppmollbodigaaFrOnceM
import Derived.Test.YtoppmollbodigaaRefIn
namespace Go.Proofs.Ytoppmollbodigaa
open Go.RowKit
set_option maxRecDepth 100000

theorem elemU : Elem Try.prog 57 ((Value.int .u64) 0) 1 8 := ⟨by kernel_rfl, rfl, by omega⟩
theorem fyes {l : List Int} {k : Int} {j : Nat} (hj : j < l.length) (h : (l[j] != k) = true) : (l.take (j + 1)).filter (· != k) = (l.take j).filter (· != k) ++ [l[j]] := by
  rw [List.take_succ_eq_append_getElem hj, List.filter_append]
  simp [h]
theorem fno {l : List Int} {k : Int} {j : Nat} (hj : j < l.length) (h : (l[j] != k) = false) : (l.take (j + 1)).filter (· != k) = (l.take j).filter (· != k) := by
  rw [List.take_succ_eq_append_getElem hj, List.filter_append]
  simp [h]

set_option maxHeartbeats 8000000 in
theorem framesOnce_walk (N : Int) (A : Option Addr) (n c : Nat) (l : List Fst) (w : World) (_ : i64 N) (h : Arr w A n 5 (l.map Fst.cells)) (hok : ∀ x ∈ l, x.ok) :
    Calls Try.prog 8 #[(Value.int .i64) N, .slice A n c] w (Pure (Value.bool true) w) := by
  have hm := h.2.1
  have hn : l.length = n := by simpa using h.1
  have hN := Lib.hid hn
  have hA := Lib.hid h
  clear h hn
  by_cases hbig : 300 < n
  · go_enter Try.func8, Try.ntmps8
    go_wp2_with fail
    refine (framesBegun_any _).mono ?_; rintro e w1 ⟨rfl, hb⟩
    go_wp2_with fail
    go_ret
    exact ⟨rfl, hb⟩
  have h0 := has_old w
  go_enter Try.func8, Try.ntmps8
  go_wp2_with fail
  refine (framesBegun_any _).mono ?_; rintro e w1 ⟨rfl, hb⟩
  have h1 := h0.below hb
  have x1 := (Ext.refl w).below hb
  clear h0 hb
  by_cases hin : 0 ≤ N ∧ N ≤ 128
  · obtain ⟨hin0, hin1⟩ := hin
    go_wp2_with fail
    refine (newF _ _ N h1 hin0 hin1).mono ?_; rintro e w2 ⟨p, rfl, h2, x2⟩
    have h3 := (h2.alloc (.cells #[(Value.int .i64) 0, (Value.int .i64) 0] 52)).rowNil (e := 3) (size := 1)
    have x3 := (x1.trans x2).alloc (.cells #[(Value.int .i64) 0, (Value.int .i64) 0] 52)
    have ok5 := Ms.Ok.new (n := N.toNat) (by omega)
    have in5 := Ms.InOk.new N.toNat
    have n5 : (Ms.new N.toNat).n = N.toNat := rfl
    generalize Ms.new N.toNat = s5 at *
    clear h1 h2 x1 x2
    go_wp2_with fail
    go_loopw [7, 8] (fun v t wr => ∃ (i : Nat) (s : Ms) (L : List Int), i ≤ n ∧ t = (Value.int .i64) i ∧ s.Ok ∧ s.n = N.toNat ∧ s.InOk L ∧ Has wr (row 3 1 v L.length (L.map (Value.int .i64)) * (framesAt p s * old w w.heap.size)) ∧ Ext w wr)
      (fun _ t _ => n - (intOf t).toNat)
    case atStart => exact ⟨0, s5, [], by omega, rfl, ok5, n5, in5, h3, x3⟩
    case round =>
      clear h3 x3 ok5 n5 in5 s5
      obtain ⟨i, s, L, hi, rfl, hs, hsn, hL, hr, hx⟩ := hrel
      obtain ⟨A', c', rfl⟩ := hr.rowForm
      have hl128 : L.length ≤ 128 := by have := hL.len; have := hs.small; omega
      by_cases hlt : i < n
      · have hil : i < l.length := by have := hN.out; omega
        obtain ⟨b, off, hb, hbl, hc⟩ := (hA.out.old1 hr.right.right hx).at_ (i := i) (xs := (l[i]).cells) (by simp [hil])
        have ho := hok _ (List.getElem_mem hil)
        generalize l[i] = x at hc ho
        obtain ⟨op, K, J, od, W⟩ := x
        obtain ⟨_, _, _, hod, hW⟩ := ho
        have d0 : wr.cell? ⟨b, off + i * 5, none⟩ = some ((Value.int .i64) op) := hc 0 _ rfl
        have d1 : wr.cell? ⟨b, off + i * 5 + 1, none⟩ = some ((Value.int .i64) K) := hc 1 _ rfl
        have d2 : wr.cell? ⟨b, off + i * 5 + 2, none⟩ = some ((Value.int .i64) J) := hc 2 _ rfl
        have d3 : wr.cell? ⟨b, off + i * 5 + 3, none⟩ = some ((Value.int .u64) od) := hc 3 _ rfl
        have d4 : wr.cell? ⟨b, off + i * 5 + 4, none⟩ = some ((Value.int .u64) W) := hc 4 _ rfl
        clear hc
        subst hb
        have hs4 := hr.new #[(Value.int .i64) op, (Value.int .i64) K, (Value.int .i64) J, (Value.int .u64) od, (Value.int .u64) W] 59
        have x2 := hx.alloc (.cells #[(Value.int .i64) op, (Value.int .i64) K, (Value.int .i64) J, (Value.int .u64) od, (Value.int .u64) W] 59)
        go_upto_region 13 with fail
        generalize wr.alloc (.cells #[(Value.int .i64) op, (Value.int .i64) K, (Value.int .i64) J, (Value.int .u64) od, (Value.int .u64) W] 59) = w4 at *
        generalize wr.heap.size = X at *
        clear d0 d1 d2 d3 d4 hr hx hbl
        have hw : Has w4 (row 3 1 (.slice A' L.length c') L.length (L.map (Value.int .i64)) * (framesAt p s * (blk X #[(Value.int .i64) op, (Value.int .i64) K, (Value.int .i64) J, (Value.int .u64) od, (Value.int .u64) W] 59 * old w w.heap.size))) := hs4.eq (by ac_rfl)
        obtain ⟨c0, c1, c2, c3, c4⟩ := hs4.cells5
        have cl := hs4.lt
        clear hs4
        go_upto_block 2 with fail
        go_cut [7] (fun v wx => ∃ (s' : Ms) (L' : List Int), s'.Ok ∧ s'.n = N.toNat ∧ s'.InOk L' ∧ Has wx (row 3 1 v L'.length (L'.map (Value.int .i64)) * (framesAt p s' * (blk X #[(Value.int .i64) op, (Value.int .i64) K, (Value.int .i64) J, (Value.int .u64) od, (Value.int .u64) W] 59 * old w w.heap.size))) ∧ Ext w wx)
        case first =>
          by_cases o0 : op = 0
          · as_aux_lemma =>
              subst o0
              go_wp2_with fail
              refine (takeF p s _ _ hw.p2 hs).mono ?_; rintro e w5 ⟨rfl, h5, x5⟩
              have x6 := x2.trans x5
              clear hw x2 x5 c0 c1 c2 c3 c4
              cases ht : s.top with
              | none =>
                have hb : ((L.length : Int) != N) = false := by have := hL.full ht; simp; omega
                rw [show s.topV = -1 by unfold Ms.topV; rw [ht]]
                rw [show s.takeS = s by unfold Ms.takeS; rw [ht]] at h5
                clear ht
                have h5 := h5.p2
                go_wp2_with fail
                go_roundw
                case rel => exact ⟨i + 1, s, L, by omega, by go_num, hs, hsn, hL, h5.drop3, by (repeat (first | assumption | exact Ext.refl _ | refine Ext.alloc ?_ _ | refine Ext.set ?_ _ _ | refine Ext.drew ?_ | refine Ext.drewN ?_ _ | refine Ext.below ?_ (by assumption) | refine Ext.trans ?_ (by assumption)))⟩
                case measure => simp [intOf]; omega
              | some k =>
                rw [show s.topV = (k : Int) by unfold Ms.topV; rw [ht]]
                have hs' := hs.takeS
                rw [show s.takeS = s.take k by unfold Ms.takeS; rw [ht]] at h5 hs'
                obtain ⟨hk, _⟩ := Ms.top_lt hs.inv ht
                obtain ⟨hf, hL'⟩ := hL.take hs.inv ht
                have h5 := h5.p2
                have HI : Calls Try.prog 18 #[.slice A' L.length c', .int .i64 k] w5 (Same (Value.bool false) w5) := by
                  have := in_any A' L.length c' L k _ h5.rd.1
                  rw [show inB L k = false by
                    unfold inB
                    rw [List.any_eq_false]
                    intro x hx
                    simp only [beq_iff_eq]
                    rintro rfl
                    rw [(hL.mem _).1 hx] at hf
                    cases hf] at this
                  exact this
                have HL : ∀ (j : Nat), j < 8 → Calls Try.prog 37 #[.pointer (some ⟨p, 0, none⟩), .int .i64 k, .int .i64 j] w5 (Same (.tuple #[(Value.int .u64) 0, Value.bool true]) w5) := fun j hj => by
                  have := loadF p (s.take k) k j _ _ h5.p2
                  rw [load_take, hasW_take hk hj] at this
                  exact this
                have HI := Lib.hid HI
                have HL := Lib.hid HL
                have hkN : (k : Int) < N := by omega
                clear hf ht hk
                go_wp2_with fail
                refine (HI.out).mono ?_; rintro e w' ⟨rfl, rfl⟩
                go_wp2_with fail
                go_loopw [11] (fun t wz => ∃ j : Nat, j ≤ 8 ∧ t = (Value.int .i64) j ∧ w5 = wz) (fun t _ => 8 - (intOf t).toNat)
                case atStart => exact ⟨0, by omega, rfl, rfl⟩
                case round =>
                  obtain ⟨j, hj, rfl, rfl⟩ := hrel
                  by_cases hj8 : j < 8
                  · go_wp2_with fail
                    refine (HL.out j hj8).mono ?_; rintro e w' ⟨rfl, rfl⟩
                    go_wp2_with fail
                    go_roundw
                    case rel => exact ⟨j + 1, by omega, by go_num, trivial⟩
                    case measure => simp [intOf]; omega
                  · obtain rfl : j = 8 := by omega
                    go_wp2_with (at_builtin; refine wpList_append_has rfl _ _ 26 rfl Try.underlying26 elemI _ _ _ rfl (h5.alloc _) ⟨w5.heap.size, 0, none⟩ 1 1 [(Value.int .i64) k] rfl rfl (news_one _ _ _) ?c1 ?c2 ?c3 ?_)
                    case c1 => intro u hu; simp at hu; subst hu; rfl
                    case c2 => unfold maxLen; omega
                    case c3 => omega
                    intro v' w' h' x'
                    go_wp2
                    go_meet
                    case rel => exact ⟨s.take k, L ++ [(k : Int)], hs', hsn, hL', by simpa using h', by (repeat (first | assumption | exact Ext.refl _ | refine Ext.alloc ?_ _ | refine Ext.set ?_ _ _ | refine Ext.drew ?_ | refine Ext.drewN ?_ _ | refine Ext.below ?_ (by assumption) | refine Ext.trans ?_ (by assumption)))⟩
          by_cases o1 : op = 1
          · as_aux_lemma =>
              subst o1
              have h3n := hw.rowNil (e := 3) (size := 1)
              have x3 := x2
              go_wp2_with fail
              clear c0 c1 c2 c3 c4
              go_loopw [14, 15] (fun v t wz => ∃ j : Nat, j ≤ L.length ∧ t = (Value.int .i64) j ∧
                  Has wz (row 3 1 v ((L.take j).filter (· != K)).length (((L.take j).filter (· != K)).map (Value.int .i64)) * (row 3 1 (.slice A' L.length c') L.length (L.map (Value.int .i64)) * (framesAt p s * (blk X #[(Value.int .i64) 1, (Value.int .i64) K, (Value.int .i64) J, (Value.int .u64) od, (Value.int .u64) W] 59 * old w w.heap.size)))) ∧ Ext w wz)
                (fun _ t _ => L.length - (intOf t).toNat)
              case atStart => exact ⟨0, by omega, rfl, h3n, x3⟩
              case round =>
                clear hw x2 h3n x3 cl
                obtain ⟨j, hj, rfl, hz, hxz⟩ := hrel
                obtain ⟨g0, g1, g2, g3, g4⟩ := hz.right.right.right.cells5
                have gl := hz.right.right.right.lt
                obtain ⟨A2, c2, rfl⟩ := hz.rowForm
                by_cases hjk : j < L.length
                · obtain ⟨b2, off2, hA2, hb2, hc2⟩ := (hz.right.rd.1).at_ (j := j) (u := (Value.int .i64) L[j]) (by simp [hjk])
                  subst hA2
                  have hfl : ((L.take j).filter (· != K)).length ≤ 128 := Nat.le_trans (List.length_filter_le _ _) (by simp; omega)
                  cases hq : (L[j] != K) with
                  | true =>
                    have hF := Lib.hid (fyes hjk hq)
                    generalize (L.take j).filter (· != K) = F at *
                    go_wp2_with fail
                    go_quiet (fail)
                    go_wp2_with (at_builtin; refine wpList_append_has rfl _ _ 26 rfl Try.underlying26 elemI _ _ _ rfl ((hz.drewN _).alloc _) ⟨wr.heap.size, 0, none⟩ 1 1 [(Value.int .i64) L[j]] rfl rfl (news_one _ _ _) ?c1 ?c2 ?c3 ?_)
                    case c1 => intro u hu; simp at hu; subst hu; rfl
                    case c2 => unfold maxLen; omega
                    case c3 => omega
                    intro v' w' h' x'
                    go_wp2
                    go_roundw
                    case rel => exact ⟨j + 1, by omega, by go_num, by rw [hF.out]; simpa using h', by (repeat (first | assumption | exact Ext.refl _ | refine Ext.alloc ?_ _ | refine Ext.set ?_ _ _ | refine Ext.drew ?_ | refine Ext.drewN ?_ _ | refine Ext.below ?_ (by assumption) | refine Ext.trans ?_ (by assumption)))⟩
                    case measure => simp [intOf]; omega
                  | false =>
                    have hF := Lib.hid (fno hjk hq)
                    generalize (L.take j).filter (· != K) = F at *
                    go_wp2_with fail
                    go_quiet (fail)
                    go_wp2
                    go_roundw
                    case rel => exact ⟨j + 1, by omega, by go_num, by rw [hF.out]; exact hz.drewN _, by (repeat (first | assumption | exact Ext.refl _ | refine Ext.alloc ?_ _ | refine Ext.set ?_ _ _ | refine Ext.drew ?_ | refine Ext.drewN ?_ _ | refine Ext.below ?_ (by assumption) | refine Ext.trans ?_ (by assumption)))⟩
                    case measure => simp [intOf]; omega
                · obtain rfl : j = L.length := by omega
                  rw [List.take_length] at hz
                  obtain ⟨hL', hd⟩ := hL.give (K := K)
                  have hfl : (L.filter (· != K)).length ≤ 128 := Nat.le_trans (List.length_filter_le _ _) (by omega)
                  rw [List.take_length]
                  generalize L.filter (· != K) = F at *
                  have h4 := hz.p2.right.p2
                  clear hz
                  cases hk : s.has K with
                  | true =>
                    rw [hk] at hd
                    have hd' : (F.length : Int) < L.length := by simp at hd; omega
                    clear hd
                    go_wp2_with fail
                    refine (giveF p s _ _ _ h4 hs).mono ?_; rintro e w5 ⟨rfl, h5, x5⟩
                    rw [hk]
                    go_wp2_with fail
                    go_meet
                    case rel => exact ⟨s.giveS K, F, hs.giveS K, by rw [Ms.giveS_n]; exact hsn, hL', h5.p2, by (repeat (first | assumption | exact Ext.refl _ | refine Ext.alloc ?_ _ | refine Ext.set ?_ _ _ | refine Ext.drew ?_ | refine Ext.drewN ?_ _ | refine Ext.below ?_ (by assumption) | refine Ext.trans ?_ (by assumption)))⟩
                  | false =>
                    rw [hk] at hd
                    have hd' : ¬ (F.length : Int) < L.length := by simp at hd; omega
                    clear hd
                    go_wp2_with fail
                    refine (giveF p s _ _ _ h4 hs).mono ?_; rintro e w5 ⟨rfl, h5, x5⟩
                    rw [hk]
                    go_wp2_with fail
                    go_meet
                    case rel => exact ⟨s.giveS K, F, hs.giveS K, by rw [Ms.giveS_n]; exact hsn, hL', h5.p2, by (repeat (first | assumption | exact Ext.refl _ | refine Ext.alloc ?_ _ | refine Ext.set ?_ _ _ | refine Ext.drew ?_ | refine Ext.drewN ?_ _ | refine Ext.below ?_ (by assumption) | refine Ext.trans ?_ (by assumption)))⟩
          by_cases o3 : op = 3
          · as_aux_lemma =>
              subst o3
              have h3n := hw.rowNil (e := 57) (size := 1)
              have x3 := x2
              go_wp2_with fail
              clear c0 c1 c2 c3 c4
              go_loopw [16, 17] (fun v t wz => ∃ j : Nat, j ≤ L.length ∧ t = (Value.int .i64) j ∧
                  Has wz (row 57 1 v (j * 8) ((wl s L (j * 8)).map (Value.int .u64)) * (row 3 1 (.slice A' L.length c') L.length (L.map (Value.int .i64)) * (framesAt p s * (blk X #[(Value.int .i64) 3, (Value.int .i64) K, (Value.int .i64) J, (Value.int .u64) od, (Value.int .u64) W] 59 * old w w.heap.size)))) ∧ Ext w wz)
                (fun _ t _ => L.length - (intOf t).toNat)
              case atStart => exact ⟨0, by omega, rfl, h3n, x3⟩
              case round =>
                clear hw x2 h3n x3 cl
                obtain ⟨j, hj, rfl, hz, hxz⟩ := hrel
                by_cases hjk : j < L.length
                · go_wp2_with fail
                  go_loopw [16, 18] (fun v t wz => ∃ k : Nat, k ≤ 8 ∧ t = (Value.int .i64) k ∧
                      Has wz (row 57 1 v (j * 8 + k) ((wl s L (j * 8 + k)).map (Value.int .u64)) * (row 3 1 (.slice A' L.length c') L.length (L.map (Value.int .i64)) * (framesAt p s * (blk X #[(Value.int .i64) 3, (Value.int .i64) K, (Value.int .i64) J, (Value.int .u64) od, (Value.int .u64) W] 59 * old w w.heap.size)))) ∧ Ext w wz)
                    (fun _ t _ => 8 - (intOf t).toNat)
                  case atStart => exact ⟨0, by omega, rfl, hz, hxz⟩
                  case round =>
                    clear hz hxz
                    obtain ⟨k, hk, rfl, hz, hxz⟩ := hrel
                    by_cases hk8 : k < 8
                    · obtain ⟨b2, off2, hA2, hb2, hc2⟩ := (hz.right.rd.1).at_ (j := j) (u := (Value.int .i64) L[j]) (by simp [hjk])
                      subst hA2
                      have hF := Lib.hid (wl_succ s L hjk hk8)
                      obtain ⟨A2, c2, rfl⟩ := hz.rowForm
                      generalize wl s L (j * 8 + k) = F at *
                      go_wp2_with (first | (go_at_call 37; refine (loadF p s L[j] k _ _ hz.right.p2).mono ?_; rintro e w' ⟨rfl, rfl⟩) | (at_builtin; refine wpList_append_has rfl _ _ 71 rfl Try.underlying71 elemU _ _ _ rfl (hz.alloc _) ⟨wr.heap.size, 0, none⟩ 1 1 [(Value.int .u64) (loadV s L[j] k)] rfl rfl (news_one _ _ _) ?c1 ?c2 ?c3 ?_))
                      case c1 => intro u hu; simp at hu; subst hu; rfl
                      case c2 => unfold maxLen; omega
                      case c3 => omega
                      intro v' w' h' x'
                      go_wp2
                      go_roundw
                      case rel => exact ⟨k + 1, by omega, by go_num, by rw [← Nat.add_assoc, hF.out]; simpa using h', by (repeat (first | assumption | exact Ext.refl _ | refine Ext.alloc ?_ _ | refine Ext.set ?_ _ _ | refine Ext.drew ?_ | refine Ext.drewN ?_ _ | refine Ext.below ?_ (by assumption) | refine Ext.trans ?_ (by assumption)))⟩
                      case measure => simp [intOf]; omega
                    · obtain rfl : k = 8 := by omega
                      rw [show j * 8 + 8 = (j + 1) * 8 by omega] at hz
                      go_wp2_with fail
                      go_roundw
                      case rel => exact ⟨j + 1, by omega, by go_num, hz, hxz⟩
                      case measure => simp [intOf]; omega
                · obtain rfl : j = L.length := by omega
                  obtain ⟨B, cB, rfl⟩ := hz.rowForm
                  obtain ⟨g0, g1, g2, g3, g4⟩ := hz.right.right.right.cells5
                  have gl := hz.right.right.right.lt
                  have hz2 : Has wr (framesAt p s * (row 57 1 (.slice B (L.length * 8) cB) (L.length * 8) ((wl s L (L.length * 8)).map (Value.int .u64)) * (row 3 1 (.slice A' L.length c') L.length (L.map (Value.int .i64)) * (blk X #[(Value.int .i64) 3, (Value.int .i64) K, (Value.int .i64) J, (Value.int .u64) od, (Value.int .u64) W] 59 * old w w.heap.size)))) := hz.eq (by ac_rfl)
                  go_wp2_with fail
                  refine (storeF p s _ _ _ _ _ hz2).mono ?_; rintro e w5 ⟨rfl, h5, x5⟩
                  have x6 := hxz.trans x5
                  clear hz hz2 hxz x5 g0 g1 g2 g3 g4 gl
                  go_wp2_with fail
                  go_loopw [21] (fun t wz => ∃ j : Nat, j ≤ L.length ∧ t = (Value.int .i64) j ∧
                      Has wz (framesAt p (storeS s K J W) * (row 57 1 (.slice B (L.length * 8) cB) (L.length * 8) ((wl s L (L.length * 8)).map (Value.int .u64)) * (row 3 1 (.slice A' L.length c') L.length (L.map (Value.int .i64)) * (blk X #[(Value.int .i64) 3, (Value.int .i64) K, (Value.int .i64) J, (Value.int .u64) od, (Value.int .u64) W] 59 * old w w.heap.size)))) ∧ Ext w wz)
                    (fun t _ => L.length - (intOf t).toNat)
                  case atStart => exact ⟨0, by omega, rfl, h5, x6⟩
                  case round =>
                    clear h5 x6
                    obtain ⟨j, hj, rfl, hz, hxz⟩ := hrel
                    by_cases hjk : j < L.length
                    · go_wp2_with fail
                      go_loopw [22] (fun t wz => ∃ k : Nat, k ≤ 8 ∧ t = (Value.int .i64) k ∧
                          Has wz (framesAt p (storeS s K J W) * (row 57 1 (.slice B (L.length * 8) cB) (L.length * 8) ((wl s L (L.length * 8)).map (Value.int .u64)) * (row 3 1 (.slice A' L.length c') L.length (L.map (Value.int .i64)) * (blk X #[(Value.int .i64) 3, (Value.int .i64) K, (Value.int .i64) J, (Value.int .u64) od, (Value.int .u64) W] 59 * old w w.heap.size)))) ∧ Ext w wz)
                        (fun t _ => 8 - (intOf t).toNat)
                      case atStart => exact ⟨0, by omega, rfl, hz, hxz⟩
                      case round =>
                        clear hz hxz
                        obtain ⟨k, hk, rfl, hz, hxz⟩ := hrel
                        by_cases hk8 : k < 8
                        · obtain ⟨b2, off2, hA2, hb2, hc2⟩ := (hz.right.right.rd.1).at_ (j := j) (u := (Value.int .i64) L[j]) (by simp [hjk])
                          subst hA2
                          obtain ⟨b3, off3, hB2, hb3, hc3⟩ := (hz.right.rd.1).at_ (j := j * 8 + k) (u := (Value.int .u64) (loadV s L[j] k)) (by rw [List.getElem?_map, wl_get s L hjk hk8 (by omega)]; rfl)
                          subst hB2
                          obtain ⟨g0, g1, g2, g3, g4⟩ := hz.right.right.right.cells5
                          have gl := hz.right.right.right.lt
                          have hLs := Lib.hid (load_store (K := K) (I := J) (W := W) (hL.hasW (List.getElem_mem hjk) hk8))
                          have hj127 : j < 128 := by omega
                          by_cases e1 : L[j] = K
                          · by_cases e2 : (k : Int) = J
                            · have HL := Lib.hid (show loadV (storeS s K J W) L[j] k = W by rw [hLs.out, if_pos ⟨e1, e2⟩])
                              have q1 : (L[j] != K) = false := by simpa using e1
                              have q2 : (L[j] == K) = true := by simpa using e1
                              have q3 : ((k : Int) != J) = false := by simpa using e2
                              have q4 : ((k : Int) == J) = true := by simpa using e2
                              clear e1 e2
                              generalize L[j] = y at *
                              go_wp2_with fail
                              refine (loadF p _ y k _ _ hz).mono ?_; rintro e w' ⟨rfl, rfl⟩
                              rw [HL.out]
                              have v1 := via_cell g1
                              have v2 := via_cell g2
                              have v4 := via_cell g4
                              have vj := via_cell hc2
                              have vw := via_cell hc3
                              go_wp2_with fail
                              refine wp_region_via (by kernel_rfl) (by kernel_rfl) ?_
                              repeat (first | go_big_quiet_step (fail) | quiet_step (fail))
                              refine wpQuiet_nil ?_
                              intro _ hw'
                              obtain ⟨uq, hw''⟩ := hw'
                              subst hw''
                              go_wp2
                              go_roundw
                              case rel => exact ⟨k + 1, by omega, by go_num, hz.via _, hxz.below (via_below _ _)⟩
                              case measure => simp [intOf]; omega
                            · have HL := Lib.hid (show loadV (storeS s K J W) L[j] k = loadV s L[j] k by rw [hLs.out, if_neg (fun h => e2 h.2)])
                              have q1 : (L[j] != K) = false := by simpa using e1
                              have q2 : (L[j] == K) = true := by simpa using e1
                              have q3 : ((k : Int) != J) = true := by simpa using e2
                              have q4 : ((k : Int) == J) = false := by simpa using e2
                              clear e1 e2
                              generalize L[j] = y at *
                              go_wp2_with fail
                              refine (loadF p _ y k _ _ hz).mono ?_; rintro e w' ⟨rfl, rfl⟩
                              rw [HL.out]
                              generalize loadV s y k = V at *
                              have v1 := via_cell g1
                              have v2 := via_cell g2
                              have v4 := via_cell g4
                              have vj := via_cell hc2
                              have vw := via_cell hc3
                              go_wp2_with fail
                              refine wp_region_via (by kernel_rfl) (by kernel_rfl) ?_
                              repeat (first | go_big_quiet_step (fail) | quiet_step (fail))
                              refine wpQuiet_nil ?_
                              intro _ hw'
                              obtain ⟨uq, hw''⟩ := hw'
                              subst hw''
                              go_wp2
                              go_roundw
                              case rel => exact ⟨k + 1, by omega, by go_num, hz.via _, hxz.below (via_below _ _)⟩
                              case measure => simp [intOf]; omega
                          · have HL := Lib.hid (show loadV (storeS s K J W) L[j] k = loadV s L[j] k by rw [hLs.out, if_neg (fun h => e1 h.1)])
                            have q1 : (L[j] != K) = true := by simpa using e1
                            have q2 : (L[j] == K) = false := by simpa using e1
                            clear e1
                            generalize L[j] = y at *
                            go_wp2_with fail
                            refine (loadF p _ y k _ _ hz).mono ?_; rintro e w' ⟨rfl, rfl⟩
                            rw [HL.out]
                            generalize loadV s y k = V at *
                            have v1 := via_cell g1
                            have v2 := via_cell g2
                            have v4 := via_cell g4
                            have vj := via_cell hc2
                            have vw := via_cell hc3
                            go_wp2_with fail
                            refine wp_region_via (by kernel_rfl) (by kernel_rfl) ?_
                            repeat (first | go_big_quiet_step (fail) | quiet_step (fail))
                            refine wpQuiet_nil ?_
                            intro _ hw'
                            obtain ⟨uq, hw''⟩ := hw'
                            subst hw''
                            go_wp2
                            go_roundw
                            case rel => exact ⟨k + 1, by omega, by go_num, hz.via _, hxz.below (via_below _ _)⟩
                            case measure => simp [intOf]; omega
                        · obtain rfl : k = 8 := by omega
                          go_wp2_with fail
                          go_roundw
                          case rel => exact ⟨j + 1, by omega, by go_num, hz, hxz⟩
                          case measure => simp [intOf]; omega
                    · go_wp2_with fail
                      go_meet
                      case rel => exact ⟨storeS s K J W, L, hs.storeS K J hW, by rw [storeS_n]; exact hsn, hL.store K J W, (hz.p2.right).p2.eq (by ac_rfl), hxz⟩
          go_wp2_with fail
          go_meet
          case rel => exact ⟨s, L, hs, hsn, hL, hw, x2⟩
        case rest => as_aux_lemma =>
          obtain ⟨s', L', hs', hsn', hL', hw', x2'⟩ := hcut
          clear hw hs x2 c0 c1 c2 c3 c4
          obtain ⟨A2, c2, rfl⟩ := hw'.rowForm
          have hlen := hL'.len
          have hb : (((s'.frees.length : Nat) : Int) != N - L'.length) = false := by simp; omega
          have hl128 : L'.length ≤ 128 := by have := hs'.small; omega
          go_wp2_with (go_at_call 40; refine (freeF p s' _ _ hw'.p2).mono ?_; rintro e w5 ⟨rfl, rfl⟩)
          go_roundw
          case rel => exact ⟨i + 1, s', L', by omega, by go_num, hs', hsn', hL', hw'.drop3, x2'⟩
          case measure => simp [intOf]; omega
      · go_wp2_with fail
        go_ret
        exact ⟨rfl, below_of1 hr.right.right hx⟩
  · have hd : ¬ (0 ≤ N ∧ N ≤ 128) := hin
    go_wp2_with fail
    refine (new_no N _ hd).mono ?_; rintro e w2 ⟨rfl, b2⟩
    have x2 := (x1.below b2).alloc (.cells #[(Value.int .i64) 1, (Value.int .i64) (-1)] 52)
    have h2 := (h1.below b2).alloc (.cells #[(Value.int .i64) 1, (Value.int .i64) (-1)] 52)
    go_wp2_with fail
    go_ret
    exact ⟨rfl, below_of1 h2 x2⟩
end Go.Proofs.Ytoppmollbodigaa
