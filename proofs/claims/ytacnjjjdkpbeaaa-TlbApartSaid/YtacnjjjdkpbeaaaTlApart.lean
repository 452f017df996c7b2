/- The law TlbApart: the walk. -/
import Derived.Test.YtacnjjjdkpbeaaaTlStep
namespace Go.Proofs.Ytacnjjjdkpbeaaa
open Go.RowKit
set_option maxRecDepth 100000

set_option maxHeartbeats 4000000 in
theorem tlbApart_walk (A : Option Addr) (n c : Nat) (l : List Lst) (w : World) (h : Arr w A n 6 (l.map Lst.cells)) (hok : ∀ x ∈ l, x.ok) :
    Calls Try.prog 4 #[.slice A n c] w (Pure (Value.bool true) w) := by
  have hm := h.2.1
  have hn : l.length = n := by simpa using h.1
  have hN := Lib.hid hn
  have hA := Lib.hid h
  clear h hn
  by_cases hbig : 300 < n
  · go_enter Try.func4, Try.ntmps4
    go_wp2_with fail
    refine (tlbBegun_any _).mono ?_; rintro e w1 ⟨rfl, hb⟩
    go_wp2_with fail
    go_ret
    exact ⟨rfl, hb⟩
  have h0 := has_old w
  go_enter Try.func4, Try.ntmps4
  go_wp2_with fail
  refine (tlbBegun_any _).mono ?_; rintro e w1 ⟨rfl, hb⟩
  have h1 := h0.below hb
  have x1 := (Ext.refl w).below hb
  clear h0 hb
  go_wp2_with fail
  refine (newT _ _ h1).mono ?_; rintro e w2 ⟨p, rfl, h2, x2⟩
  have x2 := x1.trans x2
  clear h1 x1
  go_wp2_with fail
  go_loopw [4] (fun t wr => ∃ (i : Nat) (k : List Ln), i ≤ n ∧ t = (Value.int .i64) i ∧ Tl.Ok k ∧ Has wr (tlbAt p k * old w w.heap.size) ∧ Ext w wr)
    (fun t _ => n - (intOf t).toNat)
  case atStart => exact ⟨0, [], by omega, rfl, Tl.Ok.nil, h2, x2⟩
  case round =>
    clear h2 x2
    obtain ⟨i, k, hi, rfl, hk, hr, hx⟩ := hrel
    by_cases hlt : i < n
    · have hil : i < l.length := by have := hN.out; omega
      obtain ⟨b, off, hb, hbl, hc⟩ := (hA.out.old1 hr.right hx).at_ (i := i) (xs := (l[i]).cells) (by simp [hil])
      have ho := hok _ (List.getElem_mem hil)
      generalize l[i] = x at hc ho
      obtain ⟨hop, hK, hM⟩ := ho
      have d0 : wr.cell? ⟨b, off + i * 6, none⟩ = some ((Value.int .i64) x.op) := hc 0 _ rfl
      have d1 : wr.cell? ⟨b, off + i * 6 + 1, none⟩ = some ((Value.int .i64) x.k) := hc 1 _ rfl
      have d2 : wr.cell? ⟨b, off + i * 6 + 2, none⟩ = some ((Value.int .i64) x.m.page) := hc 2 _ rfl
      have d3 : wr.cell? ⟨b, off + i * 6 + 3, none⟩ = some ((Value.int .i64) x.m.size) := hc 3 _ rfl
      have d4 : wr.cell? ⟨b, off + i * 6 + 4, none⟩ = some ((Value.int .i64) x.m.frame) := hc 4 _ rfl
      have d5 : wr.cell? ⟨b, off + i * 6 + 5, none⟩ = some ((Value.int .i64) x.m.rights) := hc 5 _ rfl
      clear hc
      subst hb
      have hs4 := hr.new #[(Value.int .i64) x.op, (Value.int .i64) x.k, (Value.int .i64) x.m.page, (Value.int .i64) x.m.size, (Value.int .i64) x.m.frame, (Value.int .i64) x.m.rights] 36
      have x2 := hx.alloc (.cells #[(Value.int .i64) x.op, (Value.int .i64) x.k, (Value.int .i64) x.m.page, (Value.int .i64) x.m.size, (Value.int .i64) x.m.frame, (Value.int .i64) x.m.rights] 36)
      go_upto_block 2 with fail
      generalize wr.alloc (.cells #[(Value.int .i64) x.op, (Value.int .i64) x.k, (Value.int .i64) x.m.page, (Value.int .i64) x.m.size, (Value.int .i64) x.m.frame, (Value.int .i64) x.m.rights] 36) = w4 at *
      generalize wr.heap.size = X at *
      clear d0 d1 d2 d3 d4 d5 hr hx hbl
      have hw := hs4.p2
      obtain ⟨c0, c1, c2, c3, c4, c5⟩ := hs4.cells6
      have cl := hs4.lt
      clear hs4
      go_cut [] (fun wx => ∃ (k' : List Ln), Tl.Ok k' ∧ (x.op = 1 → ∀ y ∈ k', meet y.m x.m = false) ∧ Has wx (tlbAt p k' * (blk X #[(Value.int .i64) x.op, (Value.int .i64) x.k, (Value.int .i64) x.m.page, (Value.int .i64) x.m.size, (Value.int .i64) x.m.frame, (Value.int .i64) x.m.rights] 36 * old w w.heap.size)) ∧ Ext w wx)
      case first =>
        have P1 := Lib.hid (fun R w h => putT p k x.ln R w hk hM.1 h)
        have D1 := Lib.hid (fun R w h => dropT p k x.m R w hk.lok hM.1 h)
        have E1 := Lib.hid (fun R w h => evictT p k R w h)
        by_cases o0 : x.op = 0
        · have hk' := hk.put x.ln
          generalize x.op = op at *
          subst o0
          go_wp2_with (refine (P1.out _ _ hw).mono ?_; rintro e w5 ⟨rfl, h5, x5⟩)
          go_meet
          case rel => exact ⟨_, hk', fun e => by omega, h5, x2.trans x5⟩
        by_cases o1 : x.op = 1
        · have hk' := hk.drop x.m
          generalize x.op = op at *
          subst o1
          go_wp2_with (refine (D1.out _ _ hw).mono ?_; rintro e w5 ⟨rfl, h5, x5⟩)
          go_meet
          case rel => exact ⟨_, hk', fun _ => Tl.drop_apart k x.m, h5, x2.trans x5⟩
        by_cases o2 : x.op = 2
        · have hk' := hk.evict
          generalize x.op = op at *
          subst o2
          go_wp2_with (refine (E1.out _ _ hw).mono ?_; rintro e w5 ⟨rfl, h5, x5⟩)
          go_meet
          case rel => exact ⟨_, hk', fun e => by omega, h5, x2.trans x5⟩
        go_wp2_with fail
        go_meet
        case rel => exact ⟨k, hk, fun e => absurd e o1, hw, x2⟩
      case rest => as_aux_lemma =>
        obtain ⟨k', hk', hno, hw', x2'⟩ := hcut
        clear hw hk x2 c0 c1 c2 c3 c4 c5
        have HNO := Lib.hid hno
        clear hno
        have L1 := Lib.hid (fun R w h => listT p k' R w (Nat.le_trans hk'.len (by omega)) h)
        go_wp2_with fail
        refine (L1.out _ _ hw').mono ?_; rintro e w5 ⟨A', n', c', rfl, h5, x5⟩
        have h6 := hw'.onto h5
        have x6 := x2'.trans x5
        have hnl := lrow_len h6
        subst hnl
        have hlen := hk'.len
        clear h5 x5 hw' x2' L1
        go_wp2_with fail
        go_loopw [7] (fun s7 wz => ∃ j : Nat, j ≤ k'.length ∧ s7 = (Value.int .i64) j ∧ Below w5.heap.size w5 wz) (fun s7 _ => k'.length - (intOf s7).toNat)
        case atStart => exact ⟨0, Nat.zero_le _, rfl, Below.refl _ _⟩
        case round =>
          obtain ⟨j, hj, rfl, BW⟩ := hrel
          have h7 := h6.below BW
          have BW' := Lib.hid BW
          clear BW
          by_cases hjl : j < k'.length
          · obtain ⟨g, rfl, hv⟩ := lrow_via h7 hjl
            have hX := h7.right.p2
            obtain ⟨c0, c1, c2, c3, c4, c5⟩ := hX.cells6
            have v0 := via_cell c0
            have v2 := via_cell c2
            have v3 := via_cell c3
            have v4 := via_cell c4
            have v5 := via_cell c5
            have hcj := hk'.chk _ (List.getElem_mem hjl)
            have hyj := hk'.lok _ (List.getElem_mem hjl)
            have hnj := fun e => HNO.out e _ (List.getElem_mem hjl)
            have HF := Lib.hid (mapFault_any k'[j].m)
            rw [hcj] at HF
            have HB := Lib.hid (fun W => both_any k'[j].m x.m W hyj hM.1)
            have hu0 := fun u => (hv u).1
            have hu1 := fun u => (hv u).2.1
            have hu2 := fun u => (hv u).2.2.1
            have hu3 := fun u => (hv u).2.2.2.1
            clear hv c0 c1 c2 c3 c4 c5 hX
            go_upto_region 23 with fail
            go_cut [79] (fun b79 wx => b79 = Value.bool false ∧ Below w5.heap.size w5 wx)
            case first =>
              by_cases o1 : x.op = 1
              · have hq := hnj o1
                rw [hq] at HB
                have o1' : (x.op == 1) = true := by simpa using o1
                clear hnj hq
                go_wp2_with fail
                refine wp_region_via (by kernel_rfl) (by kernel_rfl) ?_
                repeat (first | go_big_quiet_step ((first | (go_at_call 25; exact Pure.via (HF.out _)) | (go_at_call 26; exact Pure.via (HB.out _)))) | quiet_step ((first | (go_at_call 25; exact Pure.via (HF.out _)) | (go_at_call 26; exact Pure.via (HB.out _)))))
                refine wpQuiet_nil ?_
                intro _ hw'
                obtain ⟨uq, hw''⟩ := hw'
                subst hw''
                go_wp2_with fail
                go_meet
                case rel => exact ⟨rfl, BW'.out.trans ((via_below _ _).mono BW'.out.size)⟩
              · have o1' : (x.op == 1) = false := by simpa using o1
                clear hnj
                go_wp2_with fail
                refine wp_region_via (by kernel_rfl) (by kernel_rfl) ?_
                repeat (first | go_big_quiet_step ((first | (go_at_call 25; exact Pure.via (HF.out _)))) | quiet_step ((first | (go_at_call 25; exact Pure.via (HF.out _)))))
                refine wpQuiet_nil ?_
                intro _ hw'
                obtain ⟨uq, hw''⟩ := hw'
                subst hw''
                go_wp2_with fail
                go_meet
                case rel => exact ⟨rfl, BW'.out.trans ((via_below _ _).mono BW'.out.size)⟩
            case rest =>
              obtain ⟨rfl, BW2⟩ := hcut
              clear hu0 hu1 hu2 hu3 v0 v2 v3 v4 v5 HB HF BW' h7
              go_wp2_with fail
              go_loopw [8] (fun s8 wz => ∃ t : Nat, t ≤ j ∧ s8 = (Value.int .i64) t ∧ Below w5.heap.size w5 wz) (fun s8 _ => j - (intOf s8).toNat)
              case atStart => exact ⟨0, Nat.zero_le _, rfl, BW2⟩
              case round =>
                clear BW2
                obtain ⟨t, ht, rfl, BW3⟩ := hrel
                have h8 := h6.below BW3
                have BW4 := Lib.hid BW3
                clear BW3
                by_cases htj : t < j
                · have htl : t < k'.length := by omega
                  obtain ⟨g1, e1, hv⟩ := lrow_via h8 hjl
                  injection e1 with e1
                  injection e1 with e1
                  subst e1
                  obtain ⟨g2, e2, hv2⟩ := lrow_via h8 htl
                  injection e2 with e2
                  injection e2 with e2
                  subst e2
                  have hyt := hk'.lok _ (List.getElem_mem htl)
                  have hap := List.pairwise_iff_getElem.1 hk'.apart t j htl hjl htj
                  have HB := Lib.hid (fun W => both_any k'[t].m k'[j].m W hyt hyj)
                  rw [hap] at HB
                  have hu0 := fun u => (hv u).1
                  have hu1 := fun u => (hv u).2.1
                  have hu2 := fun u => (hv u).2.2.1
                  have hu3 := fun u => (hv u).2.2.2.1
                  have ht0 := fun u => (hv2 u).1
                  have ht1 := fun u => (hv2 u).2.1
                  have ht2 := fun u => (hv2 u).2.2.1
                  have ht3 := fun u => (hv2 u).2.2.2.1
                  clear hv hv2 hap
                  go_wp2_with fail
                  refine wp_region_via (by kernel_rfl) (by kernel_rfl) ?_
                  repeat (first | go_big_quiet_step ((go_at_call 26; exact Pure.via (HB.out _))) | quiet_step ((go_at_call 26; exact Pure.via (HB.out _))))
                  refine wpQuiet_nil ?_
                  intro _ hw'
                  obtain ⟨uq, hw''⟩ := hw'
                  subst hw''
                  go_wp2_with fail
                  go_roundw
                  case rel => exact ⟨t + 1, by omega, by go_num, BW4.out.trans ((via_below _ _).mono BW4.out.size)⟩
                  case measure => simp [intOf]; omega
                · go_wp2_with fail
                  go_roundw
                  case rel => exact ⟨j + 1, by omega, by go_num, BW4.out⟩
                  case measure => simp [intOf]; omega
          · go_wp2_with fail
            go_roundw
            case rel => exact ⟨i + 1, k', by omega, by go_num, hk', h7.right.p2.right, x6.below BW'.out⟩
            case measure => simp [intOf]; omega
    · go_wp2_with fail
      go_ret
      exact ⟨rfl, below_of1 hr.right hx⟩
end Go.Proofs.Ytacnjjjdkpbeaaa
