/- The law TlbDoes: the walk. -/
import Derived.Test.YtacnjjjdkpbeaaaTlStep
namespace Go.Proofs.Ytacnjjjdkpbeaaa
open Go.RowKit
set_option maxRecDepth 100000

/-- The document's lines lose the first. -/
theorem core_tail {q g off c : Nat} {y : Ln} {l : List Ln} {k : Ck} {R : HProp} {w : World} (h : Has w (coreIn q (some ⟨g, off, none⟩) c (y :: l) k R)) :
    Has (w.setCell ⟨q, 0, none⟩ (.slice (if c = 1 then some ⟨g, off, none⟩ else some ⟨g, off + 5, none⟩) l.length (c - 1))) (coreAt q l k * R) := by
  refine coreAt_shut (A := if c = 1 then some ⟨g, off, none⟩ else some ⟨g, off + 5, none⟩) (c := c - 1) ?_
  have h4 := h.p2
  unfold rrow at h4
  have h5 := Has.rowOTail h4
  exact Has.set h5.p2 0 _
set_option maxHeartbeats 8000000 in
theorem tlbDoes_walk (A : Option Addr) (n c : Nat) (l : List Lst) (w : World) (h : Arr w A n 6 (l.map Lst.cells)) (hok : ∀ x ∈ l, x.ok) :
    Calls Try.prog 3 #[.slice A n c] w (Pure (Value.bool true) w) := by
  have hm := h.2.1
  have hn : l.length = n := by simpa using h.1
  have hN := Lib.hid hn
  have hA := Lib.hid h
  clear h hn
  by_cases hbig : 300 < n
  · go_enter Try.func3, Try.ntmps3
    go_wp2_with fail
    refine (tlbBegun_any _).mono ?_; rintro e w1 ⟨rfl, hb⟩
    go_wp2_with fail
    go_ret
    exact ⟨rfl, hb⟩
  have h0 := has_old w
  go_enter Try.func3, Try.ntmps3
  go_wp2_with fail
  refine (tlbBegun_any _).mono ?_; rintro e w1 ⟨rfl, hb⟩
  have h1 := h0.below hb
  have x1 := (Ext.refl w).below hb
  clear h0 hb
  go_wp2_with fail
  refine (newT _ _ h1).mono ?_; rintro e w2 ⟨p, rfl, h2, x2⟩
  have h3 := h2.new #[.slice none 0 0, Value.bool false, (Value.int .i64) 0, (Value.int .i64) 0, Value.bool false, (Value.int .i64) 0, (Value.int .i64) 0, Value.bool false, (Value.int .u64) 0] 32
  have x3 := (x1.trans x2).alloc (.cells #[.slice none 0 0, Value.bool false, (Value.int .i64) 0, (Value.int .i64) 0, Value.bool false, (Value.int .i64) 0, (Value.int .i64) 0, Value.bool false, (Value.int .u64) 0] 32)
  have h4 : Has (w2.alloc (.cells #[.slice none 0 0, Value.bool false, (Value.int .i64) 0, (Value.int .i64) 0, Value.bool false, (Value.int .i64) 0, (Value.int .i64) 0, Value.bool false, (Value.int .u64) 0] 32)) (coreAt w2.heap.size [] Ck.zero * (tlbAt p [] * old w w.heap.size)) := coreAt_shut (A := none) (c := 0) (Has.p2 (Has.rowONil h3))
  have h5 := h4.p2
  clear h1 h2 h3 h4 x1 x2
  generalize hq : w2.heap.size = q at h5
  have Q := Lib.hid hq
  clear hq
  go_wp2_with fail
  rw [Q.out]
  go_loopw [5] (fun t wr => ∃ (i : Nat) (k : List Ln), i ≤ n ∧ t = (Value.int .i64) i ∧ Tl.Ok k ∧ Has wr (tlbAt p k * (coreAt q k Ck.zero * old w w.heap.size)) ∧ Ext w wr)
    (fun t _ => n - (intOf t).toNat)
  case atStart => exact ⟨0, [], by omega, rfl, Tl.Ok.nil, h5, x3⟩
  case round =>
    clear h5 x3
    obtain ⟨i, k, hi, rfl, hk, hr, hx⟩ := hrel
    by_cases hlt : i < n
    · have hil : i < l.length := by have := hN.out; omega
      obtain ⟨b, off, hb, hbl, hc⟩ := (hA.out.old1 hr.right.right hx).at_ (i := i) (xs := (l[i]).cells) (by simp [hil])
      have ho := hok _ (List.getElem_mem hil)
      generalize l[i] = x at hc ho
      obtain ⟨hop, hK, hM⟩ := ho
      have d0 : wr.cell? ⟨b, off + i * 6, none⟩ = some ((Value.int .i64) x.op) := hc 0 _ rfl
      have d1 : wr.cell? ⟨b, off + i * 6 + 1, none⟩ = some ((Value.int .i64) x.k) := hc 1 _ rfl
      have d2 : wr.cell? ⟨b, off + i * 6 + 2, none⟩ = some ((Value.int .i64) x.m.page) := hc 2 _ rfl
      have d3 : wr.cell? ⟨b, off + i * 6 + 3, none⟩ = some ((Value.int .i64) x.m.size) := hc 3 _ rfl
      have d4 : wr.cell? ⟨b, off + i * 6 + 4, none⟩ = some ((Value.int .i64) x.m.frame) := hc 4 _ rfl
      have d5 : wr.cell? ⟨b, off + i * 6 + 5, none⟩ = some ((Value.int .i64) x.m.rights) := hc 5 _ rfl
      clear hc
      subst hb
      have hs4 := hr.new #[(Value.int .i64) x.op, (Value.int .i64) x.k, (Value.int .i64) x.m.page, (Value.int .i64) x.m.size, (Value.int .i64) x.m.frame, (Value.int .i64) x.m.rights] 36
      have x2 := hx.alloc (.cells #[(Value.int .i64) x.op, (Value.int .i64) x.k, (Value.int .i64) x.m.page, (Value.int .i64) x.m.size, (Value.int .i64) x.m.frame, (Value.int .i64) x.m.rights] 36)
      go_upto_block 2 with fail
      generalize wr.alloc (.cells #[(Value.int .i64) x.op, (Value.int .i64) x.k, (Value.int .i64) x.m.page, (Value.int .i64) x.m.size, (Value.int .i64) x.m.frame, (Value.int .i64) x.m.rights] 36) = w4 at *
      generalize wr.heap.size = X at *
      clear d0 d1 d2 d3 d4 d5 hr hx hbl
      have hw : Has w4 (tlbAt p k * (coreAt q k Ck.zero * (blk X #[(Value.int .i64) x.op, (Value.int .i64) x.k, (Value.int .i64) x.m.page, (Value.int .i64) x.m.size, (Value.int .i64) x.m.frame, (Value.int .i64) x.m.rights] 36 * old w w.heap.size))) := hs4.eq (by ac_rfl)
      obtain ⟨c0, c1, c2, c3, c4, c5⟩ := hs4.cells6
      have cl := hs4.lt
      clear hs4
      go_cut [7] (fun _ wx => ∃ (k' : List Ln), Tl.Ok k' ∧ Has wx (tlbAt p k' * (coreAt q k' Ck.zero * (blk X #[(Value.int .i64) x.op, (Value.int .i64) x.k, (Value.int .i64) x.m.page, (Value.int .i64) x.m.size, (Value.int .i64) x.m.frame, (Value.int .i64) x.m.rights] 36 * old w w.heap.size))) ∧ Ext w wx)
      case first =>
        --[A
        have hcells : ∀ (w' : World) (k1 k2 : List Ln), Has w' (tlbAt p k1 * (coreAt q k2 Ck.zero * (blk X #[(Value.int .i64) x.op, (Value.int .i64) x.k, (Value.int .i64) x.m.page, (Value.int .i64) x.m.size, (Value.int .i64) x.m.frame, (Value.int .i64) x.m.rights] 36 * old w w.heap.size))) →
            w'.cell? ⟨X, 1, none⟩ = some ((Value.int .i64) x.k) ∧ w'.cell? ⟨X, 2, none⟩ = some ((Value.int .i64) x.m.page) ∧ w'.cell? ⟨X, 3, none⟩ = some ((Value.int .i64) x.m.size) ∧ w'.cell? ⟨X, 4, none⟩ = some ((Value.int .i64) x.m.frame) ∧ w'.cell? ⟨X, 5, none⟩ = some ((Value.int .i64) x.m.rights) := fun _ _ _ h =>
          ⟨h.right.right.cell 1, h.right.right.cell 2, h.right.right.cell 3, h.right.right.cell 4, h.right.right.cell 5⟩
        have HCE := Lib.hid hcells
        clear hcells
        have P1 := Lib.hid (fun R w h => putT p k x.ln R w hk hM.1 h)
        have P2 := Lib.hid (fun R w h => putRA q k Ck.zero x.ln R w hk hM.1 h)
        have D1 := Lib.hid (fun R w h => dropT p k x.m R w hk.lok hM.1 h)
        have D2 := Lib.hid (fun R w h => dropRA q k Ck.zero x.m R w hk hM.1 h)
        by_cases o0 : x.op = 0
        · as_aux_lemma =>
            have hk' := hk.put x.ln
            generalize decide (check x.ln.m = 0) = ok at P1 P2
            generalize Tl.put k x.ln = k' at *
            generalize x.op = op at *
            subst o0
            go_wp2_with fail
            go_region_held3 (fun w' => w'.cell? ⟨X, 1, none⟩ = some ((Value.int .i64) x.k) ∧ w'.cell? ⟨X, 2, none⟩ = some ((Value.int .i64) x.m.page) ∧ w'.cell? ⟨X, 3, none⟩ = some ((Value.int .i64) x.m.size) ∧ w'.cell? ⟨X, 4, none⟩ = some ((Value.int .i64) x.m.frame) ∧ w'.cell? ⟨X, 5, none⟩ = some ((Value.int .i64) x.m.rights)) (first | go_keep | exact HCE.out _ _ _ h5 | exact HCE.out _ _ _ h6.p2) (first | (go_at_call 16; first | (refine (P1.out _ _ hw.drew).mono ?_; rintro e w5 ⟨rfl, h5, x5⟩) | (refine (P1.out _ _ h6.p2).mono ?_; rintro e w5 ⟨rfl, h5, x5⟩)) | (go_at_call 17; first | (refine (P2.out _ _ hw.p2.drew).mono ?_; rintro e w6 ⟨rfl, h6, x6⟩) | (refine (P2.out _ _ h5.p2).mono ?_; rintro e w6 ⟨rfl, h6, x6⟩)))
            all_goals
              go_wp2_with fail
              go_meet
              case rel => first | exact ⟨_, hk', h6.p2, (x2.drew.trans x5).trans x6⟩ | exact ⟨_, hk', h5, (x2.drew.trans x6).trans x5⟩
        by_cases o1 : x.op = 1
        · as_aux_lemma =>
            have hk' := hk.drop x.m
            generalize (k.length : Int) - (Tl.drop k x.m).length = ok at D1 D2
            generalize Tl.drop k x.m = k' at *
            generalize x.op = op at *
            subst o1
            go_wp2_with fail
            go_region_held3 (fun w' => w'.cell? ⟨X, 1, none⟩ = some ((Value.int .i64) x.k) ∧ w'.cell? ⟨X, 2, none⟩ = some ((Value.int .i64) x.m.page) ∧ w'.cell? ⟨X, 3, none⟩ = some ((Value.int .i64) x.m.size) ∧ w'.cell? ⟨X, 4, none⟩ = some ((Value.int .i64) x.m.frame) ∧ w'.cell? ⟨X, 5, none⟩ = some ((Value.int .i64) x.m.rights)) (first | go_keep | exact HCE.out _ _ _ h5 | exact HCE.out _ _ _ h6.p2) (first | (go_at_call 18; first | (refine (D1.out _ _ hw.drew).mono ?_; rintro e w5 ⟨rfl, h5, x5⟩) | (refine (D1.out _ _ h6.p2).mono ?_; rintro e w5 ⟨rfl, h5, x5⟩)) | (go_at_call 19; first | (refine (D2.out _ _ hw.p2.drew).mono ?_; rintro e w6 ⟨rfl, h6, x6⟩) | (refine (D2.out _ _ h5.p2).mono ?_; rintro e w6 ⟨rfl, h6, x6⟩)))
            all_goals
              go_wp2_with fail
              go_meet
              case rel => first | exact ⟨_, hk', h6.p2, (x2.drew.trans x5).trans x6⟩ | exact ⟨_, hk', h5, (x2.drew.trans x6).trans x5⟩
        clear P1 P2 D1 D2 HCE
        by_cases o2 : x.op = 2
        · as_aux_lemma =>
            generalize x.op = op at *
            subst o2
            have E1 := Lib.hid (fun k R w h => evictT p k R w h)
            cases k with
            | nil =>
              obtain ⟨B, cb, hq⟩ := coreAt_open hw.p2
              have e0 : w4.cell? ⟨q, 0, none⟩ = some (.slice B 0 cb) := Has.cell hq 0
              have el := Has.lt hq
              clear hq
              go_wp2_with (refine (E1.out _ _ _ hw).mono ?_; rintro e w5 ⟨rfl, h5, x5⟩)
              go_meet
              case rel => exact ⟨[], Tl.Ok.nil, h5, x2.trans x5⟩
            | cons y k =>
              obtain ⟨B, cb, hq⟩ := coreAt_open hw.p2
              have hsm := (Has.rowOSmall (e := 41) (size := 5) hq.right).1
              have hcb := (Has.rowOSmall (e := 41) (size := 5) hq.right).2
              simp only [List.length_cons] at hsm hcb
              obtain ⟨g, goff, rfl⟩ : ∃ g off, B = some ⟨g, off, none⟩ := by
                obtain ⟨g, off, e, _⟩ := rrow_at hq.right (k := 0) (by simp)
                exact ⟨g, off, e⟩
              have e0 : w4.cell? ⟨q, 0, none⟩ = some (.slice (some ⟨g, goff, none⟩) (k.length + 1) cb) := Has.cell hq 0
              have el := Has.lt hq
              have ef := Has.free hq 0
              have ht := core_tail hq
              clear hq
              have hne : ¬ ((k.length : Int) + 1 ≤ 0) := by omega
              by_cases h1 : cb = 1
              · obtain rfl : k = [] := List.eq_nil_of_length_eq_zero (by omega)
                subst h1
                rw [if_pos rfl] at ht
                go_wp2_with (refine (E1.out _ _ _ ht.p2).mono ?_; rintro e w5 ⟨rfl, h5, x5⟩)
                go_meet
                case rel => exact ⟨[], Tl.Ok.nil, h5, (x2.set _ _).trans x5⟩
              · rw [if_neg h1] at ht
                go_wp2_with (refine (E1.out _ _ _ ht.p2).mono ?_; rintro e w5 ⟨rfl, h5, x5⟩)
                go_meet
                case rel => exact ⟨k, hk.evict, h5, (x2.set _ _).trans x5⟩
        go_wp2_with fail
        go_meet
        case rel => exact ⟨k, hk, hw, x2⟩
        --A]
      case rest => as_aux_lemma =>
        obtain ⟨k', hk', hw', x2'⟩ := hcut
        clear hw hk x2 c0 c1 c2 c3 c4 c5
        have c1 := hw'.right.right.cell 1
        have cl := hw'.right.right.lt
        have F1 := Lib.hid (fun R w h => findT p k' x.k R w hk'.lok hK h)
        have K1 := Lib.hid (fun R w h => keptRA q k' Ck.zero x.k R w hk' hK h)
        rcases Tl.idx_find k' x.k with ⟨e1, e2⟩ | ⟨j, hj, e1, e2, _⟩
        · rw [e1, show lnOf none = .agg #[(Value.int .i64) 0, (Value.int .i64) 0, (Value.int .i64) 0, (Value.int .i64) 0, Value.bool false] from rfl] at F1
          rw [e2] at K1
          go_wp2_with fail
          refine (F1.out _ _ hw').mono ?_; rintro e w5 ⟨rfl, b5⟩
          have h5 := hw'.below b5
          have x5 := x2'.below b5
          have d1 := h5.right.right.cell 1
          have dl := h5.right.right.lt
          have h6 : Has (w5.alloc (.cells #[(Value.int .i64) 0, (Value.int .i64) 0, (Value.int .i64) 0, (Value.int .i64) 0, Value.bool false] 39)) (tlbAt p k' * (coreAt q k' Ck.zero * (blk w5.heap.size #[(Value.int .i64) 0, (Value.int .i64) 0, (Value.int .i64) 0, (Value.int .i64) 0, Value.bool false] 39 * (blk X #[(Value.int .i64) x.op, (Value.int .i64) x.k, (Value.int .i64) x.m.page, (Value.int .i64) x.m.size, (Value.int .i64) x.m.frame, (Value.int .i64) x.m.rights] 36 * old w w.heap.size)))) := (h5.new #[(Value.int .i64) 0, (Value.int .i64) 0, (Value.int .i64) 0, (Value.int .i64) 0, Value.bool false] 39).eq (by ac_rfl)
          have x6 := x5.alloc (.cells #[(Value.int .i64) 0, (Value.int .i64) 0, (Value.int .i64) 0, (Value.int .i64) 0, Value.bool false] 39)
          go_wp2_with fail
          refine (K1.out _ _ h6.p2).mono ?_; rintro e w7 ⟨rfl, b7⟩
          have h7 := h6.below b7
          have x7 := x6.below b7
          clear c1 cl d1 dl F1 K1 e1 e2 h5 x5 h6 x6 hw' x2' b7 b5
          obtain ⟨B, cb, hq⟩ := coreAt_open h7.p2
          have q0 : w7.cell? ⟨q, 0, none⟩ = some (.slice B k'.length cb) := Has.cell hq 0
          have ql := Has.lt hq
          have L1 := Lib.hid (fun R w h => listT p k' R w (Nat.le_trans hk'.len (by omega)) h)
          go_wp2_with fail
          refine wp_region_held_drew (S := fun w' => w'.cell? ⟨q, 0, none⟩ = some (.slice B k'.length cb)) (by kernel_rfl) q0 (fun hHeld => ?_)
          refine wpAnyH_take (i := 0) (v := ?_) rfl (by kernel_rfl) (by kernel_rfl) (by kernel_rfl) (fun _ _ _ h => h) (Or.inl ⟨by kernel_rfl, ?_⟩) hHeld ?_
          rotate_left
          focus (intro wS hSw; (try dsimp only at hSw); go_simp; first | done | with_reducible rfl)
          try go_simp
          refine wpAnyH_take (i := 1) (v := ?_) rfl (by kernel_rfl) (by kernel_rfl) (by kernel_rfl) (fun _ _ _ h => h) (Or.inl ⟨by kernel_rfl, ?_⟩) hHeld ?_
          rotate_left
          focus (intro wS hSw; (try dsimp only at hSw); go_simp; first | done | with_reducible rfl)
          try go_simp
          refine wpAnyH_take (i := 2) (v := ?_) rfl (by kernel_rfl) (by kernel_rfl) (by kernel_rfl) (fun _ _ _ h => h) (Or.inl ⟨by kernel_rfl, ?_⟩) hHeld ?_
          rotate_left
          focus (intro wS hSw; (try dsimp only at hSw); go_simp; first | done | with_reducible rfl)
          try go_simp
          refine wpAnyH_take (i := 3) (v := ?_) rfl (by kernel_rfl) (by kernel_rfl) (by kernel_rfl) (fun _ _ _ h => h) (Or.inl ⟨by kernel_rfl, ?_⟩) hHeld ?_
          rotate_left
          focus (intro wS hSw; (try dsimp only at hSw); go_simp; first | done | with_reducible rfl)
          try go_simp
          refine wpAnyH_take (i := 4) (v := ?_) rfl (by kernel_rfl) (by kernel_rfl) (by kernel_rfl) (fun _ _ _ h => h) (Or.inl ⟨by kernel_rfl, ?_⟩) hHeld ?_
          rotate_left
          focus (intro wS hSw; (try dsimp only at hSw); go_simp; first | done | with_reducible rfl)
          try go_simp
          refine wpAnyH_take (i := 5) (v := ?_) rfl (by kernel_rfl) (by kernel_rfl) (by kernel_rfl) (fun _ _ _ h => h) (Or.inl ⟨by kernel_rfl, ?_⟩) hHeld ?_
          rotate_left
          focus (intro wS hSw; (try dsimp only at hSw); go_simp; first | done | with_reducible rfl)
          try go_simp
          refine wpAnyH_take (i := 6) (v := ?_) rfl (by kernel_rfl) (by kernel_rfl) (by kernel_rfl) (fun _ _ _ h => h) (Or.inl ⟨by kernel_rfl, ?_⟩) hHeld ?_
          rotate_left
          focus (intro wS hSw; (try dsimp only at hSw); go_simp; first | done | with_reducible rfl)
          try go_simp
          refine wpAnyH_take (i := 7) (v := ?_) rfl (by kernel_rfl) (by kernel_rfl) (by kernel_rfl) (fun _ _ _ h => h) (Or.inl ⟨by kernel_rfl, ?_⟩) hHeld ?_
          rotate_left
          focus (intro wS hSw; (try dsimp only at hSw); go_simp; first | done | with_reducible rfl)
          try go_simp
          refine wpAnyH_take (i := 8) rfl (by kernel_rfl) (by kernel_rfl) (by kernel_rfl) (fun _ _ _ h => h) (Or.inr ⟨by kernel_rfl, rfl⟩) hHeld ?_
          try go_simp
          refine wpAnyH_take (i := 9) rfl (by kernel_rfl) (by kernel_rfl) (by kernel_rfl) (fun _ _ _ h => h) (Or.inr ⟨by kernel_rfl, rfl⟩) hHeld ?_
          try go_simp
          refine wpAnyH_take (i := 10) rfl (by kernel_rfl) (by kernel_rfl) (by kernel_rfl) (fun _ _ _ h => h) (Or.inr ⟨by kernel_rfl, rfl⟩) hHeld ?_
          try go_simp
          refine wpAnyH_take (i := 11) rfl (by kernel_rfl) (by kernel_rfl) (by kernel_rfl) (fun _ _ _ h => h) (Or.inr ⟨by kernel_rfl, rfl⟩) hHeld ?_
          try go_simp
          refine wpAnyH_take (i := 12) rfl (by kernel_rfl) (by kernel_rfl) (by kernel_rfl) (fun _ _ _ h => h) (Or.inr ⟨by kernel_rfl, rfl⟩) hHeld ?_
          try go_simp
          refine wpAnyH_take (i := 13) rfl (by kernel_rfl) (by kernel_rfl) (by kernel_rfl) (fun _ _ _ h => h) (Or.inr ⟨by kernel_rfl, rfl⟩) hHeld ?_
          try go_simp
          refine wpAnyH_take (i := 14) rfl (by kernel_rfl) (by kernel_rfl) (by kernel_rfl) (fun _ _ _ h => h) (Or.inr ⟨by kernel_rfl, rfl⟩) hHeld ?_
          try go_simp
          refine wpAnyH_take (i := 15) rfl (by kernel_rfl) (by kernel_rfl) (by kernel_rfl) (fun _ _ _ h => h) (Or.inr ⟨by kernel_rfl, rfl⟩) hHeld ?_
          try go_simp
          refine wpAnyH_take (i := 16) rfl (by kernel_rfl) (by kernel_rfl) (by kernel_rfl) (fun _ _ _ h => h) (Or.inr ⟨by kernel_rfl, rfl⟩) hHeld ?_
          try go_simp
          refine wpAnyH_take (i := 17) rfl (by kernel_rfl) (by kernel_rfl) (by kernel_rfl) (fun _ _ _ h => h) (Or.inr ⟨by kernel_rfl, rfl⟩) hHeld ?_
          try go_simp
          refine wpAnyH_take (i := 18) rfl (by kernel_rfl) (by kernel_rfl) (by kernel_rfl) (fun _ _ _ h => h) (Or.inr ⟨by kernel_rfl, rfl⟩) hHeld ?_
          try go_simp
          refine wpAnyH_take (i := 19) rfl (by kernel_rfl) (by kernel_rfl) (by kernel_rfl) (fun _ _ _ h => h) (Or.inr ⟨by kernel_rfl, rfl⟩) hHeld ?_
          try go_simp
          refine wpAnyH_take (i := 20) rfl (by kernel_rfl) (by kernel_rfl) (by kernel_rfl) (fun _ _ _ h => h) (Or.inr ⟨by kernel_rfl, rfl⟩) hHeld ?_
          try go_simp
          refine wpAnyH_take (i := 21) rfl (by kernel_rfl) (by kernel_rfl) (by kernel_rfl) (fun _ _ _ h => h) (Or.inr ⟨by kernel_rfl, rfl⟩) hHeld ?_
          try go_simp
          refine wpAnyH_take (i := 22) rfl (by kernel_rfl) (by kernel_rfl) (by kernel_rfl) (fun _ _ _ h => h) (Or.inr ⟨by kernel_rfl, rfl⟩) hHeld ?_
          try go_simp
          refine wpAnyH_take (i := 23) rfl (by kernel_rfl) (by kernel_rfl) (by kernel_rfl) (fun _ _ _ h => h) (Or.inr ⟨by kernel_rfl, rfl⟩) hHeld ?_
          try go_simp
          refine wpAnyH_take (i := 24) rfl (by kernel_rfl) (by kernel_rfl) (by kernel_rfl) (fun _ _ _ h => h) (Or.inr ⟨by kernel_rfl, rfl⟩) hHeld ?_
          try go_simp
          refine wpAnyH_take (i := 25) rfl (by kernel_rfl) (by kernel_rfl) (by kernel_rfl) (fun _ _ _ h => h) (Or.inr ⟨by kernel_rfl, rfl⟩) hHeld ?_
          try go_simp
          refine wpAnyH_take (i := 26) rfl (by kernel_rfl) (by kernel_rfl) (by kernel_rfl) (fun _ _ _ h => h) (Or.inr ⟨by kernel_rfl, rfl⟩) hHeld ?_
          try go_simp
          refine wpAnyH_take (i := 27) rfl (by kernel_rfl) (by kernel_rfl) (by kernel_rfl) (fun _ _ _ h => h) (Or.inr ⟨by kernel_rfl, rfl⟩) hHeld ?_
          try go_simp
          refine wpAnyH_take (i := 28) rfl (by kernel_rfl) (by kernel_rfl) (by kernel_rfl) (fun _ _ _ h => h) (Or.inr ⟨by kernel_rfl, rfl⟩) hHeld ?_
          try go_simp
          refine wpAnyH_take (i := 29) rfl (by kernel_rfl) (by kernel_rfl) (by kernel_rfl) (fun _ _ _ h => h) (Or.inr ⟨by kernel_rfl, rfl⟩) hHeld ?_
          try go_simp
          refine wpAnyH_take (i := 30) rfl (by kernel_rfl) (by kernel_rfl) (by kernel_rfl) (fun _ _ _ h => h) (Or.inr ⟨by kernel_rfl, rfl⟩) hHeld ?_
          try go_simp
          refine wpAnyH_take (i := 31) rfl (by kernel_rfl) (by kernel_rfl) (by kernel_rfl) (fun _ _ _ h => h) (Or.inr ⟨by kernel_rfl, rfl⟩) hHeld ?_
          try go_simp
          refine wpAnyH_take (i := 32) (v := ?_) rfl (by kernel_rfl) (by kernel_rfl) (by kernel_rfl) (fun _ _ _ h => h) (Or.inl ⟨by kernel_rfl, ?_⟩) hHeld ?_
          rotate_left
          focus (intro wS hSw; (try dsimp only at hSw); go_simp; first | done | with_reducible rfl)
          try go_simp
          refine wpAnyH_take (i := 33) (v := ?_) rfl (by kernel_rfl) (by kernel_rfl) (by kernel_rfl) (fun _ _ _ h => h) (Or.inl ⟨by kernel_rfl, ?_⟩) hHeld ?_
          rotate_left
          focus (intro wS hSw; (try dsimp only at hSw); go_simp; first | done | with_reducible rfl)
          try go_simp
          refine wpAnyH_take (i := 34) (v := ?_) rfl (by kernel_rfl) (by kernel_rfl) (by kernel_rfl) (fun _ _ _ h => h) (Or.inl ⟨by kernel_rfl, ?_⟩) hHeld ?_
          rotate_left
          focus (intro wS hSw; (try dsimp only at hSw); go_simp; first | done | with_reducible rfl)
          try go_simp
          refine wpAnyH_take (i := 35) (v := ?_) rfl (by kernel_rfl) (by kernel_rfl) (by kernel_rfl) (fun _ _ _ h => h) (Or.inl ⟨by kernel_rfl, ?_⟩) hHeld ?_
          rotate_left
          focus (intro wS hSw; (try dsimp only at hSw); go_simp; first | done | with_reducible rfl)
          try go_simp
          refine wpAnyH_take (i := 37) (v := ?_) rfl (by kernel_rfl) (by kernel_rfl) (by kernel_rfl) (fun _ _ _ h => h) (Or.inl ⟨by kernel_rfl, ?_⟩) hHeld ?_
          rotate_left
          focus (intro wS hSw; (try dsimp only at hSw); go_simp; first | done | with_reducible rfl)
          try go_simp
          refine wpAnyH_take (i := 38) (v := ?_) rfl (by kernel_rfl) (by kernel_rfl) (by kernel_rfl) (fun _ _ _ h => h) (Or.inl ⟨by kernel_rfl, ?_⟩) hHeld ?_
          rotate_left
          focus (intro wS hSw; (try dsimp only at hSw); go_simp; first | done | with_reducible rfl)
          try go_simp
          refine wpAnyH_take (i := 39) (v := ?_) rfl (by kernel_rfl) (by kernel_rfl) (by kernel_rfl) (fun _ _ _ h => h) (Or.inl ⟨by kernel_rfl, ?_⟩) hHeld ?_
          rotate_left
          focus (intro wS hSw; (try dsimp only at hSw); go_simp; first | done | with_reducible rfl)
          try go_simp
          refine wpAnyH_take (i := 40) (v := ?_) rfl (by kernel_rfl) (by kernel_rfl) (by kernel_rfl) (fun _ _ _ h => h) (Or.inl ⟨by kernel_rfl, ?_⟩) hHeld ?_
          rotate_left
          focus (intro wS hSw; (try dsimp only at hSw); go_simp; first | done | with_reducible rfl)
          try go_simp
          refine wpAnyH_ready (rs := [36]) (by kernel_rfl) (by simp) (AllReadyH.cons rfl (fun K hK => ?_) AllReadyH.nil)
          go_simp
          go_wp2_with ((go_at_call 24; refine (L1.out _ _ h7.drew).mono ?_; rintro e w8 ⟨A', n', c', rfl, h8, x8⟩))
          refine hK.out _ _ (Has.cell (hq.drew.onto h8).right 0) (fun hHeld => ?_)
          clear hK K
          have h9 := hq.drew.onto h8
          have h9' := Has.eq h9 (congrArg (fun P => lrow (.slice A' n' c') k' * P) (star_left_comm (coreBlk q (.slice B k'.length cb) Ck.zero) (rrow (.slice B k'.length cb) k') _))
          have x9 := x7.drew.trans x8
          refine wpAnyH_ready (rs := [41]) (by kernel_rfl) (by simp) (AllReadyH.cons rfl (fun K hK => ?_) AllReadyH.nil)
          go_simp
          go_wp2_with ((go_at_call 23; refine (sameLines_any k' A' B n' c' _ cb _ _ h9').mono ?_; rintro e w9 ⟨rfl, b9⟩))
          refine hK.out _ _ (Has.cell (h9.below b9).right 0) (fun hHeld => ?_)
          clear hK K
          refine wpAnyH_take (i := 42) (v := ?_) rfl (by kernel_rfl) (by kernel_rfl) (by kernel_rfl) (fun _ _ _ h => h) (Or.inl ⟨by kernel_rfl, ?_⟩) hHeld ?_
          rotate_left
          focus (intro wS hSw; (try dsimp only at hSw); go_simp; first | done | with_reducible rfl)
          try go_simp
          refine wpAnyH_take (i := 43) (v := ?_) rfl (by kernel_rfl) (by kernel_rfl) (by kernel_rfl) (fun _ _ _ h => h) (Or.inl ⟨by kernel_rfl, ?_⟩) hHeld ?_
          rotate_left
          focus (intro wS hSw; (try dsimp only at hSw); go_simp; first | done | with_reducible rfl)
          try go_simp
          refine wpAnyH_done (by kernel_rfl) ?_ _
          go_wp2_with fail
          go_roundw
          case rel =>
            have h10 := (h9.below b9).right
            exact ⟨i + 1, k', by omega, by go_num, hk', (coreAt_shut h10).p2.drop3.drop3, x9.below b9⟩
          case measure => simp [intOf]; omega
        · have hsm := hk'.len
          rw [e1] at K1
          have HX := Lib.hid (show k'[j] = k'[j] from rfl)
          rw [e2, show lnOf (some k'[j]) = .agg #[(Value.int .i64) k'[j].m.page, (Value.int .i64) k'[j].m.size, (Value.int .i64) k'[j].m.frame, (Value.int .i64) k'[j].m.rights, Value.bool k'[j].dirty] from rfl] at F1
          clear e1 e2
          generalize hy : k'[j] = y at F1 HX
          have HY := Lib.hid hy
          clear hy HX
          go_wp2_with fail
          refine (F1.out _ _ hw').mono ?_; rintro e w5 ⟨rfl, b5⟩
          have h5 := hw'.below b5
          have x5 := x2'.below b5
          have d1 := h5.right.right.cell 1
          have dl := h5.right.right.lt
          have h6 : Has (w5.alloc (.cells #[(Value.int .i64) y.m.page, (Value.int .i64) y.m.size, (Value.int .i64) y.m.frame, (Value.int .i64) y.m.rights, Value.bool y.dirty] 39)) (tlbAt p k' * (coreAt q k' Ck.zero * (blk w5.heap.size #[(Value.int .i64) y.m.page, (Value.int .i64) y.m.size, (Value.int .i64) y.m.frame, (Value.int .i64) y.m.rights, Value.bool y.dirty] 39 * (blk X #[(Value.int .i64) x.op, (Value.int .i64) x.k, (Value.int .i64) x.m.page, (Value.int .i64) x.m.size, (Value.int .i64) x.m.frame, (Value.int .i64) x.m.rights] 36 * old w w.heap.size)))) := (h5.new #[(Value.int .i64) y.m.page, (Value.int .i64) y.m.size, (Value.int .i64) y.m.frame, (Value.int .i64) y.m.rights, Value.bool y.dirty] 39).eq (by ac_rfl)
          have x6 := x5.alloc (.cells #[(Value.int .i64) y.m.page, (Value.int .i64) y.m.size, (Value.int .i64) y.m.frame, (Value.int .i64) y.m.rights, Value.bool y.dirty] 39)
          go_wp2_with fail
          refine (K1.out _ _ h6.p2).mono ?_; rintro e w7 ⟨rfl, b7⟩
          have h7 := h6.below b7
          have x7 := x6.below b7
          clear c1 cl d1 dl F1 K1 h5 x5 h6 x6 hw' x2' b7 b5
          obtain ⟨B, cb, hq⟩ := coreAt_open h7.p2
          have hcells : ∀ (w' : World) (P : HProp), Has w' (coreIn q B cb k' Ck.zero (tlbAt p k' * (blk w5.heap.size #[(Value.int .i64) y.m.page, (Value.int .i64) y.m.size, (Value.int .i64) y.m.frame, (Value.int .i64) y.m.rights, Value.bool y.dirty] 39 * P))) → ∃ g go, B = some ⟨g, go, none⟩ ∧ (w'.cell? ⟨q, 0, none⟩ = some (.slice B k'.length cb) ∧
              (w'.cell? ⟨w5.heap.size, 0, none⟩ = some ((Value.int .i64) y.m.page) ∧ w'.cell? ⟨w5.heap.size, 1, none⟩ = some ((Value.int .i64) y.m.size) ∧ w'.cell? ⟨w5.heap.size, 2, none⟩ = some ((Value.int .i64) y.m.frame) ∧ w'.cell? ⟨w5.heap.size, 3, none⟩ = some ((Value.int .i64) y.m.rights) ∧ w'.cell? ⟨w5.heap.size, 4, none⟩ = some (Value.bool y.dirty)) ∧
              (w'.cell? ⟨g, go + j * 5, none⟩ = some ((Value.int .i64) y.m.page) ∧ w'.cell? ⟨g, go + j * 5 + 1, none⟩ = some ((Value.int .i64) y.m.size) ∧ w'.cell? ⟨g, go + j * 5 + 2, none⟩ = some ((Value.int .i64) y.m.frame) ∧ w'.cell? ⟨g, go + j * 5 + 3, none⟩ = some ((Value.int .i64) y.m.rights) ∧ w'.cell? ⟨g, go + j * 5 + 4, none⟩ = some (Value.bool y.dirty))) := by
            intro w' P h
            obtain ⟨g, go, rfl, _, hc⟩ := rrow_at h.right hj
            rw [HY.out] at hc
            exact ⟨g, go, rfl, Has.cell h 0, h.right.right.right.cells5, hc⟩
          obtain ⟨g, go, rfl, hS⟩ := hcells w7 _ hq
          have HCE := Lib.hid hcells
          clear hcells
          have L1 := Lib.hid (fun R w h => listT p k' R w (Nat.le_trans hk'.len (by omega)) h)
          have hj0 : (j : Int) < (k'.length : Int) := by omega
          go_wp2_with fail
          refine wp_region_held_drew (S := fun w' => w'.cell? ⟨q, 0, none⟩ = some (.slice (some ⟨g, go, none⟩) k'.length cb) ∧
              (w'.cell? ⟨w5.heap.size, 0, none⟩ = some ((Value.int .i64) y.m.page) ∧ w'.cell? ⟨w5.heap.size, 1, none⟩ = some ((Value.int .i64) y.m.size) ∧ w'.cell? ⟨w5.heap.size, 2, none⟩ = some ((Value.int .i64) y.m.frame) ∧ w'.cell? ⟨w5.heap.size, 3, none⟩ = some ((Value.int .i64) y.m.rights) ∧ w'.cell? ⟨w5.heap.size, 4, none⟩ = some (Value.bool y.dirty)) ∧
              (w'.cell? ⟨g, go + j * 5, none⟩ = some ((Value.int .i64) y.m.page) ∧ w'.cell? ⟨g, go + j * 5 + 1, none⟩ = some ((Value.int .i64) y.m.size) ∧ w'.cell? ⟨g, go + j * 5 + 2, none⟩ = some ((Value.int .i64) y.m.frame) ∧ w'.cell? ⟨g, go + j * 5 + 3, none⟩ = some ((Value.int .i64) y.m.rights) ∧ w'.cell? ⟨g, go + j * 5 + 4, none⟩ = some (Value.bool y.dirty))) (by kernel_rfl) hS (fun hHeld => ?_)
          have hSg : ∀ (w' : World) (P : HProp), Has w' (coreIn q (some ⟨g, go, none⟩) cb k' Ck.zero (tlbAt p k' * (blk w5.heap.size #[(Value.int .i64) y.m.page, (Value.int .i64) y.m.size, (Value.int .i64) y.m.frame, (Value.int .i64) y.m.rights, Value.bool y.dirty] 39 * P))) → w'.cell? ⟨q, 0, none⟩ = some (.slice (some ⟨g, go, none⟩) k'.length cb) ∧
              (w'.cell? ⟨w5.heap.size, 0, none⟩ = some ((Value.int .i64) y.m.page) ∧ w'.cell? ⟨w5.heap.size, 1, none⟩ = some ((Value.int .i64) y.m.size) ∧ w'.cell? ⟨w5.heap.size, 2, none⟩ = some ((Value.int .i64) y.m.frame) ∧ w'.cell? ⟨w5.heap.size, 3, none⟩ = some ((Value.int .i64) y.m.rights) ∧ w'.cell? ⟨w5.heap.size, 4, none⟩ = some (Value.bool y.dirty)) ∧
              (w'.cell? ⟨g, go + j * 5, none⟩ = some ((Value.int .i64) y.m.page) ∧ w'.cell? ⟨g, go + j * 5 + 1, none⟩ = some ((Value.int .i64) y.m.size) ∧ w'.cell? ⟨g, go + j * 5 + 2, none⟩ = some ((Value.int .i64) y.m.frame) ∧ w'.cell? ⟨g, go + j * 5 + 3, none⟩ = some ((Value.int .i64) y.m.rights) ∧ w'.cell? ⟨g, go + j * 5 + 4, none⟩ = some (Value.bool y.dirty)) := by
            intro w' P h
            obtain ⟨g', go', e, hc⟩ := HCE.out w' P h
            injection e with e
            injection e with e1 e2
            subst e1; subst e2
            exact hc
          have HSG := Lib.hid hSg
          clear hSg hS HCE
          refine wpAnyH_take (i := 0) (v := ?_) rfl (by kernel_rfl) (by kernel_rfl) (by kernel_rfl) (fun _ _ _ h => h) (Or.inl ⟨by kernel_rfl, ?_⟩) hHeld ?_
          rotate_left
          focus (intro wS hSw; (try dsimp only at hSw); go_simp; first | done | with_reducible rfl)
          try go_simp
          refine wpAnyH_take (i := 1) (v := ?_) rfl (by kernel_rfl) (by kernel_rfl) (by kernel_rfl) (fun _ _ _ h => h) (Or.inl ⟨by kernel_rfl, ?_⟩) hHeld ?_
          rotate_left
          focus (intro wS hSw; (try dsimp only at hSw); go_simp; first | done | with_reducible rfl)
          try go_simp
          refine wpAnyH_take (i := 2) (v := ?_) rfl (by kernel_rfl) (by kernel_rfl) (by kernel_rfl) (fun _ _ _ h => h) (Or.inl ⟨by kernel_rfl, ?_⟩) hHeld ?_
          rotate_left
          focus (intro wS hSw; (try dsimp only at hSw); go_simp; first | done | with_reducible rfl)
          try go_simp
          refine wpAnyH_take (i := 3) (v := ?_) rfl (by kernel_rfl) (by kernel_rfl) (by kernel_rfl) (fun _ _ _ h => h) (Or.inl ⟨by kernel_rfl, ?_⟩) hHeld ?_
          rotate_left
          focus (intro wS hSw; (try dsimp only at hSw); go_simp; first | done | with_reducible rfl)
          try go_simp
          refine wpAnyH_take (i := 4) (v := ?_) rfl (by kernel_rfl) (by kernel_rfl) (by kernel_rfl) (fun _ _ _ h => h) (Or.inl ⟨by kernel_rfl, ?_⟩) hHeld ?_
          rotate_left
          focus (intro wS hSw; (try dsimp only at hSw); go_simp; first | done | with_reducible rfl)
          try go_simp
          refine wpAnyH_take (i := 5) (v := ?_) rfl (by kernel_rfl) (by kernel_rfl) (by kernel_rfl) (fun _ _ _ h => h) (Or.inl ⟨by kernel_rfl, ?_⟩) hHeld ?_
          rotate_left
          focus (intro wS hSw; (try dsimp only at hSw); go_simp; first | done | with_reducible rfl)
          try go_simp
          refine wpAnyH_take (i := 6) (v := ?_) rfl (by kernel_rfl) (by kernel_rfl) (by kernel_rfl) (fun _ _ _ h => h) (Or.inl ⟨by kernel_rfl, ?_⟩) hHeld ?_
          rotate_left
          focus (intro wS hSw; (try dsimp only at hSw); go_simp; first | done | with_reducible rfl)
          try go_simp
          refine wpAnyH_take (i := 7) (v := ?_) rfl (by kernel_rfl) (by kernel_rfl) (by kernel_rfl) (fun _ _ _ h => h) (Or.inl ⟨by kernel_rfl, ?_⟩) hHeld ?_
          rotate_left
          focus (intro wS hSw; (try dsimp only at hSw); go_simp; first | done | with_reducible rfl)
          try go_simp
          refine wpAnyH_take (i := 8) (v := ?_) rfl (by kernel_rfl) (by kernel_rfl) (by kernel_rfl) (fun _ _ _ h => h) (Or.inl ⟨by kernel_rfl, ?_⟩) hHeld ?_
          rotate_left
          focus (intro wS hSw; (try dsimp only at hSw); go_simp; first | done | with_reducible rfl)
          try go_simp
          refine wpAnyH_take (i := 9) (v := ?_) rfl (by kernel_rfl) (by kernel_rfl) (by kernel_rfl) (fun _ _ _ h => h) (Or.inl ⟨by kernel_rfl, ?_⟩) hHeld ?_
          rotate_left
          focus (intro wS hSw; (try dsimp only at hSw); go_simp; first | done | with_reducible rfl)
          try go_simp
          refine wpAnyH_take (i := 10) (v := ?_) rfl (by kernel_rfl) (by kernel_rfl) (by kernel_rfl) (fun _ _ _ h => h) (Or.inl ⟨by kernel_rfl, ?_⟩) hHeld ?_
          rotate_left
          focus (intro wS hSw; (try dsimp only at hSw); go_simp; first | done | with_reducible rfl)
          try go_simp
          refine wpAnyH_take (i := 11) (v := ?_) rfl (by kernel_rfl) (by kernel_rfl) (by kernel_rfl) (fun _ _ _ h => h) (Or.inl ⟨by kernel_rfl, ?_⟩) hHeld ?_
          rotate_left
          focus (intro wS hSw; (try dsimp only at hSw); go_simp; first | done | with_reducible rfl)
          try go_simp
          refine wpAnyH_take (i := 12) (v := ?_) rfl (by kernel_rfl) (by kernel_rfl) (by kernel_rfl) (fun _ _ _ h => h) (Or.inl ⟨by kernel_rfl, ?_⟩) hHeld ?_
          rotate_left
          focus (intro wS hSw; (try dsimp only at hSw); go_simp; first | done | with_reducible rfl)
          try go_simp
          refine wpAnyH_take (i := 13) (v := ?_) rfl (by kernel_rfl) (by kernel_rfl) (by kernel_rfl) (fun _ _ _ h => h) (Or.inl ⟨by kernel_rfl, ?_⟩) hHeld ?_
          rotate_left
          focus (intro wS hSw; (try dsimp only at hSw); go_simp; first | done | with_reducible rfl)
          try go_simp
          refine wpAnyH_take (i := 14) (v := ?_) rfl (by kernel_rfl) (by kernel_rfl) (by kernel_rfl) (fun _ _ _ h => h) (Or.inl ⟨by kernel_rfl, ?_⟩) hHeld ?_
          rotate_left
          focus (intro wS hSw; (try dsimp only at hSw); go_simp; first | done | with_reducible rfl)
          try go_simp
          refine wpAnyH_take (i := 15) (v := ?_) rfl (by kernel_rfl) (by kernel_rfl) (by kernel_rfl) (fun _ _ _ h => h) (Or.inl ⟨by kernel_rfl, ?_⟩) hHeld ?_
          rotate_left
          focus (intro wS hSw; (try dsimp only at hSw); go_simp; first | done | with_reducible rfl)
          try go_simp
          refine wpAnyH_take (i := 16) (v := ?_) rfl (by kernel_rfl) (by kernel_rfl) (by kernel_rfl) (fun _ _ _ h => h) (Or.inl ⟨by kernel_rfl, ?_⟩) hHeld ?_
          rotate_left
          focus (intro wS hSw; (try dsimp only at hSw); go_simp; first | done | with_reducible rfl)
          try go_simp
          refine wpAnyH_take (i := 17) (v := ?_) rfl (by kernel_rfl) (by kernel_rfl) (by kernel_rfl) (fun _ _ _ h => h) (Or.inl ⟨by kernel_rfl, ?_⟩) hHeld ?_
          rotate_left
          focus (intro wS hSw; (try dsimp only at hSw); go_simp; first | done | with_reducible rfl)
          try go_simp
          refine wpAnyH_take (i := 18) (v := ?_) rfl (by kernel_rfl) (by kernel_rfl) (by kernel_rfl) (fun _ _ _ h => h) (Or.inl ⟨by kernel_rfl, ?_⟩) hHeld ?_
          rotate_left
          focus (intro wS hSw; (try dsimp only at hSw); go_simp; first | done | with_reducible rfl)
          try go_simp
          refine wpAnyH_take (i := 19) (v := ?_) rfl (by kernel_rfl) (by kernel_rfl) (by kernel_rfl) (fun _ _ _ h => h) (Or.inl ⟨by kernel_rfl, ?_⟩) hHeld ?_
          rotate_left
          focus (intro wS hSw; (try dsimp only at hSw); go_simp; first | done | with_reducible rfl)
          try go_simp
          refine wpAnyH_take (i := 20) (v := ?_) rfl (by kernel_rfl) (by kernel_rfl) (by kernel_rfl) (fun _ _ _ h => h) (Or.inl ⟨by kernel_rfl, ?_⟩) hHeld ?_
          rotate_left
          focus (intro wS hSw; (try dsimp only at hSw); go_simp; first | done | with_reducible rfl)
          try go_simp
          refine wpAnyH_take (i := 21) (v := ?_) rfl (by kernel_rfl) (by kernel_rfl) (by kernel_rfl) (fun _ _ _ h => h) (Or.inl ⟨by kernel_rfl, ?_⟩) hHeld ?_
          rotate_left
          focus (intro wS hSw; (try dsimp only at hSw); go_simp; first | done | with_reducible rfl)
          try go_simp
          refine wpAnyH_take (i := 22) (v := ?_) rfl (by kernel_rfl) (by kernel_rfl) (by kernel_rfl) (fun _ _ _ h => h) (Or.inl ⟨by kernel_rfl, ?_⟩) hHeld ?_
          rotate_left
          focus (intro wS hSw; (try dsimp only at hSw); go_simp; first | done | with_reducible rfl)
          try go_simp
          refine wpAnyH_take (i := 23) (v := ?_) rfl (by kernel_rfl) (by kernel_rfl) (by kernel_rfl) (fun _ _ _ h => h) (Or.inl ⟨by kernel_rfl, ?_⟩) hHeld ?_
          rotate_left
          focus (intro wS hSw; (try dsimp only at hSw); go_simp; first | done | with_reducible rfl)
          try go_simp
          refine wpAnyH_take (i := 24) (v := ?_) rfl (by kernel_rfl) (by kernel_rfl) (by kernel_rfl) (fun _ _ _ h => h) (Or.inl ⟨by kernel_rfl, ?_⟩) hHeld ?_
          rotate_left
          focus (intro wS hSw; (try dsimp only at hSw); go_simp; first | done | with_reducible rfl)
          try go_simp
          refine wpAnyH_take (i := 25) (v := ?_) rfl (by kernel_rfl) (by kernel_rfl) (by kernel_rfl) (fun _ _ _ h => h) (Or.inl ⟨by kernel_rfl, ?_⟩) hHeld ?_
          rotate_left
          focus (intro wS hSw; (try dsimp only at hSw); go_simp; first | done | with_reducible rfl)
          try go_simp
          refine wpAnyH_take (i := 26) (v := ?_) rfl (by kernel_rfl) (by kernel_rfl) (by kernel_rfl) (fun _ _ _ h => h) (Or.inl ⟨by kernel_rfl, ?_⟩) hHeld ?_
          rotate_left
          focus (intro wS hSw; (try dsimp only at hSw); go_simp; first | done | with_reducible rfl)
          try go_simp
          refine wpAnyH_take (i := 27) (v := ?_) rfl (by kernel_rfl) (by kernel_rfl) (by kernel_rfl) (fun _ _ _ h => h) (Or.inl ⟨by kernel_rfl, ?_⟩) hHeld ?_
          rotate_left
          focus (intro wS hSw; (try dsimp only at hSw); go_simp; first | done | with_reducible rfl)
          try go_simp
          refine wpAnyH_take (i := 28) (v := ?_) rfl (by kernel_rfl) (by kernel_rfl) (by kernel_rfl) (fun _ _ _ h => h) (Or.inl ⟨by kernel_rfl, ?_⟩) hHeld ?_
          rotate_left
          focus (intro wS hSw; (try dsimp only at hSw); go_simp; first | done | with_reducible rfl)
          try go_simp
          refine wpAnyH_take (i := 29) (v := ?_) rfl (by kernel_rfl) (by kernel_rfl) (by kernel_rfl) (fun _ _ _ h => h) (Or.inl ⟨by kernel_rfl, ?_⟩) hHeld ?_
          rotate_left
          focus (intro wS hSw; (try dsimp only at hSw); go_simp; first | done | with_reducible rfl)
          try go_simp
          refine wpAnyH_take (i := 30) (v := ?_) rfl (by kernel_rfl) (by kernel_rfl) (by kernel_rfl) (fun _ _ _ h => h) (Or.inl ⟨by kernel_rfl, ?_⟩) hHeld ?_
          rotate_left
          focus (intro wS hSw; (try dsimp only at hSw); go_simp; first | done | with_reducible rfl)
          try go_simp
          refine wpAnyH_take (i := 31) (v := ?_) rfl (by kernel_rfl) (by kernel_rfl) (by kernel_rfl) (fun _ _ _ h => h) (Or.inl ⟨by kernel_rfl, ?_⟩) hHeld ?_
          rotate_left
          focus (intro wS hSw; (try dsimp only at hSw); go_simp; first | done | with_reducible rfl)
          try go_simp
          refine wpAnyH_take (i := 32) (v := ?_) rfl (by kernel_rfl) (by kernel_rfl) (by kernel_rfl) (fun _ _ _ h => h) (Or.inl ⟨by kernel_rfl, ?_⟩) hHeld ?_
          rotate_left
          focus (intro wS hSw; (try dsimp only at hSw); go_simp; first | done | with_reducible rfl)
          try go_simp
          refine wpAnyH_take (i := 33) (v := ?_) rfl (by kernel_rfl) (by kernel_rfl) (by kernel_rfl) (fun _ _ _ h => h) (Or.inl ⟨by kernel_rfl, ?_⟩) hHeld ?_
          rotate_left
          focus (intro wS hSw; (try dsimp only at hSw); go_simp; first | done | with_reducible rfl)
          try go_simp
          refine wpAnyH_take (i := 34) (v := ?_) rfl (by kernel_rfl) (by kernel_rfl) (by kernel_rfl) (fun _ _ _ h => h) (Or.inl ⟨by kernel_rfl, ?_⟩) hHeld ?_
          rotate_left
          focus (intro wS hSw; (try dsimp only at hSw); go_simp; first | done | with_reducible rfl)
          try go_simp
          refine wpAnyH_take (i := 35) (v := ?_) rfl (by kernel_rfl) (by kernel_rfl) (by kernel_rfl) (fun _ _ _ h => h) (Or.inl ⟨by kernel_rfl, ?_⟩) hHeld ?_
          rotate_left
          focus (intro wS hSw; (try dsimp only at hSw); go_simp; first | done | with_reducible rfl)
          try go_simp
          refine wpAnyH_take (i := 37) (v := ?_) rfl (by kernel_rfl) (by kernel_rfl) (by kernel_rfl) (fun _ _ _ h => h) (Or.inl ⟨by kernel_rfl, ?_⟩) hHeld ?_
          rotate_left
          focus (intro wS hSw; (try dsimp only at hSw); go_simp; first | done | with_reducible rfl)
          try go_simp
          refine wpAnyH_take (i := 38) (v := ?_) rfl (by kernel_rfl) (by kernel_rfl) (by kernel_rfl) (fun _ _ _ h => h) (Or.inl ⟨by kernel_rfl, ?_⟩) hHeld ?_
          rotate_left
          focus (intro wS hSw; (try dsimp only at hSw); go_simp; first | done | with_reducible rfl)
          try go_simp
          refine wpAnyH_take (i := 39) (v := ?_) rfl (by kernel_rfl) (by kernel_rfl) (by kernel_rfl) (fun _ _ _ h => h) (Or.inl ⟨by kernel_rfl, ?_⟩) hHeld ?_
          rotate_left
          focus (intro wS hSw; (try dsimp only at hSw); go_simp; first | done | with_reducible rfl)
          try go_simp
          refine wpAnyH_take (i := 40) (v := ?_) rfl (by kernel_rfl) (by kernel_rfl) (by kernel_rfl) (fun _ _ _ h => h) (Or.inl ⟨by kernel_rfl, ?_⟩) hHeld ?_
          rotate_left
          focus (intro wS hSw; (try dsimp only at hSw); go_simp; first | done | with_reducible rfl)
          try go_simp
          refine wpAnyH_ready (rs := [36]) (by kernel_rfl) (by simp) (AllReadyH.cons rfl (fun K hK => ?_) AllReadyH.nil)
          go_simp
          go_wp2_with ((go_at_call 24; refine (L1.out _ _ h7.drew).mono ?_; rintro e w8 ⟨A', n', c', rfl, h8, x8⟩))
          refine hK.out _ _ (HSG.out _ _ (hq.drew.onto h8).right) (fun hHeld => ?_)
          clear hK K
          have h9 := hq.drew.onto h8
          have h9' := Has.eq h9 (congrArg (fun P => lrow (.slice A' n' c') k' * P) (star_left_comm (coreBlk q (.slice (some ⟨g, go, none⟩) k'.length cb) Ck.zero) (rrow (.slice (some ⟨g, go, none⟩) k'.length cb) k') _))
          have x9 := x7.drew.trans x8
          refine wpAnyH_ready (rs := [41]) (by kernel_rfl) (by simp) (AllReadyH.cons rfl (fun K hK => ?_) AllReadyH.nil)
          go_simp
          go_wp2_with ((go_at_call 23; refine (sameLines_any k' A' _ n' c' _ cb _ _ h9').mono ?_; rintro e w9 ⟨rfl, b9⟩))
          refine hK.out _ _ (HSG.out _ _ (h9.below b9).right) (fun hHeld => ?_)
          clear hK K
          refine wpAnyH_take (i := 42) (v := ?_) rfl (by kernel_rfl) (by kernel_rfl) (by kernel_rfl) (fun _ _ _ h => h) (Or.inl ⟨by kernel_rfl, ?_⟩) hHeld ?_
          rotate_left
          focus (intro wS hSw; (try dsimp only at hSw); go_simp; first | done | with_reducible rfl)
          try go_simp
          refine wpAnyH_take (i := 43) (v := ?_) rfl (by kernel_rfl) (by kernel_rfl) (by kernel_rfl) (fun _ _ _ h => h) (Or.inl ⟨by kernel_rfl, ?_⟩) hHeld ?_
          rotate_left
          focus (intro wS hSw; (try dsimp only at hSw); go_simp; first | done | with_reducible rfl)
          try go_simp
          refine wpAnyH_done (by kernel_rfl) ?_ _
          go_wp2_with fail
          go_roundw
          case rel =>
            have h10 := (h9.below b9).right
            exact ⟨i + 1, k', by omega, by go_num, hk', (coreAt_shut h10).p2.drop3.drop3, x9.below b9⟩
          case measure => simp [intOf]; omega
    · go_wp2_with fail
      go_ret
      exact ⟨rfl, below_of1 hr.right.right hx⟩
end Go.Proofs.Ytacnjjjdkpbeaaa
