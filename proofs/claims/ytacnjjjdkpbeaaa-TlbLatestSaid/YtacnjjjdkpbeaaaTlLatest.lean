/- The law TlbLatest: the walk. -/
import Derived.Test.YtacnjjjdkpbeaaaTlStep
namespace Go.Proofs.Ytacnjjjdkpbeaaa
open Go.RowKit
set_option maxRecDepth 100000

theorem put_one (y : Ln) (h : check y.m = 0) : Tl.put [] y = [y] := by unfold Tl.put; rw [if_pos h]; rfl
set_option maxHeartbeats 4000000 in
theorem tlbLatest_walk (A : Option Addr) (n c : Nat) (l : List Lst) (m : Mp) (p : Int) (w : World) (h : Arr w A n 6 (l.map Lst.cells)) (hok : ∀ x ∈ l, x.ok) (hmo : m.ok) (hp : i64 p) :
    Calls Try.prog 5 #[.slice A n c, .agg #[(Value.int .i64) m.page, (Value.int .i64) m.size, (Value.int .i64) m.frame, (Value.int .i64) m.rights], (Value.int .i64) p] w (Pure (Value.bool true) w) := by
  have hm := h.2.1
  have hn : l.length = n := by simpa using h.1
  have hN := Lib.hid hn
  have hA := Lib.hid h
  clear h hn
  have h0 := (has_old w).new #[(Value.int .i64) m.page, (Value.int .i64) m.size, (Value.int .i64) m.frame, (Value.int .i64) m.rights] 34
  have x0 := (Ext.refl w).alloc (.cells #[(Value.int .i64) m.page, (Value.int .i64) m.size, (Value.int .i64) m.frame, (Value.int .i64) m.rights] 34)
  have HM := Lib.hid (mapFault_any m)
  have HH := Lib.hid (fun W => refHas_any m p W hmo.1 hp)
  go_enter Try.func5, Try.ntmps5
  go_wp2_with fail
  refine (tlbBegun_any _).mono ?_; rintro e w1 ⟨rfl, hb⟩
  have h1 := h0.below hb
  have x1 := x0.below hb
  clear h0 x0 hb
  obtain ⟨m0, m1, m2, m3⟩ := h1.cells4
  by_cases hbig : 300 < n
  · go_wp2_with fail
    go_ret
    exact ⟨rfl, below_of1 h1.right x1⟩
  by_cases hc : check m = 0
  case neg =>
    have hn : (check m != 0) = true := by simpa using hc
    clear hc
    generalize check m = cm at *
    go_wp2_with fail
    refine (HM.out _).mono ?_; rintro e w2 ⟨rfl, b2⟩
    go_wp2_with fail
    go_ret
    exact ⟨rfl, below_of1 (h1.right.below b2) (x1.below b2)⟩
  rw [hc] at HM
  cases ho : over m p with
  | false =>
    rw [ho] at HH
    go_wp2_with fail
    refine (HM.out _).mono ?_; rintro e w2 ⟨rfl, b2⟩
    have h2 := h1.below b2
    have x2 := x1.below b2
    clear m0 m1 m2 m3
    obtain ⟨m0, m1, m2, m3⟩ := h2.cells4
    go_wp2_with fail
    refine (HH.out _).mono ?_; rintro e w3 ⟨rfl, b3⟩
    go_wp2_with fail
    go_ret
    exact ⟨rfl, below_of1 (h2.right.below b3) (x2.below b3)⟩
  | true =>
    rw [ho] at HH
    go_wp2_with fail
    refine (HM.out _).mono ?_; rintro e w2 ⟨rfl, b2⟩
    have h2 := h1.below b2
    have x2 := x1.below b2
    clear m0 m1 m2 m3
    obtain ⟨m0, m1, m2, m3⟩ := h2.cells4
    go_wp2_with fail
    refine (HH.out _).mono ?_; rintro e w3 ⟨rfl, b3⟩
    have h3 := h2.below b3
    have x3 := x2.below b3
    clear h1 h2 x1 x2 m0 m1 m2 m3
    go_wp2_with fail
    refine (newT _ _ h3).mono ?_; rintro e w4 ⟨q, rfl, h4, x4⟩
    have x4 := x3.trans x4
    obtain ⟨m0, m1, m2, m3⟩ := h4.right.cells4
    have hpt := putT q [] ⟨m, true⟩ _ _ Tl.Ok.nil hmo.1 h4
    rw [put_one _ hc, show decide (check (⟨m, true⟩ : Ln).m = 0) = true from decide_eq_true hc] at hpt
    go_wp2_with fail
    refine hpt.mono ?_; rintro e w5 ⟨rfl, h5, x5⟩
    have x5 := x4.trans x5
    have hk0 : Tl.Ok [(⟨m, true⟩ : Ln)] := by
      have := Tl.Ok.nil.put (⟨m, true⟩ : Ln)
      rwa [put_one _ hc] at this
    have ha0 : Tl.At [(⟨m, true⟩ : Ln)] ⟨m, true⟩ 0 := ⟨[], [], rfl, Nat.le_refl _⟩
    clear h3 x3 h4 x4 m0 m1 m2 m3 hpt HM HH
    go_wp2_with fail
    go_loopw [8, 9] (fun s8 t wr => ∃ (i o : Nat) (k : List Ln), i ≤ n ∧ t = (Value.int .i64) i ∧ s8 = (Value.int .i64) o ∧ o ≤ 5 ∧ Tl.Ok k ∧ Tl.At k ⟨m, true⟩ o ∧ Has wr (tlbAt q k * (blk w.heap.size #[(Value.int .i64) m.page, (Value.int .i64) m.size, (Value.int .i64) m.frame, (Value.int .i64) m.rights] 34 * old w w.heap.size)) ∧ Ext w wr)
      (fun _ t _ => n - (intOf t).toNat)
    case atStart => exact ⟨0, 0, _, by omega, rfl, rfl, by omega, hk0, ha0, h5, x5⟩
    case round =>
      clear h5 x5 hk0 ha0
      obtain ⟨i, o, k, hi, rfl, rfl, ho5, hk, hat, hr, hx⟩ := hrel
      by_cases hlt : i < n
      · have hil : i < l.length := by have := hN.out; omega
        obtain ⟨b, off, hb, hbl, hcc⟩ := (hA.out.old1 hr.right.right hx).at_ (i := i) (xs := (l[i]).cells) (by simp [hil])
        have hox := hok _ (List.getElem_mem hil)
        generalize l[i] = x at hcc hox
        obtain ⟨hop, hK, hM⟩ := hox
        have d0 : wr.cell? ⟨b, off + i * 6, none⟩ = some ((Value.int .i64) x.op) := hcc 0 _ rfl
        have d1 : wr.cell? ⟨b, off + i * 6 + 1, none⟩ = some ((Value.int .i64) x.k) := hcc 1 _ rfl
        have d2 : wr.cell? ⟨b, off + i * 6 + 2, none⟩ = some ((Value.int .i64) x.m.page) := hcc 2 _ rfl
        have d3 : wr.cell? ⟨b, off + i * 6 + 3, none⟩ = some ((Value.int .i64) x.m.size) := hcc 3 _ rfl
        have d4 : wr.cell? ⟨b, off + i * 6 + 4, none⟩ = some ((Value.int .i64) x.m.frame) := hcc 4 _ rfl
        have d5 : wr.cell? ⟨b, off + i * 6 + 5, none⟩ = some ((Value.int .i64) x.m.rights) := hcc 5 _ rfl
        clear hcc
        subst hb
        have hs4 := hr.new #[(Value.int .i64) x.op, (Value.int .i64) x.k, (Value.int .i64) x.m.page, (Value.int .i64) x.m.size, (Value.int .i64) x.m.frame, (Value.int .i64) x.m.rights] 36
        have x2 := hx.alloc (.cells #[(Value.int .i64) x.op, (Value.int .i64) x.k, (Value.int .i64) x.m.page, (Value.int .i64) x.m.size, (Value.int .i64) x.m.frame, (Value.int .i64) x.m.rights] 36)
        have ml := hr.right.lt
        go_upto_region 13 with fail
        generalize wr.alloc (.cells #[(Value.int .i64) x.op, (Value.int .i64) x.k, (Value.int .i64) x.m.page, (Value.int .i64) x.m.size, (Value.int .i64) x.m.frame, (Value.int .i64) x.m.rights] 36) = w4 at *
        generalize wr.heap.size = X at *
        clear d0 d1 d2 d3 d4 d5 hr hx hbl ml
        obtain ⟨c0, c1, c2, c3, c4, c5⟩ := hs4.cells6
        obtain ⟨m0, m1, m2, m3⟩ := hs4.right.right.cells4
        have cl := hs4.lt
        by_cases o1 : 1 < x.op
        · go_wp2_with fail
          go_ret
          exact ⟨rfl, below_of1 hs4.right.right.right x2⟩
        have HB := Lib.hid (fun W => both_any x.m m W hM.1 hmo.1)
        cases hmt : meet x.m m with
        | true =>
          rw [hmt] at HB
          go_wp2_with fail
          refine (HB.out _).mono ?_; rintro e w6 ⟨rfl, b6⟩
          go_wp2_with fail
          go_ret
          exact ⟨rfl, below_of1 (hs4.right.right.right.below b6) (x2.below b6)⟩
        | false =>
          rw [hmt] at HB
          have hmt' : meet m x.m = false := by rw [meet_symm]; exact hmt
          go_wp2_with fail
          refine (HB.out _).mono ?_; rintro e w6 ⟨rfl, b6⟩
          have h6 := hs4.p2.below b6
          have x6 := x2.below b6
          clear c0 c1 c2 c3 c4 c5 m0 m1 m2 m3 cl hs4 x2 HB
          obtain ⟨c0, c1, c2, c3, c4, c5⟩ := h6.right.cells6
          have cl := h6.right.lt
          have FIN : ∀ (k' : List Ln) (o' : Nat), Tl.Ok k' → Tl.At k' ⟨m, true⟩ o' → ∀ R w, Has w (tlbAt q k' * R) → Calls Try.prog 21 #[.pointer (some ⟨q, 0, none⟩), .int .i64 p] w (Pure (.tuple #[.agg #[(Value.int .i64) m.page, (Value.int .i64) m.size, (Value.int .i64) m.frame, (Value.int .i64) m.rights, Value.bool true], Value.bool true]) w) := by
            intro k' o' hk' ha' R w h
            have := findT q k' p R w hk'.lok hp h
            rw [hk'.find ha' ho] at this
            exact this
          have FIN := Lib.hid FIN
          by_cases o0 : x.op = 0
          · have HP := Lib.hid (fun R w h => putT q k ⟨x.m, false⟩ R w hk hM.1 h)
            by_cases hcx : check x.m = 0
            · have hkp := hk.put ⟨x.m, false⟩
              rw [show decide (check (⟨x.m, false⟩ : Ln).m = 0) = true from decide_eq_true hcx] at HP
              by_cases h5 : o = 5
              · generalize x.op = op at *
                subst o0
                subst h5
                go_wp2_with fail
                refine (HP.out _ _ h6).mono ?_; rintro e w7 ⟨rfl, h7, x7⟩
                go_wp2_with fail
                go_ret
                exact ⟨rfl, below_of1 h7.right.right.right (x6.trans x7)⟩
              · have hap := hat.more (by omega) (y := ⟨x.m, false⟩) hmt' hcx
                generalize Tl.put k ⟨x.m, false⟩ = k' at *
                have ho6 : ¬ (6 ≤ (o : Int) + 1) := by omega
                generalize x.op = op at *
                subst o0
                go_wp2_with fail
                refine (HP.out _ _ h6).mono ?_; rintro e w7 ⟨rfl, h7, x7⟩
                have x7 := x6.trans x7
                go_wp2_with fail
                refine (FIN.out k' _ hkp hap _ _ h7).mono ?_; rintro e w8 ⟨rfl, b8⟩
                have h8 := h7.below b8
                have x8 := x7.below b8
                obtain ⟨m0, m1, m2, m3⟩ := h8.right.p2.cells4
                have ml := h8.right.p2.lt
                go_wp2_with fail
                go_roundw
                case rel => exact ⟨i + 1, o + 1, k', by omega, by go_num, by go_num, by omega, hkp, hap, (h8.p2.right.alloc _), x8.alloc _⟩
                case measure => simp [intOf]; omega
            · rw [show decide (check (⟨x.m, false⟩ : Ln).m = 0) = false from decide_eq_false hcx, show Tl.put k ⟨x.m, false⟩ = k by unfold Tl.put; rw [if_neg hcx]] at HP
              have ho6 : ¬ (6 ≤ (o : Int)) := by omega
              generalize x.op = op at *
              subst o0
              go_wp2_with fail
              refine (HP.out _ _ h6).mono ?_; rintro e w7 ⟨rfl, h7, x7⟩
              have x7 := x6.trans x7
              go_wp2_with fail
              refine (FIN.out k _ hk hat _ _ h7).mono ?_; rintro e w8 ⟨rfl, b8⟩
              have h8 := h7.below b8
              have x8 := x7.below b8
              obtain ⟨m0, m1, m2, m3⟩ := h8.right.p2.cells4
              have ml := h8.right.p2.lt
              go_wp2_with fail
              go_roundw
              case rel => exact ⟨i + 1, o, k, by omega, by go_num, rfl, by omega, hk, hat, (h8.p2.right.alloc _), x8.alloc _⟩
              case measure => simp [intOf]; omega
          · have HD := Lib.hid (fun R w h => dropT q k x.m R w hk.lok hM.1 h)
            have hkp := hk.drop x.m
            have hap := hat.drop hmt'
            generalize Tl.drop k x.m = k' at *
            have o0' : (x.op == 0) = false := by simpa using o0
            have ho6 : ¬ (6 ≤ (o : Int)) := by omega
            go_wp2_with fail
            refine (HD.out _ _ h6).mono ?_; rintro e w7 ⟨rfl, h7, x7⟩
            have x7 := x6.trans x7
            go_wp2_with fail
            refine (FIN.out k' _ hkp hap _ _ h7).mono ?_; rintro e w8 ⟨rfl, b8⟩
            have h8 := h7.below b8
            have x8 := x7.below b8
            obtain ⟨m0, m1, m2, m3⟩ := h8.right.p2.cells4
            have ml := h8.right.p2.lt
            go_wp2_with fail
            go_roundw
            case rel => exact ⟨i + 1, o, k', by omega, by go_num, rfl, by omega, hkp, hap, (h8.p2.right.alloc _), x8.alloc _⟩
            case measure => simp [intOf]; omega
      · go_wp2_with fail
        go_ret
        exact ⟨rfl, below_of1 hr.right.right hx⟩
end Go.Proofs.Ytacnjjjdkpbeaaa
