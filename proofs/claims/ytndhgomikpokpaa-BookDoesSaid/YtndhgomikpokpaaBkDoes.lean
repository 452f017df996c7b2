/- The law BookDoes: the walk. -/
import Derived.Test.YtndhgomikpokpaaBkBegun
import Derived.Test.YtndhgomikpokpaaStp
import Derived.Test.YtndhgomikpokpaaPages3
import Derived.Deep.RegionHeld3
import Derived.Deep.Cut
namespace Go.Proofs.Ytndhgomikpokpaa
open Go.RowKit
set_option maxRecDepth 100000
theorem mpOf_get (o : Option Mp) : mpOf o = .agg #[(Value.int .i64) (o.getD Mp.zero).page, (Value.int .i64) (o.getD Mp.zero).size, (Value.int .i64) (o.getD Mp.zero).frame, (Value.int .i64) (o.getD Mp.zero).rights] := by cases o <;> rfl
set_option maxHeartbeats 8000000 in
theorem bookDoes_walk (A : Option Addr) (n c : Nat) (l : List Stp) (w : World) (h : Arr w A n 9 (l.map Stp.cells)) (hok : ∀ x ∈ l, x.ok) :
    Calls Try.prog 6 #[.slice A n c] w (Pure (Value.bool true) w) := by
  have hm := h.2.1
  have hn : l.length = n := by simpa using h.1
  have hN := Lib.hid hn
  have hA := Lib.hid h
  clear h hn
  by_cases hbig : 200 < n
  · go_enter Try.func6, Try.ntmps6
    go_wp2_with fail
    refine (bookBegun_any _).mono ?_; rintro e w1 ⟨rfl, hb⟩
    go_wp2_with fail
    go_ret
    exact ⟨rfl, hb⟩
  have h0 := has_old w
  go_enter Try.func6, Try.ntmps6
  go_wp2_with fail
  refine (bookBegun_any _).mono ?_; rintro e w1 ⟨rfl, hb⟩
  have h1 := h0.below hb
  have x1 := (Ext.refl w).below hb
  clear h0 hb
  go_wp2_with fail
  refine (newB _ _ h1).mono ?_; rintro e w2 ⟨p, rfl, h2, x2⟩
  have h3 := h2.new #[.slice none 0 0] 84
  have h4 : Has (w2.alloc (.cells #[.slice none 0 0] 84)) (pagesAt w2.heap.size [] * (bookAt p [] * old w w.heap.size)) := pagesAt_shut (A := none) (c := 0) (Has.p2 (Has.rowNil h3))
  have h5 := h4.p2
  have x5 := (x1.trans x2).alloc (.cells #[.slice none 0 0] 84)
  clear h1 h2 h3 h4 x1 x2
  generalize hq : w2.heap.size = q at h5
  have Q := Lib.hid hq
  clear hq
  go_wp2_with fail
  rw [Q.out]
  go_loopw [5] (fun t wr => ∃ (i : Nat) (k : List Mp), i ≤ n ∧ t = (Value.int .i64) i ∧ Bk.Ok k ∧ Has wr (bookAt p k * (pagesAt q k * old w w.heap.size)) ∧ Ext w wr) (fun t _ => n - (intOf t).toNat)
  case atStart => exact ⟨0, [], by omega, rfl, Bk.Ok.nil, h5, x5⟩
  case round =>
    clear h5 x5
    obtain ⟨i, k, hi, rfl, hk, hr, hx⟩ := hrel
    by_cases hlt : i < n
    · have hil : i < l.length := by have := hN.out; omega
      obtain ⟨b, off, hbe, hb, c0, c1, c2, c3, c4, c5, c6, c7, c8⟩ := (hA.out.old1 hr.right.right hx).stp hil
      have hxo := hok _ (List.getElem_mem hil)
      generalize l[i] = x at c0 c1 c2 c3 c4 c5 c6 c7 c8 hxo
      subst hbe
      have hle := hk.le
      have hs2 : Has (wr.alloc (.cells #[(Value.int .i64) x.kind, (Value.int .i64) x.core, (Value.int .i64) x.m.page, (Value.int .i64) x.m.size, (Value.int .i64) x.m.frame, (Value.int .i64) x.m.rights, (Value.int .i64) x.a.page, (Value.int .i64) x.a.kind, Value.bool x.a.user] 31)) (bookAt p k * (pagesAt q k * (blk wr.heap.size #[(Value.int .i64) x.kind, (Value.int .i64) x.core, (Value.int .i64) x.m.page, (Value.int .i64) x.m.size, (Value.int .i64) x.m.frame, (Value.int .i64) x.m.rights, (Value.int .i64) x.a.page, (Value.int .i64) x.a.kind, Value.bool x.a.user] 31 * old w w.heap.size))) := (hr.new #[(Value.int .i64) x.kind, (Value.int .i64) x.core, (Value.int .i64) x.m.page, (Value.int .i64) x.m.size, (Value.int .i64) x.m.frame, (Value.int .i64) x.m.rights, (Value.int .i64) x.a.page, (Value.int .i64) x.a.kind, Value.bool x.a.user] 31).eq (by ac_rfl)
      have x2 := hx.alloc (.cells #[(Value.int .i64) x.kind, (Value.int .i64) x.core, (Value.int .i64) x.m.page, (Value.int .i64) x.m.size, (Value.int .i64) x.m.frame, (Value.int .i64) x.m.rights, (Value.int .i64) x.a.page, (Value.int .i64) x.a.kind, Value.bool x.a.user] 31)
      go_upto_region 10 with fail
      generalize wr.alloc (.cells #[(Value.int .i64) x.kind, (Value.int .i64) x.core, (Value.int .i64) x.m.page, (Value.int .i64) x.m.size, (Value.int .i64) x.m.frame, (Value.int .i64) x.m.rights, (Value.int .i64) x.a.page, (Value.int .i64) x.a.kind, Value.bool x.a.user] 31) = w2 at *
      generalize wr.heap.size = X at *
      clear c0 c1 c2 c3 c4 c5 c6 c7 c8 hr hx hb
      have K1 := Lib.hid (fun R W h => copyB p k R W (by omega) h)
      have K2 := Lib.hid (fun R W h => copyP q k R W (by omega) h)
      go_wp2_with fail
      refine (K1.out _ _ hs2).mono ?_; rintro e w3 ⟨p', rfl, h3, x3⟩
      have h3' : Has w3 (pagesAt q k * (bookAt p' k * (bookAt p k * (blk X #[(Value.int .i64) x.kind, (Value.int .i64) x.core, (Value.int .i64) x.m.page, (Value.int .i64) x.m.size, (Value.int .i64) x.m.frame, (Value.int .i64) x.m.rights, (Value.int .i64) x.a.page, (Value.int .i64) x.a.kind, Value.bool x.a.user] 31 * old w w.heap.size)))) := h3.eq (by ac_rfl)
      go_wp2_with fail
      refine (K2.out _ _ h3').mono ?_; rintro e w4 ⟨q', rfl, h4, x4⟩
      have h5 := (h4.new #[(Value.int .i64) 0, (Value.int .i64) 0, (Value.int .i64) 0, (Value.int .i64) 0] 27).new #[(Value.int .i64) 0, (Value.int .i64) 0, (Value.int .i64) 0, (Value.int .i64) 0] 27
      simp only [World.size_alloc] at h5
      have x5 := (((x2.trans x3).trans x4).alloc (.cells #[(Value.int .i64) 0, (Value.int .i64) 0, (Value.int .i64) 0, (Value.int .i64) 0] 27)).alloc (.cells #[(Value.int .i64) 0, (Value.int .i64) 0, (Value.int .i64) 0, (Value.int .i64) 0] 27)
      have h6 : Has _ (bookAt p k * (pagesAt q k * (blk w4.heap.size #[(Value.int .i64) 0, (Value.int .i64) 0, (Value.int .i64) 0, (Value.int .i64) 0] 27 * (blk (w4.heap.size + 1) #[(Value.int .i64) 0, (Value.int .i64) 0, (Value.int .i64) 0, (Value.int .i64) 0] 27 * (blk X #[(Value.int .i64) x.kind, (Value.int .i64) x.core, (Value.int .i64) x.m.page, (Value.int .i64) x.m.size, (Value.int .i64) x.m.frame, (Value.int .i64) x.m.rights, (Value.int .i64) x.a.page, (Value.int .i64) x.a.kind, Value.bool x.a.user] 31 * (bookAt p' k * (pagesAt q' k * old w w.heap.size))))))) := h5.eq (by ac_rfl)
      clear hs2 h3 h3' h4 h5 x2 x3 x4 K1 K2
      have c0 := h6.right.right.right.right.cell 0
      have cl := h6.right.right.right.right.lt
      go_upto_block 2 with fail
      generalize (w4.alloc (.cells #[(Value.int .i64) 0, (Value.int .i64) 0, (Value.int .i64) 0, (Value.int .i64) 0] 27)).alloc (.cells #[(Value.int .i64) 0, (Value.int .i64) 0, (Value.int .i64) 0, (Value.int .i64) 0] 27) = w5 at *
      generalize w4.heap.size + 1 = M2 at *
      generalize w4.heap.size = M1 at *
      clear c0 cl
      obtain ⟨c0, c1, c2, c3, c4, c5, c6, c7, c8⟩ := h6.right.right.right.right.cells9
      have cl := h6.right.right.right.right.lt
      go_cut [11, 12] (fun s11 s12 wx => ∃ (k' : List Mp) (cc : Int) (y : Mp), Bk.Ok k' ∧ s11 = (Value.int .i64) cc ∧ s12 = (Value.int .i64) cc ∧ Has wx (bookAt p k' * (pagesAt q k' * (blk M1 #[(Value.int .i64) y.page, (Value.int .i64) y.size, (Value.int .i64) y.frame, (Value.int .i64) y.rights] 27 * (blk M2 #[(Value.int .i64) y.page, (Value.int .i64) y.size, (Value.int .i64) y.frame, (Value.int .i64) y.rights] 27 * (blk X #[(Value.int .i64) x.kind, (Value.int .i64) x.core, (Value.int .i64) x.m.page, (Value.int .i64) x.m.size, (Value.int .i64) x.m.frame, (Value.int .i64) x.m.rights, (Value.int .i64) x.a.page, (Value.int .i64) x.a.kind, Value.bool x.a.user] 31 * (bookAt p' k * (pagesAt q' k * old w w.heap.size))))))) ∧ Ext w wx)
      case first =>
        --[A
        have HCE := Lib.hid (fun (W : World) (P : HProp) (h : Has W (blk X #[(Value.int .i64) x.kind, (Value.int .i64) x.core, (Value.int .i64) x.m.page, (Value.int .i64) x.m.size, (Value.int .i64) x.m.frame, (Value.int .i64) x.m.rights, (Value.int .i64) x.a.page, (Value.int .i64) x.a.kind, Value.bool x.a.user] 31 * P)) => h.cells9)
        by_cases o1 : x.kind = 1
        · as_aux_lemma =>
            have d1 : (x.kind == 1) = true := by simp [o1]
            have hk' := hk.add x.m
            have P1 := Lib.hid (fun R W h => addB p k x.m R W hk hxo.2.2.1.1 h)
            have P2 := Lib.hid (fun R W h => addP q k x.m R W hk hxo.2.2.1.1 h)
            generalize Bk.addC k x.m = cc at *
            generalize Bk.add k x.m = k' at *
            clear o1
            go_wp2_with fail
            go_region_held3 (fun w' => w'.cell? ⟨X, 2, none⟩ = some ((Value.int .i64) x.m.page) ∧ w'.cell? ⟨X, 3, none⟩ = some ((Value.int .i64) x.m.size) ∧ w'.cell? ⟨X, 4, none⟩ = some ((Value.int .i64) x.m.frame) ∧ w'.cell? ⟨X, 5, none⟩ = some ((Value.int .i64) x.m.rights)) (first | go_keep | exact ⟨g2, g3, g4, g5⟩) (first | (go_at_call 18; refine (P1.out _ _ h6.drew).mono ?_; rintro e w7 ⟨rfl, h7, x7⟩; obtain ⟨g0, g1, g2, g3, g4, g5, g6, g7, g8⟩ := h7.right.right.right.right.cells9) | (go_at_call 39; refine (P2.out _ _ h7.p2).mono ?_; rintro e w8 ⟨rfl, h8, x8⟩; obtain ⟨g0, g1, g2, g3, g4, g5, g6, g7, g8⟩ := h8.right.right.right.right.cells9))
            go_wp2_with fail
            go_meet
            case rel => exact ⟨k', cc, Mp.zero, hk', rfl, rfl, h8.p2, (x5.drew.trans x7).trans x8⟩
        have d1 : (x.kind == 1) = false := by simpa using o1
        by_cases o2 : x.kind = 2
        · as_aux_lemma =>
            have d2 : (x.kind == 2) = true := by simp [o2]
            have hk' := hk.dropL x.m.page
            have P1 := Lib.hid (fun R W h => dropB p k x.m.page R W hk hxo.2.2.1.1 h)
            have P2 := Lib.hid (fun R W h => dropP q k x.m.page R W hk hxo.2.2.1.1 h)
            rw [mpOf_get] at P1 P2
            generalize Bk.dropC k x.m.page = cc at *
            generalize (Bk.dropR k x.m.page).getD Mp.zero = y at *
            generalize Bk.dropL k x.m.page = k' at *
            clear o2
            go_wp2_with (first | (go_at_call 17; refine (P1.out _ _ h6).mono ?_; rintro e w7 ⟨rfl, h7, x7⟩; obtain ⟨g0, g1, g2, g3⟩ := h7.right.right.cells4; obtain ⟨f0, f1, f2, f3⟩ := h7.right.right.frees4; have fl := h7.right.right.lt; obtain ⟨c0, c1, c2, c3, c4, c5, c6, c7, c8⟩ := h7.right.right.right.right.cells9; have cl := h7.right.right.right.right.lt; have hne : M1 ≠ X := Has.ne (h7.right.right.eq (star_left_comm _ _ _) |>.right); have hne' := hne.symm) | fail)
            have h7' : Has w7 (blk M1 #[(Value.int .i64) 0, (Value.int .i64) 0, (Value.int .i64) 0, (Value.int .i64) 0] 27 * (bookAt p k' * (pagesAt q k * (blk M2 #[(Value.int .i64) 0, (Value.int .i64) 0, (Value.int .i64) 0, (Value.int .i64) 0] 27 * (blk X #[(Value.int .i64) x.kind, (Value.int .i64) x.core, (Value.int .i64) x.m.page, (Value.int .i64) x.m.size, (Value.int .i64) x.m.frame, (Value.int .i64) x.m.rights, (Value.int .i64) x.a.page, (Value.int .i64) x.a.kind, Value.bool x.a.user] 31 * (bookAt p' k * (pagesAt q' k * old w w.heap.size))))))) := h7.eq (by ac_rfl)
            have h8 : Has ((((w7.setCell ⟨M1, 0, none⟩ ((Value.int .i64) y.page)).setCell ⟨M1, 1, none⟩ ((Value.int .i64) y.size)).setCell ⟨M1, 2, none⟩ ((Value.int .i64) y.frame)).setCell ⟨M1, 3, none⟩ ((Value.int .i64) y.rights)) (pagesAt q k * (bookAt p k' * (blk M1 #[(Value.int .i64) y.page, (Value.int .i64) y.size, (Value.int .i64) y.frame, (Value.int .i64) y.rights] 27 * (blk M2 #[(Value.int .i64) 0, (Value.int .i64) 0, (Value.int .i64) 0, (Value.int .i64) 0] 27 * (blk X #[(Value.int .i64) x.kind, (Value.int .i64) x.core, (Value.int .i64) x.m.page, (Value.int .i64) x.m.size, (Value.int .i64) x.m.frame, (Value.int .i64) x.m.rights, (Value.int .i64) x.a.page, (Value.int .i64) x.a.kind, Value.bool x.a.user] 31 * (bookAt p' k * (pagesAt q' k * old w w.heap.size))))))) := (h7'.set4 _ _ _ _).eq (by ac_rfl)
            have x8 : Ext w _ := ((((x5.trans x7).set ⟨M1, 0, none⟩ ((Value.int .i64) y.page)).set ⟨M1, 1, none⟩ ((Value.int .i64) y.size)).set ⟨M1, 2, none⟩ ((Value.int .i64) y.frame)).set ⟨M1, 3, none⟩ ((Value.int .i64) y.rights)
            clear h6 x5 h7 x7 h7' g0 g1 g2 g3 f0 f1 f2 f3 fl c0 c1 c2 c3 c4 c5 c6 c7 c8 cl hne hne'
            refine (P2.out _ _ h8).mono ?_; rintro e w9 ⟨rfl, h9, x9⟩
            have h10 : Has w9 (blk M2 #[(Value.int .i64) 0, (Value.int .i64) 0, (Value.int .i64) 0, (Value.int .i64) 0] 27 * (bookAt p k' * (pagesAt q k' * (blk M1 #[(Value.int .i64) y.page, (Value.int .i64) y.size, (Value.int .i64) y.frame, (Value.int .i64) y.rights] 27 * (blk X #[(Value.int .i64) x.kind, (Value.int .i64) x.core, (Value.int .i64) x.m.page, (Value.int .i64) x.m.size, (Value.int .i64) x.m.frame, (Value.int .i64) x.m.rights, (Value.int .i64) x.a.page, (Value.int .i64) x.a.kind, Value.bool x.a.user] 31 * (bookAt p' k * (pagesAt q' k * old w w.heap.size))))))) := h9.eq (by ac_rfl)
            have x10 := x8.trans x9
            obtain ⟨g0, g1, g2, g3⟩ := h10.cells4
            obtain ⟨f0, f1, f2, f3⟩ := h10.frees4
            have fl := h10.lt
            clear h8 x8 h9 x9
            go_wp2_with fail
            go_meet
            case rel => exact ⟨k', cc, y, hk', rfl, rfl, (h10.set4 _ _ _ _).eq (by ac_rfl), (((x10.set _ _).set _ _).set _ _).set _ _⟩
        have d2 : (x.kind == 2) = false := by simpa using o2
        by_cases o3 : x.kind = 3
        · as_aux_lemma =>
            have d3 : (x.kind == 3) = true := by simp [o3]
            have hk' := hk.protL x.m.page x.m.rights
            have P1 := Lib.hid (fun R W h => protectB p k x.m.page x.m.rights R W hk hxo.2.2.1.1 h)
            have P2 := Lib.hid (fun R W h => protectP q k x.m.page x.m.rights R W hk hxo.2.2.1.1 h)
            rw [mpOf_get] at P1 P2
            generalize Bk.protC k x.m.page x.m.rights = cc at *
            generalize (Bk.protR k x.m.page x.m.rights).getD Mp.zero = y at *
            generalize Bk.protL k x.m.page x.m.rights = k' at *
            clear o3
            go_wp2_with (first | (go_at_call 32; refine (P1.out _ _ h6).mono ?_; rintro e w7 ⟨rfl, h7, x7⟩; obtain ⟨g0, g1, g2, g3⟩ := h7.right.right.cells4; obtain ⟨f0, f1, f2, f3⟩ := h7.right.right.frees4; have fl := h7.right.right.lt; obtain ⟨c0, c1, c2, c3, c4, c5, c6, c7, c8⟩ := h7.right.right.right.right.cells9; have cl := h7.right.right.right.right.lt; have hne : M1 ≠ X := Has.ne (h7.right.right.eq (star_left_comm _ _ _) |>.right); have hne' := hne.symm) | fail)
            have h7' : Has w7 (blk M1 #[(Value.int .i64) 0, (Value.int .i64) 0, (Value.int .i64) 0, (Value.int .i64) 0] 27 * (bookAt p k' * (pagesAt q k * (blk M2 #[(Value.int .i64) 0, (Value.int .i64) 0, (Value.int .i64) 0, (Value.int .i64) 0] 27 * (blk X #[(Value.int .i64) x.kind, (Value.int .i64) x.core, (Value.int .i64) x.m.page, (Value.int .i64) x.m.size, (Value.int .i64) x.m.frame, (Value.int .i64) x.m.rights, (Value.int .i64) x.a.page, (Value.int .i64) x.a.kind, Value.bool x.a.user] 31 * (bookAt p' k * (pagesAt q' k * old w w.heap.size))))))) := h7.eq (by ac_rfl)
            have h8 : Has ((((w7.setCell ⟨M1, 0, none⟩ ((Value.int .i64) y.page)).setCell ⟨M1, 1, none⟩ ((Value.int .i64) y.size)).setCell ⟨M1, 2, none⟩ ((Value.int .i64) y.frame)).setCell ⟨M1, 3, none⟩ ((Value.int .i64) y.rights)) (pagesAt q k * (bookAt p k' * (blk M1 #[(Value.int .i64) y.page, (Value.int .i64) y.size, (Value.int .i64) y.frame, (Value.int .i64) y.rights] 27 * (blk M2 #[(Value.int .i64) 0, (Value.int .i64) 0, (Value.int .i64) 0, (Value.int .i64) 0] 27 * (blk X #[(Value.int .i64) x.kind, (Value.int .i64) x.core, (Value.int .i64) x.m.page, (Value.int .i64) x.m.size, (Value.int .i64) x.m.frame, (Value.int .i64) x.m.rights, (Value.int .i64) x.a.page, (Value.int .i64) x.a.kind, Value.bool x.a.user] 31 * (bookAt p' k * (pagesAt q' k * old w w.heap.size))))))) := (h7'.set4 _ _ _ _).eq (by ac_rfl)
            have x8 : Ext w _ := ((((x5.trans x7).set ⟨M1, 0, none⟩ ((Value.int .i64) y.page)).set ⟨M1, 1, none⟩ ((Value.int .i64) y.size)).set ⟨M1, 2, none⟩ ((Value.int .i64) y.frame)).set ⟨M1, 3, none⟩ ((Value.int .i64) y.rights)
            clear h6 x5 h7 x7 h7' g0 g1 g2 g3 f0 f1 f2 f3 fl c0 c1 c2 c3 c4 c5 c6 c7 c8 cl hne hne'
            refine (P2.out _ _ h8).mono ?_; rintro e w9 ⟨rfl, h9, x9⟩
            have h10 : Has w9 (blk M2 #[(Value.int .i64) 0, (Value.int .i64) 0, (Value.int .i64) 0, (Value.int .i64) 0] 27 * (bookAt p k' * (pagesAt q k' * (blk M1 #[(Value.int .i64) y.page, (Value.int .i64) y.size, (Value.int .i64) y.frame, (Value.int .i64) y.rights] 27 * (blk X #[(Value.int .i64) x.kind, (Value.int .i64) x.core, (Value.int .i64) x.m.page, (Value.int .i64) x.m.size, (Value.int .i64) x.m.frame, (Value.int .i64) x.m.rights, (Value.int .i64) x.a.page, (Value.int .i64) x.a.kind, Value.bool x.a.user] 31 * (bookAt p' k * (pagesAt q' k * old w w.heap.size))))))) := h9.eq (by ac_rfl)
            have x10 := x8.trans x9
            obtain ⟨g0, g1, g2, g3⟩ := h10.cells4
            obtain ⟨f0, f1, f2, f3⟩ := h10.frees4
            have fl := h10.lt
            clear h8 x8 h9 x9
            go_wp2_with fail
            go_meet
            case rel => exact ⟨k', cc, y, hk', rfl, rfl, (h10.set4 _ _ _ _).eq (by ac_rfl), (((x10.set _ _).set _ _).set _ _).set _ _⟩
        have d3 : (x.kind == 3) = false := by simpa using o3
        as_aux_lemma =>
          go_wp2_with fail
          go_meet
          case rel => exact ⟨k, 0, Mp.zero, hk, rfl, rfl, h6, x5⟩
        --A]
      case rest => as_aux_lemma =>
        obtain ⟨k', cc, y, hk', rfl, rfl, hw, x2⟩ := hcut
        clear c0 c1 c2 c3 c4 c5 c6 c7 c8 cl h6 x5
        have hle' := hk'.le
        have hw2 : Has wc (pagesAt q k' * (pagesAt q' k * (blk M1 #[(Value.int .i64) y.page, (Value.int .i64) y.size, (Value.int .i64) y.frame, (Value.int .i64) y.rights] 27 * (blk M2 #[(Value.int .i64) y.page, (Value.int .i64) y.size, (Value.int .i64) y.frame, (Value.int .i64) y.rights] 27 * (blk X #[(Value.int .i64) x.kind, (Value.int .i64) x.core, (Value.int .i64) x.m.page, (Value.int .i64) x.m.size, (Value.int .i64) x.m.frame, (Value.int .i64) x.m.rights, (Value.int .i64) x.a.page, (Value.int .i64) x.a.kind, Value.bool x.a.user] 31 * (bookAt p k' * (bookAt p' k * old w w.heap.size))))))) := hw.eq (by ac_rfl)
        obtain ⟨A1, c1, hw3⟩ := pagesAt_open hw2
        obtain ⟨A2, c2, hw4⟩ := pagesAt_open ((hw3.eq (by ac_rfl)) : Has wc (pagesAt q' k * (blk q #[.slice A1 k'.length c1] 84 * (mrow (.slice A1 k'.length c1) k' * (blk M1 #[(Value.int .i64) y.page, (Value.int .i64) y.size, (Value.int .i64) y.frame, (Value.int .i64) y.rights] 27 * (blk M2 #[(Value.int .i64) y.page, (Value.int .i64) y.size, (Value.int .i64) y.frame, (Value.int .i64) y.rights] 27 * (blk X #[(Value.int .i64) x.kind, (Value.int .i64) x.core, (Value.int .i64) x.m.page, (Value.int .i64) x.m.size, (Value.int .i64) x.m.frame, (Value.int .i64) x.m.rights, (Value.int .i64) x.a.page, (Value.int .i64) x.a.kind, Value.bool x.a.user] 31 * (bookAt p k' * (bookAt p' k * old w w.heap.size)))))))))
        have hF : Has wc (blk q #[.slice A1 k'.length c1] 84 * (mrow (.slice A1 k'.length c1) k' * (blk q' #[.slice A2 k.length c2] 84 * (mrow (.slice A2 k.length c2) k * (blk M1 #[(Value.int .i64) y.page, (Value.int .i64) y.size, (Value.int .i64) y.frame, (Value.int .i64) y.rights] 27 * (blk M2 #[(Value.int .i64) y.page, (Value.int .i64) y.size, (Value.int .i64) y.frame, (Value.int .i64) y.rights] 27 * (blk X #[(Value.int .i64) x.kind, (Value.int .i64) x.core, (Value.int .i64) x.m.page, (Value.int .i64) x.m.size, (Value.int .i64) x.m.frame, (Value.int .i64) x.m.rights, (Value.int .i64) x.a.page, (Value.int .i64) x.a.kind, Value.bool x.a.user] 31 * (bookAt p k' * (bookAt p' k * old w w.heap.size))))))))) := hw4.eq (by ac_rfl)
        have HS := Lib.hid (fun (W : World) (h : Has W (blk q #[.slice A1 k'.length c1] 84 * (mrow (.slice A1 k'.length c1) k' * (blk q' #[.slice A2 k.length c2] 84 * (mrow (.slice A2 k.length c2) k * (blk M1 #[(Value.int .i64) y.page, (Value.int .i64) y.size, (Value.int .i64) y.frame, (Value.int .i64) y.rights] 27 * (blk M2 #[(Value.int .i64) y.page, (Value.int .i64) y.size, (Value.int .i64) y.frame, (Value.int .i64) y.rights] 27 * (blk X #[(Value.int .i64) x.kind, (Value.int .i64) x.core, (Value.int .i64) x.m.page, (Value.int .i64) x.m.size, (Value.int .i64) x.m.frame, (Value.int .i64) x.m.rights, (Value.int .i64) x.a.page, (Value.int .i64) x.a.kind, Value.bool x.a.user] 31 * (bookAt p k' * (bookAt p' k * old w w.heap.size)))))))))) => (⟨h.cell 0, h.right.right.cell 0, h.right.right.right.right.cells4, h.right.right.right.right.right.cells4⟩ : W.cell? ⟨q, 0, none⟩ = some (.slice A1 k'.length c1) ∧ W.cell? ⟨q', 0, none⟩ = some (.slice A2 k.length c2) ∧ (W.cell? ⟨M1, 0, none⟩ = some ((Value.int .i64) y.page) ∧ W.cell? ⟨M1, 1, none⟩ = some ((Value.int .i64) y.size) ∧ W.cell? ⟨M1, 2, none⟩ = some ((Value.int .i64) y.frame) ∧ W.cell? ⟨M1, 3, none⟩ = some ((Value.int .i64) y.rights)) ∧ (W.cell? ⟨M2, 0, none⟩ = some ((Value.int .i64) y.page) ∧ W.cell? ⟨M2, 1, none⟩ = some ((Value.int .i64) y.size) ∧ W.cell? ⟨M2, 2, none⟩ = some ((Value.int .i64) y.frame) ∧ W.cell? ⟨M2, 3, none⟩ = some ((Value.int .i64) y.rights))))
        clear hw hw2 hw3 hw4
        have L1 := Lib.hid (fun R W h => listB p k' R W (by omega) h)
        have L2 := Lib.hid (fun R W h => listB p' k R W (by omega) h)
        have hS := HS.out _ hF
        have ql := hF.lt
        have ql' := hF.right.right.lt
        go_wp2_with fail
        refine wp_region_held_drew (S := fun w' => w'.cell? ⟨q, 0, none⟩ = some (.slice A1 k'.length c1) ∧ w'.cell? ⟨q', 0, none⟩ = some (.slice A2 k.length c2) ∧ (w'.cell? ⟨M1, 0, none⟩ = some ((Value.int .i64) y.page) ∧ w'.cell? ⟨M1, 1, none⟩ = some ((Value.int .i64) y.size) ∧ w'.cell? ⟨M1, 2, none⟩ = some ((Value.int .i64) y.frame) ∧ w'.cell? ⟨M1, 3, none⟩ = some ((Value.int .i64) y.rights)) ∧ (w'.cell? ⟨M2, 0, none⟩ = some ((Value.int .i64) y.page) ∧ w'.cell? ⟨M2, 1, none⟩ = some ((Value.int .i64) y.size) ∧ w'.cell? ⟨M2, 2, none⟩ = some ((Value.int .i64) y.frame) ∧ w'.cell? ⟨M2, 3, none⟩ = some ((Value.int .i64) y.rights))) (by kernel_rfl) hS (fun hHeld => ?_)
        refine wpAnyH_take (i := 0) (v := ?_) rfl (by kernel_rfl) (by kernel_rfl) (by kernel_rfl) (fun _ _ _ h => h) (Or.inl ⟨by kernel_rfl, ?_⟩) hHeld ?_
        rotate_left
        focus (intro wS hSw; (try dsimp only at hSw); go_simp; first | done | with_reducible rfl)
        try go_simp
        refine wpAnyH_take (i := 1) (v := ?_) rfl (by kernel_rfl) (by kernel_rfl) (by kernel_rfl) (fun _ _ _ h => h) (Or.inl ⟨by kernel_rfl, ?_⟩) hHeld ?_
        rotate_left
        focus (intro wS hSw; (try dsimp only at hSw); go_simp; first | done | with_reducible rfl)
        try go_simp
        refine wpAnyH_take (i := 2) (v := ?_) rfl (by kernel_rfl) (by kernel_rfl) (by kernel_rfl) (fun _ _ _ h => h) (Or.inl ⟨by kernel_rfl, ?_⟩) hHeld ?_
        rotate_left
        focus (intro wS hSw; (try dsimp only at hSw); go_simp; first | done | with_reducible rfl)
        try go_simp
        refine wpAnyH_take (i := 3) (v := ?_) rfl (by kernel_rfl) (by kernel_rfl) (by kernel_rfl) (fun _ _ _ h => h) (Or.inl ⟨by kernel_rfl, ?_⟩) hHeld ?_
        rotate_left
        focus (intro wS hSw; (try dsimp only at hSw); go_simp; first | done | with_reducible rfl)
        try go_simp
        refine wpAnyH_take (i := 4) (v := ?_) rfl (by kernel_rfl) (by kernel_rfl) (by kernel_rfl) (fun _ _ _ h => h) (Or.inl ⟨by kernel_rfl, ?_⟩) hHeld ?_
        rotate_left
        focus (intro wS hSw; (try dsimp only at hSw); go_simp; first | done | with_reducible rfl)
        try go_simp
        refine wpAnyH_take (i := 5) (v := ?_) rfl (by kernel_rfl) (by kernel_rfl) (by kernel_rfl) (fun _ _ _ h => h) (Or.inl ⟨by kernel_rfl, ?_⟩) hHeld ?_
        rotate_left
        focus (intro wS hSw; (try dsimp only at hSw); go_simp; first | done | with_reducible rfl)
        try go_simp
        refine wpAnyH_take (i := 6) (v := ?_) rfl (by kernel_rfl) (by kernel_rfl) (by kernel_rfl) (fun _ _ _ h => h) (Or.inl ⟨by kernel_rfl, ?_⟩) hHeld ?_
        rotate_left
        focus (intro wS hSw; (try dsimp only at hSw); go_simp; first | done | with_reducible rfl)
        try go_simp
        refine wpAnyH_take (i := 7) (v := ?_) rfl (by kernel_rfl) (by kernel_rfl) (by kernel_rfl) (fun _ _ _ h => h) (Or.inl ⟨by kernel_rfl, ?_⟩) hHeld ?_
        rotate_left
        focus (intro wS hSw; (try dsimp only at hSw); go_simp; first | done | with_reducible rfl)
        try go_simp
        refine wpAnyH_take (i := 8) (v := ?_) rfl (by kernel_rfl) (by kernel_rfl) (by kernel_rfl) (fun _ _ _ h => h) (Or.inl ⟨by kernel_rfl, ?_⟩) hHeld ?_
        rotate_left
        focus (intro wS hSw; (try dsimp only at hSw); go_simp; first | done | with_reducible rfl)
        try go_simp
        refine wpAnyH_take (i := 9) (v := ?_) rfl (by kernel_rfl) (by kernel_rfl) (by kernel_rfl) (fun _ _ _ h => h) (Or.inl ⟨by kernel_rfl, ?_⟩) hHeld ?_
        rotate_left
        focus (intro wS hSw; (try dsimp only at hSw); go_simp; first | done | with_reducible rfl)
        try go_simp
        refine wpAnyH_take (i := 11) (v := ?_) rfl (by kernel_rfl) (by kernel_rfl) (by kernel_rfl) (fun _ _ _ h => h) (Or.inl ⟨by kernel_rfl, ?_⟩) hHeld ?_
        rotate_left
        focus (intro wS hSw; (try dsimp only at hSw); go_simp; first | done | with_reducible rfl)
        try go_simp
        refine wpAnyH_take (i := 12) (v := ?_) rfl (by kernel_rfl) (by kernel_rfl) (by kernel_rfl) (fun _ _ _ h => h) (Or.inl ⟨by kernel_rfl, ?_⟩) hHeld ?_
        rotate_left
        focus (intro wS hSw; (try dsimp only at hSw); go_simp; first | done | with_reducible rfl)
        try go_simp
        refine wpAnyH_take (i := 13) (v := ?_) rfl (by kernel_rfl) (by kernel_rfl) (by kernel_rfl) (fun _ _ _ h => h) (Or.inl ⟨by kernel_rfl, ?_⟩) hHeld ?_
        rotate_left
        focus (intro wS hSw; (try dsimp only at hSw); go_simp; first | done | with_reducible rfl)
        try go_simp
        refine wpAnyH_take (i := 14) (v := ?_) rfl (by kernel_rfl) (by kernel_rfl) (by kernel_rfl) (fun _ _ _ h => h) (Or.inl ⟨by kernel_rfl, ?_⟩) hHeld ?_
        rotate_left
        focus (intro wS hSw; (try dsimp only at hSw); go_simp; first | done | with_reducible rfl)
        try go_simp
        refine wpAnyH_ready (rs := [10]) (by kernel_rfl) (by simp) (AllReadyH.cons rfl (fun K hK => ?_) AllReadyH.nil)
        go_simp
        go_wp2_with ((go_at_call 19; refine (L1.out (blk q #[.slice A1 k'.length c1] 84 * (mrow (.slice A1 k'.length c1) k' * (blk q' #[.slice A2 k.length c2] 84 * (mrow (.slice A2 k.length c2) k * (blk M1 #[(Value.int .i64) y.page, (Value.int .i64) y.size, (Value.int .i64) y.frame, (Value.int .i64) y.rights] 27 * (blk M2 #[(Value.int .i64) y.page, (Value.int .i64) y.size, (Value.int .i64) y.frame, (Value.int .i64) y.rights] 27 * (blk X #[(Value.int .i64) x.kind, (Value.int .i64) x.core, (Value.int .i64) x.m.page, (Value.int .i64) x.m.size, (Value.int .i64) x.m.frame, (Value.int .i64) x.m.rights, (Value.int .i64) x.a.page, (Value.int .i64) x.a.kind, Value.bool x.a.user] 31 * (bookAt p' k * old w w.heap.size)))))))) _ (hF.drew.eq (by ac_rfl))).mono ?_; rintro e w8 ⟨A', n', c', rfl, h8, x8⟩))
        refine hK.out _ _ (HS.out _ (hF.drew.onto' h8).right) (fun hHeld => ?_)
        clear hK K
        have h9 := hF.drew.onto' h8
        have x9 := x2.drew.trans x8
        have h9s : Has w8 (mrow (.slice A' n' c') k' * (mrow (.slice A1 k'.length c1) k' * _)) := h9.eq (congrArg (fun P => mrow (.slice A' n' c') k' * P) (star_left_comm _ _ _))
        refine wpAnyH_ready (rs := [15]) (by kernel_rfl) (by simp) (AllReadyH.cons rfl (fun K hK => ?_) AllReadyH.nil)
        go_simp
        go_wp2_with ((go_at_call 20; refine (sameMaps_any k' A' A1 n' c' _ c1 _ _ h9s).mono ?_; rintro e w9 ⟨rfl, b9⟩))
        refine hK.out _ _ (HS.out _ (h9.right.below b9)) (fun hHeld => ?_)
        clear hK K
        have hG : Has w9 (blk q #[.slice A1 k'.length c1] 84 * (mrow (.slice A1 k'.length c1) k' * (blk q' #[.slice A2 k.length c2] 84 * (mrow (.slice A2 k.length c2) k * (blk M1 #[(Value.int .i64) y.page, (Value.int .i64) y.size, (Value.int .i64) y.frame, (Value.int .i64) y.rights] 27 * (blk M2 #[(Value.int .i64) y.page, (Value.int .i64) y.size, (Value.int .i64) y.frame, (Value.int .i64) y.rights] 27 * (blk X #[(Value.int .i64) x.kind, (Value.int .i64) x.core, (Value.int .i64) x.m.page, (Value.int .i64) x.m.size, (Value.int .i64) x.m.frame, (Value.int .i64) x.m.rights, (Value.int .i64) x.a.page, (Value.int .i64) x.a.kind, Value.bool x.a.user] 31 * (bookAt p k' * (bookAt p' k * old w w.heap.size))))))))) := h9.right.below b9
        have xG := x9.below b9
        clear hF h8 h9 h9s x8 x9 b9 hS x2
        refine wpAnyH_take (i := 16) (v := ?_) rfl (by kernel_rfl) (by kernel_rfl) (by kernel_rfl) (fun _ _ _ h => h) (Or.inl ⟨by kernel_rfl, ?_⟩) hHeld ?_
        rotate_left
        focus (intro wS hSw; (try dsimp only at hSw); go_simp; first | done | with_reducible rfl)
        try go_simp
        refine wpAnyH_take (i := 17) (v := ?_) rfl (by kernel_rfl) (by kernel_rfl) (by kernel_rfl) (fun _ _ _ h => h) (Or.inl ⟨by kernel_rfl, ?_⟩) hHeld ?_
        rotate_left
        focus (intro wS hSw; (try dsimp only at hSw); go_simp; first | done | with_reducible rfl)
        try go_simp
        refine wpAnyH_take (i := 18) (v := ?_) rfl (by kernel_rfl) (by kernel_rfl) (by kernel_rfl) (fun _ _ _ h => h) (Or.inl ⟨by kernel_rfl, ?_⟩) hHeld ?_
        rotate_left
        focus (intro wS hSw; (try dsimp only at hSw); go_simp; first | done | with_reducible rfl)
        try go_simp
        refine wpAnyH_take (i := 19) (v := ?_) rfl (by kernel_rfl) (by kernel_rfl) (by kernel_rfl) (fun _ _ _ h => h) (Or.inl ⟨by kernel_rfl, ?_⟩) hHeld ?_
        rotate_left
        focus (intro wS hSw; (try dsimp only at hSw); go_simp; first | done | with_reducible rfl)
        try go_simp
        refine wpAnyH_take (i := 21) (v := ?_) rfl (by kernel_rfl) (by kernel_rfl) (by kernel_rfl) (fun _ _ _ h => h) (Or.inl ⟨by kernel_rfl, ?_⟩) hHeld ?_
        rotate_left
        focus (intro wS hSw; (try dsimp only at hSw); go_simp; first | done | with_reducible rfl)
        try go_simp
        refine wpAnyH_take (i := 22) (v := ?_) rfl (by kernel_rfl) (by kernel_rfl) (by kernel_rfl) (fun _ _ _ h => h) (Or.inl ⟨by kernel_rfl, ?_⟩) hHeld ?_
        rotate_left
        focus (intro wS hSw; (try dsimp only at hSw); go_simp; first | done | with_reducible rfl)
        try go_simp
        refine wpAnyH_take (i := 23) (v := ?_) rfl (by kernel_rfl) (by kernel_rfl) (by kernel_rfl) (fun _ _ _ h => h) (Or.inl ⟨by kernel_rfl, ?_⟩) hHeld ?_
        rotate_left
        focus (intro wS hSw; (try dsimp only at hSw); go_simp; first | done | with_reducible rfl)
        try go_simp
        refine wpAnyH_take (i := 24) (v := ?_) rfl (by kernel_rfl) (by kernel_rfl) (by kernel_rfl) (fun _ _ _ h => h) (Or.inl ⟨by kernel_rfl, ?_⟩) hHeld ?_
        rotate_left
        focus (intro wS hSw; (try dsimp only at hSw); go_simp; first | done | with_reducible rfl)
        try go_simp
        refine wpAnyH_ready (rs := [20]) (by kernel_rfl) (by simp) (AllReadyH.cons rfl (fun K hK => ?_) AllReadyH.nil)
        go_simp
        go_wp2_with ((go_at_call 19; refine (L2.out (blk q #[.slice A1 k'.length c1] 84 * (mrow (.slice A1 k'.length c1) k' * (blk q' #[.slice A2 k.length c2] 84 * (mrow (.slice A2 k.length c2) k * (blk M1 #[(Value.int .i64) y.page, (Value.int .i64) y.size, (Value.int .i64) y.frame, (Value.int .i64) y.rights] 27 * (blk M2 #[(Value.int .i64) y.page, (Value.int .i64) y.size, (Value.int .i64) y.frame, (Value.int .i64) y.rights] 27 * (blk X #[(Value.int .i64) x.kind, (Value.int .i64) x.core, (Value.int .i64) x.m.page, (Value.int .i64) x.m.size, (Value.int .i64) x.m.frame, (Value.int .i64) x.m.rights, (Value.int .i64) x.a.page, (Value.int .i64) x.a.kind, Value.bool x.a.user] 31 * (bookAt p k' * old w w.heap.size)))))))) _ (hG.eq (by ac_rfl))).mono ?_; rintro e w10 ⟨A3, n3, c3, rfl, h10, x10⟩))
        refine hK.out _ _ (HS.out _ (hG.onto' h10).right) (fun hHeld => ?_)
        clear hK K
        have h11 := hG.onto' h10
        have x11 := xG.trans x10
        have h11s : Has w10 (mrow (.slice A3 n3 c3) k * (mrow (.slice A2 k.length c2) k * (blk q #[.slice A1 k'.length c1] 84 * (mrow (.slice A1 k'.length c1) k' * (blk q' #[.slice A2 k.length c2] 84 * (blk M1 #[(Value.int .i64) y.page, (Value.int .i64) y.size, (Value.int .i64) y.frame, (Value.int .i64) y.rights] 27 * (blk M2 #[(Value.int .i64) y.page, (Value.int .i64) y.size, (Value.int .i64) y.frame, (Value.int .i64) y.rights] 27 * (blk X #[(Value.int .i64) x.kind, (Value.int .i64) x.core, (Value.int .i64) x.m.page, (Value.int .i64) x.m.size, (Value.int .i64) x.m.frame, (Value.int .i64) x.m.rights, (Value.int .i64) x.a.page, (Value.int .i64) x.a.kind, Value.bool x.a.user] 31 * (bookAt p k' * (bookAt p' k * old w w.heap.size)))))))))) := h11.eq (by ac_rfl)
        refine wpAnyH_ready (rs := [25]) (by kernel_rfl) (by simp) (AllReadyH.cons rfl (fun K hK => ?_) AllReadyH.nil)
        go_simp
        go_wp2_with ((go_at_call 20; refine (sameMaps_any k A3 A2 n3 c3 _ c2 _ _ h11s).mono ?_; rintro e w11 ⟨rfl, b11⟩))
        refine hK.out _ _ (HS.out _ (h11.right.below b11)) (fun hHeld => ?_)
        clear hK K
        have hH : Has w11 (blk q #[.slice A1 k'.length c1] 84 * (mrow (.slice A1 k'.length c1) k' * (blk q' #[.slice A2 k.length c2] 84 * (mrow (.slice A2 k.length c2) k * (blk M1 #[(Value.int .i64) y.page, (Value.int .i64) y.size, (Value.int .i64) y.frame, (Value.int .i64) y.rights] 27 * (blk M2 #[(Value.int .i64) y.page, (Value.int .i64) y.size, (Value.int .i64) y.frame, (Value.int .i64) y.rights] 27 * (blk X #[(Value.int .i64) x.kind, (Value.int .i64) x.core, (Value.int .i64) x.m.page, (Value.int .i64) x.m.size, (Value.int .i64) x.m.frame, (Value.int .i64) x.m.rights, (Value.int .i64) x.a.page, (Value.int .i64) x.a.kind, Value.bool x.a.user] 31 * (bookAt p k' * (bookAt p' k * old w w.heap.size))))))))) := h11.right.below b11
        have xH := x11.below b11
        clear hG h10 h11 h11s x10 x11 b11 xG
        refine wpAnyH_take (i := 26) (v := ?_) rfl (by kernel_rfl) (by kernel_rfl) (by kernel_rfl) (fun _ _ _ h => h) (Or.inl ⟨by kernel_rfl, ?_⟩) hHeld ?_
        rotate_left
        focus (intro wS hSw; (try dsimp only at hSw); go_simp; first | done | with_reducible rfl)
        try go_simp
        refine wpAnyH_take (i := 27) (v := ?_) rfl (by kernel_rfl) (by kernel_rfl) (by kernel_rfl) (fun _ _ _ h => h) (Or.inl ⟨by kernel_rfl, ?_⟩) hHeld ?_
        rotate_left
        focus (intro wS hSw; (try dsimp only at hSw); go_simp; first | done | with_reducible rfl)
        try go_simp
        refine wpAnyH_done (by kernel_rfl) ?_ _
        clear HS L1 L2
        have hH2 : Has w11 ((blk q' #[.slice A2 k.length c2] 84 * (mrow (.slice A2 k.length c2) k * (blk M1 #[(Value.int .i64) y.page, (Value.int .i64) y.size, (Value.int .i64) y.frame, (Value.int .i64) y.rights] 27 * (blk M2 #[(Value.int .i64) y.page, (Value.int .i64) y.size, (Value.int .i64) y.frame, (Value.int .i64) y.rights] 27 * bookAt p' k)))) * (blk q #[.slice A1 k'.length c1] 84 * (mrow (.slice A1 k'.length c1) k' * (bookAt p k' * (blk X #[(Value.int .i64) x.kind, (Value.int .i64) x.core, (Value.int .i64) x.m.page, (Value.int .i64) x.m.size, (Value.int .i64) x.m.frame, (Value.int .i64) x.m.rights, (Value.int .i64) x.a.page, (Value.int .i64) x.a.kind, Value.bool x.a.user] 31 * old w w.heap.size))))) := hH.eq (by ac_rfl)
        have hT := pagesAt_shut hH2.right
        clear hH hH2 ql ql'
        obtain ⟨c0, c1', c2', c3, c4, c5, c6, c7, c8⟩ := hT.right.right.cells9
        have cl := hT.right.right.lt
        have AP := Lib.hid (fun R W h => answerP q k' x.a R W hk' hxo.2.2.2.1 h)
        have AB := Lib.hid (fun R W h => answerB p k' x.a R W hk' hxo.2.2.2.1 h)
        generalize Bk.ans k' x.a = r at *
        rcases Bk.place hk' x.a.page with ⟨hf, _⟩ | ⟨hi', ho, hf, _⟩
        · have hidx : Bk.idx k' x.a.page = -1 := by unfold Bk.idx; rw [hf]; rfl
          have FP := Lib.hid (fun R W h => findP q k' x.a.page R W hk' hxo.2.2.2.1 h)
          have FB : Hid (∀ (R : HProp) (W : World) (_ : Has W (bookAt p k' * R)), Calls Try.prog 43 #[.pointer (some ⟨p, 0, none⟩), .int .i64 x.a.page] W (Pure (.tuple #[.agg #[(Value.int .i64) 0, (Value.int .i64) 0, (Value.int .i64) 0, (Value.int .i64) 0], Value.bool false]) W)) := Lib.hid (fun R W h => by
            have h1 := findB p k' x.a.page R W hk' hxo.2.2.2.1 h
            rw [hf] at h1
            exact h1)
          rw [hidx] at FP
          clear hidx hf
          have hdz : decide ((0 : Int) ≤ -1) = false := by decide
          go_wp2_with fail
          refine (FP.out _ _ hT).mono ?_; rintro e w12 ⟨rfl, b12⟩
          have hT2 := hT.below b12
          have x12 := xH.below b12
          clear c0 c1' c2' c3 c4 c5 c6 c7 c8 cl hT b12 xH
          obtain ⟨c0, c1', c2', c3, c4, c5, c6, c7, c8⟩ := hT2.right.right.cells9
          have cl := hT2.right.right.lt
          go_wp2_with fail
          refine (FB.out _ _ hT2.p2).mono ?_; rintro e w13 ⟨rfl, b13⟩
          have hT3 := hT2.below b13
          have x13 := x12.below b13
          clear c0 c1' c2' c3 c4 c5 c6 c7 c8 cl hT2 b13 x12
          have hT4 : Has (w13.alloc (.cells #[(Value.int .i64) 0, (Value.int .i64) 0, (Value.int .i64) 0, (Value.int .i64) 0] 27)) (pagesAt q k' * (bookAt p k' * (blk X #[(Value.int .i64) x.kind, (Value.int .i64) x.core, (Value.int .i64) x.m.page, (Value.int .i64) x.m.size, (Value.int .i64) x.m.frame, (Value.int .i64) x.m.rights, (Value.int .i64) x.a.page, (Value.int .i64) x.a.kind, Value.bool x.a.user] 31 * old w w.heap.size))) := hT3.alloc _
          have x14 := x13.alloc (.cells #[(Value.int .i64) 0, (Value.int .i64) 0, (Value.int .i64) 0, (Value.int .i64) 0] 27)
          go_upto_region 26 with fail
          generalize w13.alloc (.cells #[(Value.int .i64) 0, (Value.int .i64) 0, (Value.int .i64) 0, (Value.int .i64) 0] 27) = w14 at *
          obtain ⟨c0, c1', c2', c3, c4, c5, c6, c7, c8⟩ := hT4.right.right.cells9
          have u6 := via_cell c6
          have u7 := via_cell c7
          have u8 := via_cell c8
          clear c0 c1' c2' c3 c4 c5 c6 c7 c8 hT3 x13
          refine wp_region_via (by kernel_rfl) (by kernel_rfl) ?_
          repeat (first | go_big_quiet_step ((first | (go_at_call 36; exact Pure.via (AB.out _ _ (hT4.p2.via _))) | (go_at_call 44; exact Pure.via (AP.out _ _ (hT4.via _))))) | quiet_step ((first | (go_at_call 36; exact Pure.via (AB.out _ _ (hT4.p2.via _))) | (go_at_call 44; exact Pure.via (AP.out _ _ (hT4.via _))))))
          refine wpQuiet_nil ?_
          intro _ hw'
          obtain ⟨uq, hw''⟩ := hw'
          subst hw''
          go_wp2_with fail
          go_roundw
          case rel => exact ⟨i + 1, k', by omega, by go_num, hk', (hT4.via uq).p2.drop3, x14.below (via_below _ _)⟩
          case measure => simp [intOf]; omega
        · have hidx : Bk.idx k' x.a.page = Bk.pos k' x.a.page := by unfold Bk.idx; rw [hf]; rfl
          have FP := Lib.hid (fun R W h => findP q k' x.a.page R W hk' hxo.2.2.2.1 h)
          have FB : Hid (∀ (R : HProp) (W : World) (_ : Has W (bookAt p k' * R)), Calls Try.prog 43 #[.pointer (some ⟨p, 0, none⟩), .int .i64 x.a.page] W (Pure (.tuple #[.agg #[(Value.int .i64) k'[Bk.pos k' x.a.page].page, (Value.int .i64) k'[Bk.pos k' x.a.page].size, (Value.int .i64) k'[Bk.pos k' x.a.page].frame, (Value.int .i64) k'[Bk.pos k' x.a.page].rights], Value.bool true]) W)) := Lib.hid (fun R W h => by
            have h1 := findB p k' x.a.page R W hk' hxo.2.2.2.1 h
            rw [hf] at h1
            exact h1)
          rw [hidx] at FP
          clear hidx hf ho
          generalize Bk.pos k' x.a.page = ps at *
          have hdz : decide ((0 : Int) ≤ (ps : Int)) = true := decide_eq_true (by omega)
          have HCL := Lib.hid (fun (W : World) (P : HProp) (A : Option Addr) (c : Nat) (h : Has W (mrow (.slice A k'.length c) k' * P)) => mrow_at h hi')
          generalize k'[ps] = z at *
          go_wp2_with fail
          refine (FP.out _ _ hT).mono ?_; rintro e w12 ⟨rfl, b12⟩
          have hT2 := hT.below b12
          have x12 := xH.below b12
          clear c0 c1' c2' c3 c4 c5 c6 c7 c8 cl hT b12 xH
          obtain ⟨c0, c1', c2', c3, c4, c5, c6, c7, c8⟩ := hT2.right.right.cells9
          have cl := hT2.right.right.lt
          go_wp2_with fail
          refine (FB.out _ _ hT2.p2).mono ?_; rintro e w13 ⟨rfl, b13⟩
          have hT3 := hT2.below b13
          have x13 := x12.below b13
          clear c0 c1' c2' c3 c4 c5 c6 c7 c8 cl hT2 b13 x12
          obtain ⟨A4, c4', hO⟩ := pagesAt_open hT3
          have hO2 := hO.new #[(Value.int .i64) z.page, (Value.int .i64) z.size, (Value.int .i64) z.frame, (Value.int .i64) z.rights] 27
          have x14 := x13.alloc (.cells #[(Value.int .i64) z.page, (Value.int .i64) z.size, (Value.int .i64) z.frame, (Value.int .i64) z.rights] 27)
          go_upto_region 26 with fail
          generalize w13.alloc (.cells #[(Value.int .i64) z.page, (Value.int .i64) z.size, (Value.int .i64) z.frame, (Value.int .i64) z.rights] 27) = w14 at *
          generalize w13.heap.size = F1 at *
          obtain ⟨f0, f1, f2, f3⟩ := hO2.cells4
          have fl := hO2.lt
          have q0 := hO2.right.cell 0
          have ql := hO2.right.lt
          obtain ⟨bq, rfl, bql, z0, z1, z2, z3⟩ := HCL.out _ _ _ _ hO2.right.right
          obtain ⟨c0, c1', c2', c3, c4, c5, c6, c7, c8⟩ := hO2.right.right.right.right.cells9
          have hT4 := pagesAt_shut hO2.right
          have u6 := via_cell c6
          have u7 := via_cell c7
          have u8 := via_cell c8
          have v0 := via_cell f0
          have v1 := via_cell f1
          have v2 := via_cell f2
          have v3 := via_cell f3
          have y0 := via_cell z0
          have y1 := via_cell z1
          have y2 := via_cell z2
          have y3 := via_cell z3
          have yq := via_cell q0
          clear c0 c1' c2' c3 c4 c5 c6 c7 c8 hT3 x13 hO hO2 f0 f1 f2 f3 z0 z1 z2 z3 q0
          refine wp_region_via (by kernel_rfl) (by kernel_rfl) ?_
          repeat (first | go_big_quiet_step ((first | (go_at_call 36; exact Pure.via (AB.out _ _ (hT4.p2.via _))) | (go_at_call 44; exact Pure.via (AP.out _ _ (hT4.via _))))) | quiet_step ((first | (go_at_call 36; exact Pure.via (AB.out _ _ (hT4.p2.via _))) | (go_at_call 44; exact Pure.via (AP.out _ _ (hT4.via _))))))
          refine wpQuiet_nil ?_
          intro _ hw'
          obtain ⟨uq, hw''⟩ := hw'
          subst hw''
          go_wp2_with fail
          go_roundw
          case rel => exact ⟨i + 1, k', by omega, by go_num, hk', (hT4.via uq).p2.drop3, x14.below (via_below _ _)⟩
          case measure => simp [intOf]; omega
    · go_wp2_with fail
      go_ret
      exact ⟨rfl, below_of1 hr.right.right hx⟩
end Go.Proofs.Ytndhgomikpokpaa
