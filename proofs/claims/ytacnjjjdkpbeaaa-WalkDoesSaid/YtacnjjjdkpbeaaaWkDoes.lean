/- The law WalkDoes: the walk. -/
import Derived.Test.YtacnjjjdkpbeaaaWkBegun
namespace Go.Proofs.Ytacnjjjdkpbeaaa
open Go.RowKit
set_option maxRecDepth 100000

set_option maxHeartbeats 4000000 in
theorem walkDoes_walk (N T root p : Int) (A : Option Addr) (n c : Nat) (l : List Int) (w : World) (_ : i64 N) (_ : i64 T) (_ : i64 root) (_ : i64 p) (h : Arr w A n 1 (l.map cellsU)) (hok : ∀ x ∈ l, u64 x) :
    Calls Try.prog 6 #[(Value.int .i64) N, (Value.int .i64) T, (Value.int .i64) root, (Value.int .i64) p, .slice A n c] w (Pure (Value.bool true) w) := by
  have hm := h.2.1
  have hA := Lib.hid h
  clear h
  have h0 := has_old w
  have HB := Lib.hid (walkBegun_any w)
  by_cases hN0 : N < 0
  · go_enter Try.func6, Try.ntmps6
    go_wp2_with (refine HB.out.mono ?_; rintro e w1 ⟨rfl, hb⟩)
    go_ret
    exact ⟨rfl, hb⟩
  by_cases hN1 : 128 < N
  · go_enter Try.func6, Try.ntmps6
    go_wp2_with (refine HB.out.mono ?_; rintro e w1 ⟨rfl, hb⟩)
    go_ret
    exact ⟨rfl, hb⟩
  by_cases hbig : 2000 < n
  · go_enter Try.func6, Try.ntmps6
    go_wp2_with (refine HB.out.mono ?_; rintro e w1 ⟨rfl, hb⟩)
    go_ret
    exact ⟨rfl, hb⟩
  have hs := memS_ok (n := N) (taken := T) (ws := l) (by omega) (by omega) hok
  go_enter Try.func6, Try.ntmps6
  go_wp2_with fail
  refine HB.out.mono ?_; rintro e w1 ⟨rfl, hb⟩
  have h1 := h0.below hb
  have x1 := (Ext.refl w).below hb
  have hA1 := hA.out.old1 h1 x1
  clear h0 hb
  go_wp2_with fail
  refine (memory_any N T A n c l _ (by omega) (by omega) hA1 hok).mono ?_; rintro e w2 ⟨f, q, rfl, h2, x2⟩
  have h3 := (h1.onto' h2.a2).a1
  have x3 := x1.trans x2
  clear h1 x1 h2 x2 hA1
  generalize memS N T l = s at *
  have F1 := Lib.hid (fun R w h => find_way f s root p R w hs h)
  have W1 := Lib.hid (fun R w h => wayTo_any q s root p R w hs h)
  have L1 := Lib.hid (fun R w h => list_any f s root R w hs h)
  have T1 := Lib.hid (fun R w h => tables_any f s root R w hs h)
  have A1 := Lib.hid (fun R w h => allOf_any q s hs root R w h)
  have hIX := Lib.hid (indexOf_any p)
  generalize way s root p = y at *
  generalize eachV s 3 root 0 = z at *
  go_wp2_with fail
  refine (F1.out _ _ h3).mono ?_; rintro e w4 hF
  obtain ⟨a1, a2, c1, c2, rfl, h4, x4⟩ : ∃ (A B : Option Addr) (c d : Nat), e = .returned (.tuple #[.agg #[(Value.int .i64) y.lev, Value.bool y.e.there, Value.bool y.e.leaf, (Value.int .i64) y.e.rights, Value.bool y.e.used, Value.bool y.e.dirty, (Value.int .i64) y.e.frame, .slice A y.tabs.length c, .slice B y.tabs.length d], (Value.int .i64) y.code]) ∧ Has w4 (irow (.slice A y.tabs.length c) y.tabs * (irow (.slice B y.tabs.length d) (placesOf p y.tabs.length) * old w2 w2.heap.size)) ∧ Ext w2 w4 := hF
  have h5 := (h3.onto' h4.a2).a1.new #[(Value.int .i64) y.lev, Value.bool y.e.there, Value.bool y.e.leaf, (Value.int .i64) y.e.rights, Value.bool y.e.used, Value.bool y.e.dirty, (Value.int .i64) y.e.frame, .slice a1 y.tabs.length c1, .slice a2 y.tabs.length c2] 62
  have x5 := (x3.trans x4).alloc (.cells #[(Value.int .i64) y.lev, Value.bool y.e.there, Value.bool y.e.leaf, (Value.int .i64) y.e.rights, Value.bool y.e.used, Value.bool y.e.dirty, (Value.int .i64) y.e.frame, .slice a1 y.tabs.length c1, .slice a2 y.tabs.length c2] 62)
  clear h3 x3 h4 x4
  have h5q : Has (w4.alloc (.cells #[(Value.int .i64) y.lev, Value.bool y.e.there, Value.bool y.e.leaf, (Value.int .i64) y.e.rights, Value.bool y.e.used, Value.bool y.e.dirty, (Value.int .i64) y.e.frame, .slice a1 y.tabs.length c1, .slice a2 y.tabs.length c2] 62)) (memAt q s * _) := h5.right.right.right.right
  go_wp2_with fail
  refine (W1.out _ _ h5q).mono ?_; rintro e w6 hF
  obtain ⟨a3, c3, rfl, h6, x6⟩ : ∃ (A : Option Addr) (c : Nat), e = .returned (.tuple #[.agg #[.slice A y.tabs.length c, Value.bool y.e.there, Value.bool y.e.leaf, (Value.int .i64) y.e.rights, Value.bool y.e.used, Value.bool y.e.dirty, (Value.int .i64) y.e.frame, (Value.int .i64) y.lev], (Value.int .i64) y.code]) ∧ Has w6 (irow (.slice A y.tabs.length c) y.tabs * old _ (World.heap _).size) ∧ Ext _ w6 := hF
  have h7 := (h5.onto' h6).new #[.slice a3 y.tabs.length c3, Value.bool y.e.there, Value.bool y.e.leaf, (Value.int .i64) y.e.rights, Value.bool y.e.used, Value.bool y.e.dirty, (Value.int .i64) y.e.frame, (Value.int .i64) y.lev] 66
  have x7 := (x5.trans x6).alloc (.cells #[.slice a3 y.tabs.length c3, Value.bool y.e.there, Value.bool y.e.leaf, (Value.int .i64) y.e.rights, Value.bool y.e.used, Value.bool y.e.dirty, (Value.int .i64) y.e.frame, (Value.int .i64) y.lev] 66)
  clear h5 h6 x5 x6 h5q F1 W1
  have hsz : y.tabs.length ≤ 9223372036854775807 := irow_small h7.right
  have H8 : Has _ (irow (.slice a1 y.tabs.length c1) y.tabs * (irow (.slice a3 y.tabs.length c3) y.tabs * (blk w6.heap.size #[.slice a3 y.tabs.length c3, Value.bool y.e.there, Value.bool y.e.leaf, (Value.int .i64) y.e.rights, Value.bool y.e.used, Value.bool y.e.dirty, (Value.int .i64) y.e.frame, (Value.int .i64) y.lev] 66 * (blk w4.heap.size #[(Value.int .i64) y.lev, Value.bool y.e.there, Value.bool y.e.leaf, (Value.int .i64) y.e.rights, Value.bool y.e.used, Value.bool y.e.dirty, (Value.int .i64) y.e.frame, .slice a1 y.tabs.length c1, .slice a2 y.tabs.length c2] 62 * (irow (.slice a2 y.tabs.length c2) (placesOf p y.tabs.length) * (framesAt f s * (memAt q s * old w w.heap.size))))))) := h7.eq (by ac_rfl)
  obtain ⟨w0', w1', w2', w3', w4', w5', w6', w7'⟩ := H8.right.right.cells8
  have wl := H8.right.right.lt
  obtain ⟨s0, s1, s2, s3, s4, s5, s6, s7, s8⟩ := H8.right.right.right.cells9
  have sl := H8.right.right.right.lt
  have SI := Lib.hid (sameInts_any y.tabs a1 a3 y.tabs.length c1 y.tabs.length c3 _ _ H8)
  clear h7
  go_upto_region 10 with fail
  generalize w6.alloc (.cells #[.slice a3 y.tabs.length c3, Value.bool y.e.there, Value.bool y.e.leaf, (Value.int .i64) y.e.rights, Value.bool y.e.used, Value.bool y.e.dirty, (Value.int .i64) y.e.frame, (Value.int .i64) y.lev] 66) = w8 at *
  generalize hW : w6.heap.size = EW at *
  generalize hS' : w4.heap.size = ES at *
  clear hW hS'
  go_wp2_with fail
  refine SI.out.mono ?_; rintro e w9 ⟨rfl, b9⟩
  have H9 := H8.below b9
  have x9 := x7.below b9
  clear w0' w1' w2' w3' w4' w5' w6' w7' wl s0 s1 s2 s3 s4 s5 s6 s7 s8 sl SI b9 x7 H8
  obtain ⟨w0', _, _, _, _, _, _, _⟩ := H9.right.right.cells8
  have wl := H9.right.right.lt
  obtain ⟨_, _, _, _, _, _, _, _, s8⟩ := H9.right.right.right.cells9
  have sl := H9.right.right.right.lt
  go_wp2_with fail
  go_loopw [17] (fun s17 wz => ∃ i : Nat, i ≤ y.tabs.length ∧ s17 = (Value.int .i64) i ∧ Below w9.heap.size w9 wz) (fun s17 _ => y.tabs.length - (intOf s17).toNat)
  case atStart => exact ⟨0, Nat.zero_le _, rfl, Below.refl _ _⟩
  case round =>
    clear w0' wl s8 sl
    obtain ⟨i, hi, rfl, BW⟩ := hrel
    have HZ := H9.below BW
    have BW' := Lib.hid BW
    clear BW
    obtain ⟨_, _, _, _, _, _, _, _, s8⟩ := HZ.right.right.right.cells9
    have sl := HZ.right.right.right.lt
    by_cases hlt : i < y.tabs.length
    · have hI2 : Has wr (irow (.slice a2 y.tabs.length c2) (placesOf p y.tabs.length) * _) := HZ.right.right.right.right
      obtain ⟨g, rfl, hg, d0⟩ := irow_at hI2 (k := i) (by rw [placesOf_len]; exact hlt)
      have hpl : (placesOf p y.tabs.length)[i]'(by rw [placesOf_len]; exact hlt) = index p (3 - (i : Int)) := by simp [placesOf]
      rw [hpl] at d0
      have hwr : IntKind.i64.wrap (3 - (i : Int)) = 3 - i := by rw [IntKind.wrap_i64]; omega
      have v0 := via_cell d0
      have v8 := via_cell s8
      have HX := Lib.hid (fun W => hIX.out (3 - (i : Int)) W)
      clear hpl d0
      generalize index p (3 - (i : Int)) = ix at *
      go_wp2_with fail
      refine wp_region_via (by kernel_rfl) (by kernel_rfl) ?_
      repeat (first | go_big_quiet_step ((go_at_call 33; exact Pure.via (HX.out _))) | quiet_step ((go_at_call 33; exact Pure.via (HX.out _))))
      refine wpQuiet_nil ?_
      intro _ hw'
      obtain ⟨uq, hw''⟩ := hw'
      subst hw''
      go_wp2_with fail
      go_roundw
      case rel => exact ⟨i + 1, by omega, by go_num, BW'.out.trans ((via_below _ _).mono BW'.out.size)⟩
      case measure => simp [intOf]; omega
    · have xz := x9.below BW'.out
      have HF : Has wr (framesAt f s * (memAt q s * old w w.heap.size)) := HZ.right.right.right.right.right
      go_wp2_with fail
      refine (L1.out _ _ HF).mono ?_; rintro e w10 ⟨b1, d1, rfl, h10, x10⟩
      have x10 := xz.trans x10
      go_wp2_with fail
      refine (T1.out _ _ h10.p2).mono ?_; rintro e w11 ⟨b2, d2, rfl, h11, x11⟩
      have x11 := x10.trans x11
      have h11q : Has w11 (memAt q s * _) := h11.right.right.right
      go_wp2_with fail
      refine (A1.out _ _ h11q).mono ?_; rintro e w12 ⟨b3, d3, b4, d4, rfl, h12, x12⟩
      have x12 := x11.trans x12
      have h13 : Has w12 (mrow (.slice b1 (listM z).length d1) (listM z) * (mrow (.slice b3 (listM z).length d3) (listM z) * (irow (.slice b2 (listT z root).length d2) (listT z root) * (irow (.slice b4 (listT z root).length d4) (listT z root) * (framesAt f s * (memAt q s * old w w.heap.size)))))) := (h11.onto' h12.a2).eq (by ac_rfl)
      have SM := Lib.hid (sameMaps_any (listM z) b1 b3 _ d1 _ d3 _ _ h13)
      clear HF h10 h11 h11q h12 x10 x11 s8 sl HZ
      go_wp2_with fail
      refine SM.out.mono ?_; rintro e w13 ⟨rfl, b13⟩
      have h14 : Has w13 (irow (.slice b2 (listT z root).length d2) (listT z root) * (irow (.slice b4 (listT z root).length d4) (listT z root) * (mrow (.slice b1 (listM z).length d1) (listM z) * (mrow (.slice b3 (listM z).length d3) (listM z) * (framesAt f s * (memAt q s * old w w.heap.size)))))) := (h13.below b13).eq (by ac_rfl)
      have x14 := x12.below b13
      have SI := Lib.hid (sameInts_any (listT z root) b2 b4 _ d2 _ d4 _ _ h14)
      clear h13 SM
      go_wp2_with fail
      refine SI.out.mono ?_; rintro e w15 ⟨rfl, b15⟩
      go_wp2_with fail
      go_ret
      exact ⟨rfl, below_of1 ((h14.below b15).right.right.right.right.right.right) (x14.below b15)⟩
end Go.Proofs.Ytacnjjjdkpbeaaa
