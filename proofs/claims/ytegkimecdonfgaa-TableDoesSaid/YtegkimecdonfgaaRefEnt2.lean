/- Contracts of the document's own answer on entries: WordOf, LeafMap. -/
import Derived.Test.YtegkimecdonfgaaRefEnt
import Derived.Test.YtegkimecdonfgaaWkFind
import Derived.Test.YtegkimecdonfgaaFrm
import Derived.Test.YtegkimecdonfgaaIrow
import Derived.BigQuiet
import Derived.Deep.RegionHeld3
import Derived.Deep.DeepCutAuto
import Derived.Test.YtegkimecdonfgaaAgree
namespace Go.Proofs.Ytegkimecdonfgaa
open Go.RowKit
set_option maxRecDepth 100000
set_option maxHeartbeats 2000000 in
theorem wordOf_any (e : En) (l : Int) (w : World) : Calls Try.prog 66 #[.agg #[Value.bool e.there, Value.bool e.leaf, (Value.int .i64) e.rights, Value.bool e.used, Value.bool e.dirty, (Value.int .i64) e.frame], .int .i64 l] w (Pure (.tuple #[(Value.int .u64) (encW e l), (Value.int .i64) (entFault e l)]) w) := by
  obtain ⟨th, leaf, r, u, d, f⟩ := e
  have h1 := Has.new (has_old w) #[Value.bool th, Value.bool leaf, (Value.int .i64) r, Value.bool u, Value.bool d, (Value.int .i64) f] 50
  have x1 := (Ext.refl w).alloc (.cells #[Value.bool th, Value.bool leaf, (Value.int .i64) r, Value.bool u, Value.bool d, (Value.int .i64) f] 50)
  have HC := Lib.hid (fun W => entryFault_any ⟨th, leaf, r, u, d, f⟩ l W)
  by_cases hc : entFault ⟨th, leaf, r, u, d, f⟩ l = 0
  · rw [hc] at HC ⊢
    cases th with
    | false =>
      have hy := Lib.hid (show encW ⟨false, leaf, r, u, d, f⟩ l = 0 by unfold encW; rw [if_neg (by simp)])
      clear hc
      go_enter Try.func66, Try.ntmps66
      go_wp2_with fail
      refine (HC.out _).mono ?_; rintro e w2 ⟨rfl, bl⟩
      have h2 := h1.below bl
      obtain ⟨c0, c1, c2, c3, c4, c5⟩ := h2.cells6
      go_wp2
      go_ret2
      exact ⟨by rw [hy.out]; rfl, below_of1 h2.right (x1.below bl)⟩
    | true =>
      have hk := entOk_of hc rfl
      have hy := Lib.hid (show encW ⟨true, leaf, r, u, d, f⟩ l = wordE ⟨true, leaf, r, u, d, f⟩ l by unfold encW; rw [if_pos ⟨hc, rfl⟩])
      have r0 : 0 ≤ r := hk.r0
      have r7 : r ≤ 7 := hk.r7
      have f0 : 0 ≤ f := hk.f0
      have f1 : f < 1048576 := hk.f1
      have l0 := hk.l0
      have l4 := hk.l4
      clear hc hk
      by_cases lz : l = 0
      · subst lz
        cases leaf <;> cases u <;> cases d
        all_goals
          go_enter Try.func66, Try.ntmps66
          go_wp2_with fail
          refine (HC.out _).mono ?_; rintro e w2 ⟨rfl, bl⟩
          have h2 := h1.below bl
          obtain ⟨c0, c1, c2, c3, c4, c5⟩ := h2.cells6
          have b2 := below_of1 h2.right (x1.below bl)
          clear h1 x1 h2 bl HC
          go_wp2
          go_ret2
          refine ⟨?_, b2⟩
          rw [hy.out]
          show Ending.returned (.tuple #[(Value.int .u64) _, (Value.int .i64) 0]) = _
          refine congrArg (fun n : Int => Ending.returned (.tuple #[(Value.int .u64) n, (Value.int .i64) 0])) ?_
          unfold wordE
          simp [b2i]; try omega
      · have hz : (l != 0) = true := by simpa using lz
        have hz' := Lib.hid hz
        clear lz
        cases leaf <;> cases u <;> cases d
        all_goals
          go_enter Try.func66, Try.ntmps66
          go_wp2_with fail
          refine (HC.out _).mono ?_; rintro e w2 ⟨rfl, bl⟩
          have h2 := h1.below bl
          obtain ⟨c0, c1, c2, c3, c4, c5⟩ := h2.cells6
          have b2 := below_of1 h2.right (x1.below bl)
          clear h1 x1 h2 bl HC
          go_wp2
          go_ret2
          refine ⟨?_, b2⟩
          rw [hy.out]
          show Ending.returned (.tuple #[(Value.int .u64) _, (Value.int .i64) 0]) = _
          refine congrArg (fun n : Int => Ending.returned (.tuple #[(Value.int .u64) n, (Value.int .i64) 0])) ?_
          unfold wordE
          simp [b2i, hz'.out]; try omega
  · have hy := Lib.hid (show encW ⟨th, leaf, r, u, d, f⟩ l = 0 from encW_fault hc)
    have hn : (entFault ⟨th, leaf, r, u, d, f⟩ l != 0) = true := by simpa using hc
    clear hc
    generalize entFault ⟨th, leaf, r, u, d, f⟩ l = c at *
    go_enter Try.func66, Try.ntmps66
    go_wp2_with fail
    refine (HC.out _).mono ?_; rintro e w2 ⟨rfl, bl⟩
    have h2 := h1.below bl
    go_wp2
    go_ret2
    exact ⟨by rw [hy.out]; rfl, below_of1 h2.right (x1.below bl)⟩
end Go.Proofs.Ytegkimecdonfgaa
namespace Go.Proofs.Ytegkimecdonfgaa
open Go.RowKit
set_option maxRecDepth 100000
theorem insS_no' {s : Ms} {r : Int} {x : Mp} (h : insC s r x ≠ 0) : insS s r x = s := by unfold insS; rw [if_neg h]
set_option maxHeartbeats 8000000 in
theorem insR (q : Nat) (s : Ms) (root : Int) (x : Mp) (R : HProp) (w : World) (hs : s.Ok) (h : Has w (memAt q s * R)) :
    Calls Try.prog 14 #[.pointer (some ⟨q, 0, none⟩), (Value.int .i64) root, .agg #[(Value.int .i64) x.page, (Value.int .i64) x.size, (Value.int .i64) x.frame, (Value.int .i64) x.rights]] w (Res ((Value.int .i64) (insC s root x)) (memAt q (insS s root x) * R) w) := by
  have h0 := h.new #[(Value.int .i64) x.page, (Value.int .i64) x.size, (Value.int .i64) x.frame, (Value.int .i64) x.rights] 24
  have x0 := (Ext.refl w).alloc (.cells #[(Value.int .i64) x.page, (Value.int .i64) x.size, (Value.int .i64) x.frame, (Value.int .i64) x.rights] 24)
  have HC := Lib.hid (mapFault_any x)
  by_cases hck : check x = 0
  case neg =>
    have hic : insC s root x = check x := by unfold insC; rw [if_pos hck]
    have HI := Lib.hid (And.intro hic (insS_no' (s := s) (r := root) (x := x) (by rw [hic]; exact hck)))
    have hn : (check x != 0) = true := by simpa using hck
    rw [HI.out.1, HI.out.2]
    generalize check x = cx at *
    clear hck h hic
    obtain ⟨c0, c1, c2, c3⟩ := h0.cells4
    go_enter Try.func14, Try.ntmps14
    go_wp2_with fail
    refine (HC.out _).mono ?_; rintro e w2 ⟨rfl, b2⟩
    go_wp2_with fail
    go_ret
    exact ⟨rfl, h0.right.below b2, x0.below b2⟩
  obtain ⟨hp, z, hz0, hz2⟩ := check_hasB hck
  have HZ := Lib.hid hz0
  clear hz0
  have W1 := Lib.hid (fun w' (h : Has w' (memAt q s * (blk w.heap.size #[(Value.int .i64) x.page, (Value.int .i64) x.size, (Value.int .i64) x.frame, (Value.int .i64) x.rights] 24 * R))) => wayTo_any q s root x.page _ w' hs h)
  rw [hck] at HC
  by_cases hcode : (way s root x.page).code = 0
  case neg =>
    have hic : insC s root x = (way s root x.page).code := by unfold insC; rw [if_neg (by rw [hck]; simp), if_pos hcode]
    have HI := Lib.hid (And.intro hic (insS_no' (s := s) (r := root) (x := x) (by rw [hic]; exact hcode)))
    rw [HI.out.1, HI.out.2]
    clear hic hck h
    generalize way s root x.page = y at *
    obtain ⟨code, tabs, lev, th, lf, rg, us, di, fr⟩ := y
    dsimp only at *
    have hn : (code != 0) = true := by simpa using hcode
    clear hcode
    obtain ⟨c0, c1, c2, c3⟩ := h0.cells4
    have cl := h0.lt
    go_enter Try.func14, Try.ntmps14
    go_wp2_with fail
    refine (HC.out _).mono ?_; rintro e w2 ⟨rfl, b2⟩
    have h2 := h0.below b2
    have x2 := x0.below b2
    clear h0 x0 b2 c0 c1 c2 c3 cl
    obtain ⟨c0, c1, c2, c3⟩ := h2.cells4
    have cl := h2.lt
    go_wp2_with fail
    refine (W1.out _ h2.p2).mono ?_; rintro e w3 hF
    obtain ⟨A, c, rfl, h3, x3⟩ : ∃ (A : Option Addr) (c : Nat), e = .returned (.tuple #[.agg #[.slice A tabs.length c, Value.bool th, Value.bool lf, (Value.int .i64) rg, Value.bool us, Value.bool di, (Value.int .i64) fr, (Value.int .i64) lev], (Value.int .i64) code]) ∧ Has w3 (irow (.slice A tabs.length c) tabs * old w2 w2.heap.size) ∧ Ext w2 w3 := hF
    have h5 : Has _ (blk w3.heap.size #[.slice A tabs.length c, Value.bool th, Value.bool lf, (Value.int .i64) rg, Value.bool us, Value.bool di, (Value.int .i64) fr, (Value.int .i64) lev] 112 * (irow (.slice A tabs.length c) tabs * (blk w.heap.size #[(Value.int .i64) x.page, (Value.int .i64) x.size, (Value.int .i64) x.frame, (Value.int .i64) x.rights] 24 * (memAt q s * R)))) := (h2.onto' h3).new #[.slice A tabs.length c, Value.bool th, Value.bool lf, (Value.int .i64) rg, Value.bool us, Value.bool di, (Value.int .i64) fr, (Value.int .i64) lev] 112
    have x5 := (x2.trans x3).alloc (.cells #[.slice A tabs.length c, Value.bool th, Value.bool lf, (Value.int .i64) rg, Value.bool us, Value.bool di, (Value.int .i64) fr, (Value.int .i64) lev] 112)
    clear h2 x2 h3 x3 c0 c1 c2 c3 cl W1 HC
    go_upto_region 5 with fail
    generalize w3.alloc (.cells #[.slice A tabs.length c, Value.bool th, Value.bool lf, (Value.int .i64) rg, Value.bool us, Value.bool di, (Value.int .i64) fr, (Value.int .i64) lev] 112) = w5 at *
    generalize w3.heap.size = X1 at *
    generalize w.heap.size = X0 at *
    obtain ⟨c0, c1, c2, c3⟩ := h5.right.right.cells4
    have cl := h5.right.right.lt
    obtain ⟨k0, k1, k2, k3, k4, k5, k6, k7⟩ := h5.cells8
    have kl := h5.lt
    go_wp2_with fail
    go_ret
    exact ⟨rfl, h5.right.right.right, x5⟩
  by_cases hbad : (way s root x.page).e.there = true ∨ (way s root x.page).lev < x.size
  case pos =>
    have hic : insC s root x = 4 := by unfold insC; rw [if_neg (by rw [hck]; simp), if_neg (by rw [hcode]; simp), if_pos hbad]
    have HI := Lib.hid (And.intro hic (insS_no' (s := s) (r := root) (x := x) (by rw [hic]; decide)))
    rw [HI.out.1, HI.out.2]
    clear hic hck h
    generalize way s root x.page = y at *
    obtain ⟨code, tabs, lev, th, lf, rg, us, di, fr⟩ := y
    dsimp only at *
    subst hcode
    cases th with
    | true =>
      clear hbad
      obtain ⟨c0, c1, c2, c3⟩ := h0.cells4
      have cl := h0.lt
      go_enter Try.func14, Try.ntmps14
      go_wp2_with fail
      refine (HC.out _).mono ?_; rintro e w2 ⟨rfl, b2⟩
      have h2 := h0.below b2
      have x2 := x0.below b2
      clear h0 x0 b2 c0 c1 c2 c3 cl
      obtain ⟨c0, c1, c2, c3⟩ := h2.cells4
      have cl := h2.lt
      go_wp2_with fail
      refine (W1.out _ h2.p2).mono ?_; rintro e w3 hF
      obtain ⟨A, c, rfl, h3, x3⟩ : ∃ (A : Option Addr) (c : Nat), e = .returned (.tuple #[.agg #[.slice A tabs.length c, Value.bool true, Value.bool lf, (Value.int .i64) rg, Value.bool us, Value.bool di, (Value.int .i64) fr, (Value.int .i64) lev], (Value.int .i64) 0]) ∧ Has w3 (irow (.slice A tabs.length c) tabs * old w2 w2.heap.size) ∧ Ext w2 w3 := hF
      have h5 : Has _ (blk w3.heap.size #[.slice A tabs.length c, Value.bool true, Value.bool lf, (Value.int .i64) rg, Value.bool us, Value.bool di, (Value.int .i64) fr, (Value.int .i64) lev] 112 * (irow (.slice A tabs.length c) tabs * (blk w.heap.size #[(Value.int .i64) x.page, (Value.int .i64) x.size, (Value.int .i64) x.frame, (Value.int .i64) x.rights] 24 * (memAt q s * R)))) := (h2.onto' h3).new #[.slice A tabs.length c, Value.bool true, Value.bool lf, (Value.int .i64) rg, Value.bool us, Value.bool di, (Value.int .i64) fr, (Value.int .i64) lev] 112
      have x5 := (x2.trans x3).alloc (.cells #[.slice A tabs.length c, Value.bool true, Value.bool lf, (Value.int .i64) rg, Value.bool us, Value.bool di, (Value.int .i64) fr, (Value.int .i64) lev] 112)
      clear h2 x2 h3 x3 c0 c1 c2 c3 cl W1 HC
      go_upto_region 5 with fail
      generalize w3.alloc (.cells #[.slice A tabs.length c, Value.bool true, Value.bool lf, (Value.int .i64) rg, Value.bool us, Value.bool di, (Value.int .i64) fr, (Value.int .i64) lev] 112) = w5 at *
      generalize w3.heap.size = X1 at *
      generalize w.heap.size = X0 at *
      obtain ⟨c0, c1, c2, c3⟩ := h5.right.right.cells4
      have cl := h5.right.right.lt
      obtain ⟨k0, k1, k2, k3, k4, k5, k6, k7⟩ := h5.cells8
      have kl := h5.lt
      go_wp2_with fail
      go_ret
      exact ⟨rfl, h5.right.right.right, x5⟩
    | false =>
      have hlt : lev < x.size := by rcases hbad with h | h; · cases h
                                    · exact h
      clear hbad
      obtain ⟨c0, c1, c2, c3⟩ := h0.cells4
      have cl := h0.lt
      go_enter Try.func14, Try.ntmps14
      go_wp2_with fail
      refine (HC.out _).mono ?_; rintro e w2 ⟨rfl, b2⟩
      have h2 := h0.below b2
      have x2 := x0.below b2
      clear h0 x0 b2 c0 c1 c2 c3 cl
      obtain ⟨c0, c1, c2, c3⟩ := h2.cells4
      have cl := h2.lt
      go_wp2_with fail
      refine (W1.out _ h2.p2).mono ?_; rintro e w3 hF
      obtain ⟨A, c, rfl, h3, x3⟩ : ∃ (A : Option Addr) (c : Nat), e = .returned (.tuple #[.agg #[.slice A tabs.length c, Value.bool false, Value.bool lf, (Value.int .i64) rg, Value.bool us, Value.bool di, (Value.int .i64) fr, (Value.int .i64) lev], (Value.int .i64) 0]) ∧ Has w3 (irow (.slice A tabs.length c) tabs * old w2 w2.heap.size) ∧ Ext w2 w3 := hF
      have h5 : Has _ (blk w3.heap.size #[.slice A tabs.length c, Value.bool false, Value.bool lf, (Value.int .i64) rg, Value.bool us, Value.bool di, (Value.int .i64) fr, (Value.int .i64) lev] 112 * (irow (.slice A tabs.length c) tabs * (blk w.heap.size #[(Value.int .i64) x.page, (Value.int .i64) x.size, (Value.int .i64) x.frame, (Value.int .i64) x.rights] 24 * (memAt q s * R)))) := (h2.onto' h3).new #[.slice A tabs.length c, Value.bool false, Value.bool lf, (Value.int .i64) rg, Value.bool us, Value.bool di, (Value.int .i64) fr, (Value.int .i64) lev] 112
      have x5 := (x2.trans x3).alloc (.cells #[.slice A tabs.length c, Value.bool false, Value.bool lf, (Value.int .i64) rg, Value.bool us, Value.bool di, (Value.int .i64) fr, (Value.int .i64) lev] 112)
      clear h2 x2 h3 x3 c0 c1 c2 c3 cl W1 HC
      go_upto_region 5 with fail
      generalize w3.alloc (.cells #[.slice A tabs.length c, Value.bool false, Value.bool lf, (Value.int .i64) rg, Value.bool us, Value.bool di, (Value.int .i64) fr, (Value.int .i64) lev] 112) = w5 at *
      generalize w3.heap.size = X1 at *
      generalize w.heap.size = X0 at *
      obtain ⟨c0, c1, c2, c3⟩ := h5.right.right.cells4
      have cl := h5.right.right.lt
      obtain ⟨k0, k1, k2, k3, k4, k5, k6, k7⟩ := h5.cells8
      have kl := h5.lt
      go_wp2_with fail
      go_ret
      exact ⟨rfl, h5.right.right.right, x5⟩
  obtain ⟨_, n, hn, hn3, hl, hu⟩ := way_tabs hcode
  have hth : (way s root x.page).e.there = false := by cases h : (way s root x.page).e.there; · rfl
                                                       · exact absurd (.inl h) hbad
  obtain ⟨m, hm⟩ : ∃ m : Nat, n + m + z = 3 := ⟨3 - n - z, by have := HZ.out; have hls : ¬ ((way s root x.page).lev < x.size) := fun h => hbad (.inr h); omega⟩
  have hmm : (way s root x.page).lev - x.size = (m : Int) := by have := HZ.out; omega
  have HFR := Lib.hid (fun R w h => freeM (q := q) (s := s) (R := R) (w := w) h hs)
  have hmw : IntKind.i64.wrap (m : Int) = (m : Int) := by rw [IntKind.wrap_i64]; omega
  by_cases hfull : s.frees.length < m
  case pos =>
    have hic : insC s root x = 6 := by
      unfold insC
      rw [if_neg (by rw [hck]; simp), if_neg (by rw [hcode]; simp), if_neg hbad, if_pos (by have := HZ.out; omega)]
    have HI := Lib.hid (And.intro hic (insS_no' (s := s) (r := root) (x := x) (by rw [hic]; decide)))
    rw [HI.out.1, HI.out.2]
    clear hic hck h hu hn hl
    generalize way s root x.page = y at *
    obtain ⟨code, tabs, lev, th, lf, rg, us, di, fr⟩ := y
    dsimp only at *
    subst hcode hth
    clear hbad
    obtain ⟨c0, c1, c2, c3⟩ := h0.cells4
    have cl := h0.lt
    go_enter Try.func14, Try.ntmps14
    go_wp2_with fail
    refine (HC.out _).mono ?_; rintro e w2 ⟨rfl, b2⟩
    have h2 := h0.below b2
    have x2 := x0.below b2
    clear h0 x0 b2 c0 c1 c2 c3 cl
    obtain ⟨c0, c1, c2, c3⟩ := h2.cells4
    have cl := h2.lt
    go_wp2_with fail
    refine (W1.out _ h2.p2).mono ?_; rintro e w3 hF
    obtain ⟨A, c, rfl, h3, x3⟩ : ∃ (A : Option Addr) (c : Nat), e = .returned (.tuple #[.agg #[.slice A tabs.length c, Value.bool false, Value.bool lf, (Value.int .i64) rg, Value.bool us, Value.bool di, (Value.int .i64) fr, (Value.int .i64) lev], (Value.int .i64) 0]) ∧ Has w3 (irow (.slice A tabs.length c) tabs * old w2 w2.heap.size) ∧ Ext w2 w3 := hF
    have h5 : Has _ (blk w3.heap.size #[.slice A tabs.length c, Value.bool false, Value.bool lf, (Value.int .i64) rg, Value.bool us, Value.bool di, (Value.int .i64) fr, (Value.int .i64) lev] 112 * (irow (.slice A tabs.length c) tabs * (blk w.heap.size #[(Value.int .i64) x.page, (Value.int .i64) x.size, (Value.int .i64) x.frame, (Value.int .i64) x.rights] 24 * (memAt q s * R)))) := (h2.onto' h3).new #[.slice A tabs.length c, Value.bool false, Value.bool lf, (Value.int .i64) rg, Value.bool us, Value.bool di, (Value.int .i64) fr, (Value.int .i64) lev] 112
    have x5 := (x2.trans x3).alloc (.cells #[.slice A tabs.length c, Value.bool false, Value.bool lf, (Value.int .i64) rg, Value.bool us, Value.bool di, (Value.int .i64) fr, (Value.int .i64) lev] 112)
    clear h2 x2 h3 x3 c0 c1 c2 c3 cl W1 HC
    go_upto_region 5 with fail
    generalize w3.alloc (.cells #[.slice A tabs.length c, Value.bool false, Value.bool lf, (Value.int .i64) rg, Value.bool us, Value.bool di, (Value.int .i64) fr, (Value.int .i64) lev] 112) = w5 at *
    generalize w3.heap.size = X1 at *
    generalize w.heap.size = X0 at *
    obtain ⟨c0, c1, c2, c3⟩ := h5.right.right.cells4
    have cl := h5.right.right.lt
    obtain ⟨k0, k1, k2, k3, k4, k5, k6, k7⟩ := h5.cells8
    have kl := h5.lt
    have hmw2 : IntKind.i64.wrap (lev - x.size) = (m : Int) := by rw [hmm]; exact hmw
    have hfi : (s.frees.length : Int) < (m : Int) := by omega
    go_upto_region 9 with fail
    have v1 := via_cell c1
    have v7 := via_cell k7
    have HFW := Lib.hid (fun u => HFR.out _ _ ((h5.via u).eq (show _ = memAt q s * (blk X1 #[.slice A tabs.length c, Value.bool false, Value.bool lf, (Value.int .i64) rg, Value.bool us, Value.bool di, (Value.int .i64) fr, (Value.int .i64) lev] 112 * (irow (.slice A tabs.length c) tabs * (blk X0 #[(Value.int .i64) x.page, (Value.int .i64) x.size, (Value.int .i64) x.frame, (Value.int .i64) x.rights] 24 * R))) by ac_rfl)))
    refine wp_region_via (by kernel_rfl) (by kernel_rfl) ?_
    repeat (first | go_big_quiet_step ((go_at_call 26; exact Pure.via (HFW.out _))) | quiet_step ((go_at_call 26; exact Pure.via (HFW.out _))))
    refine wpQuiet_nil ?_
    intro _ hw'
    obtain ⟨uq, hw''⟩ := hw'
    subst hw''
    have h6 := h5.via uq
    have x6 := x5.below (via_below _ uq)
    generalize via w5 uq = w6 at *
    go_wp2_with fail
    go_ret
    exact ⟨rfl, h6.right.right.right, x6⟩
  have hic : insC s root x = 0 := by
    unfold insC
    rw [if_neg (by rw [hck]; simp), if_neg (by rw [hcode]; simp), if_neg hbad, if_neg (by have := HZ.out; omega)]
  obtain ⟨t, ht⟩ : ∃ t, (way s root x.page).tabs[n]? = some t := ⟨_, List.getElem?_eq_getElem (by omega)⟩
  have hht : s.has t = true := hu t (by obtain ⟨hl, e⟩ := List.getElem?_eq_some_iff.1 ht; exact e ▸ List.getElem_mem hl)
  have hins : insS s root x = chain s x.page (encW (leafE x) x.size) z m t := by
    unfold insS
    rw [if_pos hic, last_get' hn ht]
    have e1 : ((way s root x.page).lev - x.size).toNat = m := by omega
    have e2 : x.size.toNat = z := by have := HZ.out; omega
    rw [e1, e2]
  have HIC := Lib.hid hic
  have HINS := Lib.hid hins
  rw [HIC.out]
  obtain ⟨ht0, htn, _⟩ := Ms.has_iff.1 hht
  obtain ⟨tn, rfl⟩ := Int.eq_ofNat_of_zero_le ht0
  generalize insS s root x = sF at *
  have HN := Lib.hid hn
  have HT := Lib.hid ht
  have HHT := Lib.hid hht
  clear hic hck h hu hn ht hins ht0 HIC hht htn
  generalize way s root x.page = y at *
  obtain ⟨code, tabs, lev, th, lf, rg, us, di, fr⟩ := y
  dsimp only at *
  subst hcode hth
  have HLV := Lib.hid hl
  clear hbad hl
  obtain ⟨c0, c1, c2, c3⟩ := h0.cells4
  have cl := h0.lt
  go_enter Try.func14, Try.ntmps14
  go_wp2_with fail
  refine (HC.out _).mono ?_; rintro e w2 ⟨rfl, b2⟩
  have h2 := h0.below b2
  have x2 := x0.below b2
  clear h0 x0 b2 c0 c1 c2 c3 cl
  obtain ⟨c0, c1, c2, c3⟩ := h2.cells4
  have cl := h2.lt
  go_wp2_with fail
  refine (W1.out _ h2.p2).mono ?_; rintro e w3 hF
  obtain ⟨A, c, rfl, h3, x3⟩ : ∃ (A : Option Addr) (c : Nat), e = .returned (.tuple #[.agg #[.slice A tabs.length c, Value.bool false, Value.bool lf, (Value.int .i64) rg, Value.bool us, Value.bool di, (Value.int .i64) fr, (Value.int .i64) lev], (Value.int .i64) 0]) ∧ Has w3 (irow (.slice A tabs.length c) tabs * old w2 w2.heap.size) ∧ Ext w2 w3 := hF
  have h5 : Has _ (blk w3.heap.size #[.slice A tabs.length c, Value.bool false, Value.bool lf, (Value.int .i64) rg, Value.bool us, Value.bool di, (Value.int .i64) fr, (Value.int .i64) lev] 112 * (irow (.slice A tabs.length c) tabs * (blk w.heap.size #[(Value.int .i64) x.page, (Value.int .i64) x.size, (Value.int .i64) x.frame, (Value.int .i64) x.rights] 24 * (memAt q s * R)))) := (h2.onto' h3).new #[.slice A tabs.length c, Value.bool false, Value.bool lf, (Value.int .i64) rg, Value.bool us, Value.bool di, (Value.int .i64) fr, (Value.int .i64) lev] 112
  have x5 := (x2.trans x3).alloc (.cells #[.slice A tabs.length c, Value.bool false, Value.bool lf, (Value.int .i64) rg, Value.bool us, Value.bool di, (Value.int .i64) fr, (Value.int .i64) lev] 112)
  clear h2 x2 h3 x3 c0 c1 c2 c3 cl W1 HC
  go_upto_region 5 with fail
  generalize w3.alloc (.cells #[.slice A tabs.length c, Value.bool false, Value.bool lf, (Value.int .i64) rg, Value.bool us, Value.bool di, (Value.int .i64) fr, (Value.int .i64) lev] 112) = w5 at *
  generalize w3.heap.size = X1 at *
  generalize w.heap.size = X0 at *
  obtain ⟨c0, c1, c2, c3⟩ := h5.right.right.cells4
  have cl := h5.right.right.lt
  obtain ⟨k0, k1, k2, k3, k4, k5, k6, k7⟩ := h5.cells8
  have kl := h5.lt
  have hmw2 : IntKind.i64.wrap (lev - x.size) = (m : Int) := by rw [hmm]; exact hmw
  have hfi : ¬ ((s.frees.length : Int) < (m : Int)) := by omega
  go_upto_region 9 with fail
  have v1 := via_cell c1
  have v7 := via_cell k7
  have HFW := Lib.hid (fun u => HFR.out _ _ ((h5.via u).eq (show _ = memAt q s * (blk X1 #[.slice A tabs.length c, Value.bool false, Value.bool lf, (Value.int .i64) rg, Value.bool us, Value.bool di, (Value.int .i64) fr, (Value.int .i64) lev] 112 * (irow (.slice A tabs.length c) tabs * (blk X0 #[(Value.int .i64) x.page, (Value.int .i64) x.size, (Value.int .i64) x.frame, (Value.int .i64) x.rights] 24 * R))) by ac_rfl)))
  refine wp_region_via (by kernel_rfl) (by kernel_rfl) ?_
  repeat (first | go_big_quiet_step ((go_at_call 26; exact Pure.via (HFW.out _))) | quiet_step ((go_at_call 26; exact Pure.via (HFW.out _))))
  refine wpQuiet_nil ?_
  intro _ hw'
  obtain ⟨uq, hw''⟩ := hw'
  subst hw''
  have h6 := h5.via uq
  have x6 := x5.below (via_below _ uq)
  generalize via w5 uq = w6 at *
  clear h5 x5 v1 v7 HFW HFR c0 c1 c2 c3 cl k0 k1 k2 k3 k4 k5 k6 k7 kl
  obtain ⟨bA, hA1, hA2, hA3⟩ := irow_at h6.right (k := n) (by have := HN.out; omega)
  rw [(List.getElem?_eq_some_iff.1 HT.out).2] at hA3
  subst hA1
  have hlen1 : ((tabs.length : Nat) : Int) - 1 = (n : Int) := by have := HN.out; omega
  have hni : (n : Int) < tabs.length := by have := HN.out; omega
  have hn0 : ¬ ((n : Int) < 0) := by omega
  have hn00 : (0 : Int) ≤ (n : Int) := by omega
  have hwn : IntKind.i64.wrap (n : Int) = (n : Int) := by rw [IntKind.wrap_i64]; omega
  have hwn2 : IntKind.i64.wrap (((tabs.length : Nat) : Int) - 1) = (n : Int) := by rw [hlen1]; exact hwn
  obtain ⟨k0, k1, k2, k3, k4, k5, k6, k7⟩ := h6.cells8
  have kl := h6.lt
  go_upto_region 13 with fail
  obtain ⟨QQ, hQQ⟩ : ∃ Q : HProp, Q = (blk X1 #[.slice (some ⟨bA, 0, none⟩) tabs.length c, Value.bool false, Value.bool lf, (Value.int .i64) rg, Value.bool us, Value.bool di, (Value.int .i64) fr, (Value.int .i64) lev] 112 * irow (.slice (some ⟨bA, 0, none⟩) tabs.length c) tabs) := ⟨_, rfl⟩
  have h7 : Has w6 (memAt q s * (blk X0 #[(Value.int .i64) x.page, (Value.int .i64) x.size, (Value.int .i64) x.frame, (Value.int .i64) x.rights] 24 * (QQ * R))) := by rw [hQQ]; exact h6.eq (by ac_rfl)
  obtain ⟨g0, hg0⟩ : ∃ g0 : Nat, lev = (g0 : Int) := ⟨z + m, by have := HLV.out; omega⟩
  have hlw := encW_u64 (leafE x) x.size
  have HOUT := Lib.hid (show g0 = z + m ∧ m ≤ m ∧ m ≤ s.frees.length ∧ s.Ok ∧ s.has (tn : Int) = true ∧ sF = chain s x.page (encW (leafE x) x.size) z m tn from ⟨by have := HLV.out; omega, Nat.le_refl _, by omega, hs, HHT.out, HINS.out⟩)
  have HG0 := Lib.hid hg0
  clear h6 k0 k1 k2 k3 k4 k5 k6 k7 kl hA2 hA3 hQQ hlen1 hni hn0 hn00 hwn hwn2 hmw2 hfi hfull hg0
  go_loopw [10, 11] (fun t10 t11 wr => ∃ (m' g tt : Nat) (σ : Ms), t10 = (Value.int .i64) (tt : Int) ∧ t11 = (Value.int .i64) (g : Int) ∧ Hid (g = z + m' ∧ m' ≤ m ∧ m' ≤ σ.frees.length ∧ σ.Ok ∧ σ.has (tt : Int) = true ∧ sF = chain σ x.page (encW (leafE x) x.size) z m' tt) ∧ Has wr (memAt q σ * (blk X0 #[(Value.int .i64) x.page, (Value.int .i64) x.size, (Value.int .i64) x.frame, (Value.int .i64) x.rights] 24 * (QQ * R))) ∧ Ext w wr) (fun _ t11 _ => (intOf t11).toNat)
  case atStart => exact ⟨m, g0, tn, s, rfl, by rw [HG0.out], HOUT, h7, x6⟩
  case round =>
    clear h7 x6 HOUT
    obtain ⟨m', g, tt, σ, rfl, rfl, HO, hr, hx⟩ := hrel
    obtain ⟨hgz, hmm', hmf, hσ, hht, hch⟩ := HO.out
    obtain ⟨_, htn', _⟩ := Ms.has_iff.1 hht
    have hixr := index_le (p := x.page) (L := (g : Int)) hp (by omega) (by omega)
    obtain ⟨j, hj⟩ := Int.eq_ofNat_of_zero_le hixr.1
    have hj8n : j < 8 := by have := hixr.2; omega
    have hj8 : (j : Int) < 8 := by omega
    obtain ⟨c0, c1, c2, c3⟩ := hr.right.cells4
    have cl := hr.right.lt
    by_cases hm0 : m' = 0
    · have hcond : ¬ (x.size < (g : Int)) := by have := HZ.out; omega
      have hfin : sF = σ.setW tt j (encW (leafE x) x.size) := by
        rw [hch, hm0]
        show σ.setW (tt : Int).toNat (index x.page z).toNat _ = _
        have e : ((z : Nat) : Int) = (g : Int) := by omega
        rw [e, hj]
        rfl
      have hjs : index x.page x.size = (j : Int) := by
        have e : x.size = (g : Int) := by have := HZ.out; omega
        rw [e, hj]; done
      have HWD := Lib.hid (fun Y => wordOf_any (leafE x) x.size Y)
      unfold leafE at HWD
      dsimp only at HWD
      have HI2 := Lib.hid (fun Y => indexOf_any x.page x.size Y)
      rw [hjs] at HI2
      have htn : tt < σ.n := by omega
      have htnz : (tt : Int) < (σ.n : Int) := by omega
      have HFIN := Lib.hid hfin
      unfold leafE at HFIN
      clear hgz hmm' hmf hσ hht hch htn' hixr hj hm0 HO hjs hfin
      generalize encW ⟨true, true, x.rights, false, false, x.frame⟩ x.size = nw at *
      generalize entFault ⟨true, true, x.rights, false, false, x.frame⟩ x.size = ff at *
      obtain ⟨gw, gi, vk, hq⟩ := memAt_open hr
      have HK := Lib.hid (fun (w' : World) (sx : Ms) (h : Has w' (memIn q gw gi vk sx (blk X0 #[(Value.int .i64) x.page, (Value.int .i64) x.size, (Value.int .i64) x.frame, (Value.int .i64) x.rights] 24 * (QQ * R)))) => (by
        obtain ⟨m0, m1, m2, m3⟩ := h.right.right.right.right.cells4
        exact ⟨Has.cell h 0, m0, m1, m2, m3⟩ : w'.cell? ⟨q, 0, none⟩ = some (.slice (some ⟨gw, 0, none⟩) sx.n sx.n) ∧ w'.cell? ⟨X0, 0, none⟩ = some ((Value.int .i64) x.page) ∧ w'.cell? ⟨X0, 1, none⟩ = some ((Value.int .i64) x.size) ∧ w'.cell? ⟨X0, 2, none⟩ = some ((Value.int .i64) x.frame) ∧ w'.cell? ⟨X0, 3, none⟩ = some ((Value.int .i64) x.rights)))
      have hq0 := hq.drew
      have xq0 := hx.drew
      go_upto_region 18 with fail
      go_cut [] from 84 to 107 (fun wx => Has wx (memAt q (σ.setW tt j nw) * (blk X0 #[(Value.int .i64) x.page, (Value.int .i64) x.size, (Value.int .i64) x.frame, (Value.int .i64) x.rights] 24 * (QQ * R))) ∧ Ext w wx)
      case first =>
        go_region_held3 (fun w' => w'.cell? ⟨q, 0, none⟩ = some (.slice (some ⟨gw, 0, none⟩) σ.n σ.n) ∧ w'.cell? ⟨X0, 0, none⟩ = some ((Value.int .i64) x.page) ∧ w'.cell? ⟨X0, 1, none⟩ = some ((Value.int .i64) x.size) ∧ w'.cell? ⟨X0, 2, none⟩ = some ((Value.int .i64) x.frame) ∧ w'.cell? ⟨X0, 3, none⟩ = some ((Value.int .i64) x.rights)) (first | (with_reducible exact HK.out _ σ hq0) | (with_reducible exact HK.out _ σ hi5) | (with_reducible exact HK.out _ σ hw6) | (exact HK.out _ (σ.setW tt j nw) (mem_setW (k := tt) (i := j) hw6 hj8n nw)) | (exact HK.out _ (σ.setW tt j nw) (mem_setW (k := tt) (i := j) hi5 hj8n nw)) | go_keep) (first | (go_at_call 67; (with_reducible refine (HI2.out _).mono ?_); rintro e2 w5 ⟨rfl, b5⟩; first | (have hi5 := hw6.below b5; have xi5 := xw6.below b5; have y0 := mem_word hi5 htn hj8n; have y1 := hi5.right.free (tt * 8 + j); have y2 := hi5.right.lt) | (have hi5 := hq0.below b5; have xi5 := xq0.below b5)) | (go_at_call 66; (with_reducible refine (HWD.out _).mono ?_); rintro e2 w6 ⟨rfl, b6⟩; first | (have hw6 := hi5.below b6; have xw6 := xi5.below b6; have y0 := mem_word hw6 htn hj8n; have y1 := hw6.right.free (tt * 8 + j); have y2 := hw6.right.lt) | (have hw6 := hq0.below b6; have xw6 := xq0.below b6)))
        all_goals
          go_wp2_with fail
          go_meet
          case rel => first | exact ⟨memAt_shut (mem_setW (k := tt) (i := j) hw6 hj8n nw), xw6.set _ _⟩ | exact ⟨memAt_shut (mem_setW (k := tt) (i := j) hi5 hj8n nw), xi5.set _ _⟩
      case rest =>
        clear hq hq0 xq0 hr hx HK c0 c1 c2 c3 cl
        obtain ⟨h9, x10⟩ := hcut
        go_wp2_with fail
        go_ret
        exact ⟨rfl, by rw [HFIN.out]; exact (h9.eq (show _ = blk X0 #[(Value.int .i64) x.page, (Value.int .i64) x.size, (Value.int .i64) x.frame, (Value.int .i64) x.rights] 24 * (QQ * (memAt q (σ.setW tt j nw) * R)) by ac_rfl)).right.right, x10⟩
    · obtain ⟨m2, hm2⟩ : ∃ m2, m' = m2 + 1 := ⟨m' - 1, by omega⟩
      have hcond : x.size < (g : Int) := by have := HZ.out; omega
      obtain ⟨k, hk⟩ := top_of (s := σ) (by omega)
      have hkl := Ms.top_lt hσ.inv hk
      have e1 : σ.takeS = σ.take k := by unfold Ms.takeS; rw [hk]
      have eV : σ.topV = (k : Int) := by unfold Ms.topV; rw [hk]
      have hok2 := hσ.takeS
      have hfl2 := frees_take_len hk
      have HT := Lib.hid (fun R w h => takeM q σ R w h hσ)
      rw [e1] at HT hok2
      rw [eV] at HT
      have hnw : encW ⟨true, false, 7, false, false, (k : Int)⟩ (g : Int) = tabW k (z + m2 + 1) := by
        unfold tabW tabE
        congr 1
        omega
      have hu64 := encW_u64 ⟨true, false, 7, false, false, (k : Int)⟩ (g : Int)
      have hch2 : sF = chain ((σ.take k).setW tt j (encW ⟨true, false, 7, false, false, (k : Int)⟩ (g : Int))) x.page (encW (leafE x) x.size) z m2 (k : Int) := by
        rw [hch, hm2]
        conv => lhs; unfold chain
        rw [hk]
        dsimp only
        rw [hnw]
        have e : ((z + m2 + 1 : Nat) : Int) = (g : Int) := by omega
        rw [e, hj]
        rfl
      have HO2 := Lib.hid (show g - 1 = z + m2 ∧ m2 ≤ m ∧ m2 ≤ ((σ.take k).setW tt j (encW ⟨true, false, 7, false, false, (k : Int)⟩ (g : Int))).frees.length ∧ ((σ.take k).setW tt j (encW ⟨true, false, 7, false, false, (k : Int)⟩ (g : Int))).Ok ∧ ((σ.take k).setW tt j (encW ⟨true, false, 7, false, false, (k : Int)⟩ (g : Int))).has (k : Int) = true ∧ sF = chain ((σ.take k).setW tt j (encW ⟨true, false, 7, false, false, (k : Int)⟩ (g : Int))) x.page (encW (leafE x) x.size) z m2 (k : Int) from
        ⟨by omega, by omega, by show m2 ≤ (σ.take k).frees.length; omega, ⟨hok2.inv.setW _ _ hu64, hok2.small⟩, by show (σ.take k).has (k : Int) = true; exact has_take_self hkl.1, hch2⟩)
      have HWD := Lib.hid (fun Y => wordOf_any ⟨true, false, 7, false, false, (k : Int)⟩ (g : Int) Y)
      dsimp only at HWD
      have HI2 := Lib.hid (fun Y => indexOf_any x.page (g : Int) Y)
      rw [hj] at HI2
      have hn2 : (σ.take k).n = σ.n := rfl
      have htnn : tt < (σ.take k).n := by rw [hn2]; omega
      have hg1 : (g : Int) - 1 = ((g - 1 : Nat) : Int) := by omega
      have hgw : IntKind.i64.wrap (((g - 1 : Nat)) : Int) = ((g - 1 : Nat) : Int) := by rw [IntKind.wrap_i64]; omega
      have hgpos : 0 < g := by omega
      have HGP := Lib.hid (And.intro hg1 (And.intro hgw hgpos))
      clear hgz hmm' hmf hσ hht hch htn' hixr hj hm0 hm2 hk hkl e1 eV hok2 hfl2 hnw hu64 hch2 hn2 hg1 hgw hgpos HO
      generalize encW ⟨true, false, 7, false, false, (k : Int)⟩ (g : Int) = nw at *
      generalize entFault ⟨true, false, 7, false, false, (k : Int)⟩ (g : Int) = ff at *
      generalize σ.take k = σ2 at *
      go_wp2_with fail
      refine (HT.out _ _ hr).mono ?_; rintro e w8 ⟨rfl, h8, x8⟩
      have x9 := hx.trans x8
      clear c0 c1 c2 c3 cl hr hx x8 HT
      obtain ⟨gw, gi, vk, hq⟩ := memAt_open h8
      have HK := Lib.hid (fun (w' : World) (sx : Ms) (h : Has w' (memIn q gw gi vk sx (blk X0 #[(Value.int .i64) x.page, (Value.int .i64) x.size, (Value.int .i64) x.frame, (Value.int .i64) x.rights] 24 * (QQ * R)))) => (by
        obtain ⟨m0, m1, m2, m3⟩ := h.right.right.right.right.cells4
        exact ⟨Has.cell h 0, m0⟩ : w'.cell? ⟨q, 0, none⟩ = some (.slice (some ⟨gw, 0, none⟩) sx.n sx.n) ∧ w'.cell? ⟨X0, 0, none⟩ = some ((Value.int .i64) x.page)))
      have htn : tt < σ2.n := htnn
      have htnz : (tt : Int) < (σ2.n : Int) := by omega
      have hn128 : True := trivial
      have hq0 := hq.drew
      have xq0 := x9.drew
      go_upto_region 16 with fail
      go_cut [] from 65 to 83 (fun wx => Has wx (memAt q (σ2.setW tt j nw) * (blk X0 #[(Value.int .i64) x.page, (Value.int .i64) x.size, (Value.int .i64) x.frame, (Value.int .i64) x.rights] 24 * (QQ * R))) ∧ Ext w wx)
      case first =>
        go_region_held3 (fun w' => w'.cell? ⟨q, 0, none⟩ = some (.slice (some ⟨gw, 0, none⟩) σ2.n σ2.n) ∧ w'.cell? ⟨X0, 0, none⟩ = some ((Value.int .i64) x.page)) (first | (with_reducible exact HK.out _ σ2 hq0) | (with_reducible exact HK.out _ σ2 hi5) | (with_reducible exact HK.out _ σ2 hw6) | (exact HK.out _ (σ2.setW tt j nw) (mem_setW (k := tt) (i := j) hw6 hj8n nw)) | (exact HK.out _ (σ2.setW tt j nw) (mem_setW (k := tt) (i := j) hi5 hj8n nw)) | go_keep) (first | (go_at_call 67; (with_reducible refine (HI2.out _).mono ?_); rintro e2 w5 ⟨rfl, b5⟩; first | (have hi5 := hw6.below b5; have xi5 := xw6.below b5; have y0 := mem_word hi5 htn hj8n; have y1 := hi5.right.free (tt * 8 + j); have y2 := hi5.right.lt) | (have hi5 := hq0.below b5; have xi5 := xq0.below b5)) | (go_at_call 66; (with_reducible refine (HWD.out _).mono ?_); rintro e2 w6 ⟨rfl, b6⟩; first | (have hw6 := hi5.below b6; have xw6 := xi5.below b6; have y0 := mem_word hw6 htn hj8n; have y1 := hw6.right.free (tt * 8 + j); have y2 := hw6.right.lt) | (have hw6 := hq0.below b6; have xw6 := xq0.below b6)))
        all_goals
          go_wp2_with fail
          go_meet
          case rel => first | exact ⟨memAt_shut (mem_setW (k := tt) (i := j) hw6 hj8n nw), xw6.set _ _⟩ | exact ⟨memAt_shut (mem_setW (k := tt) (i := j) hi5 hj8n nw), xi5.set _ _⟩
      case rest =>
        clear hq hq0 xq0 h8 x9 HK
        obtain ⟨h9, x10⟩ := hcut
        obtain ⟨c0, c1, c2, c3⟩ := h9.right.cells4
        have cl := h9.right.lt
        obtain ⟨hg1, hgw, hgpos⟩ := HGP.out
        have HGZ := Lib.hid hgpos
        clear hgpos
        go_wp2_with fail
        go_roundw
        case rel => exact ⟨m2, g - 1, k, _, rfl, by first | rfl | go_num, HO2, h9, x10⟩
        case measure => have := HGZ.out; simp [intOf]; omega
end Go.Proofs.Ytegkimecdonfgaa
namespace Go.Proofs.Ytegkimecdonfgaa
open Go.RowKit
set_option maxRecDepth 100000
set_option maxHeartbeats 8000000 in
theorem prR (q : Nat) (s : Ms) (root p ri : Int) (R : HProp) (w : World) (hs : s.Ok) (h : Has w (memAt q s * R)) :
    Calls Try.prog 24 #[.pointer (some ⟨q, 0, none⟩), (Value.int .i64) root, (Value.int .i64) p, (Value.int .i64) ri] w (Res (.tuple #[(prM s root p ri).val, (Value.int .i64) (prC s root p ri)]) (memAt q (prS s root p ri) * R) w) := by
  have h0 := h.new #[(Value.int .i64) 0, (Value.int .i64) 0, (Value.int .i64) 0, (Value.int .i64) 0] 24
  have x0 := (Ext.refl w).alloc (.cells #[(Value.int .i64) 0, (Value.int .i64) 0, (Value.int .i64) 0, (Value.int .i64) 0] 24)
  by_cases hri : ri < 0 ∨ 7 < ri
  · have hc : prC s root p ri = 1 := by unfold prC; rw [if_pos hri]
    have hm : prM s root p ri = Mp.zero := by unfold prM; rw [if_neg (by rw [hc]; decide)]
    have hss : prS s root p ri = s := by unfold prS; rw [if_neg (by rw [hc]; decide)]
    rw [hc, hm, hss]
    clear hc hm hss h
    obtain ⟨c0, c1, c2, c3⟩ := h0.cells4
    obtain ⟨g0, g1, g2, g3⟩ := h0.frees4
    have cl := h0.lt
    rcases hri with hri | hri
    · go_enter Try.func24, Try.ntmps24
      go_wp2_with fail
      refine ret_via (fun wz => Has wz (blk w.heap.size #[(Value.int .i64) 0, (Value.int .i64) 0, (Value.int .i64) 0, (Value.int .i64) 0] 24 * (memAt q s * R)) ∧ Ext w wz) ⟨h0, by (repeat (first | with_reducible assumption | with_reducible exact Ext.refl _ | with_reducible refine Ext.set ?_ _ _ | with_reducible refine Ext.alloc ?_ _ | with_reducible refine Ext.drew ?_ | with_reducible refine Ext.drewN ?_ _ | assumption | exact Ext.refl _ | refine Ext.alloc ?_ _ | refine Ext.set ?_ _ _ | refine Ext.drew ?_ | refine Ext.drewN ?_ _ | refine Ext.below ?_ (by assumption) | refine Ext.trans ?_ (by assumption)))⟩ ?_
      rintro wz ⟨hz, xz⟩
      exact bodyPost_ret (results_ct Try.results24 rfl rfl (load_map hz)) rfl ⟨rfl, hz.right, xz⟩
    · by_cases hr0 : ri < 0
      · omega
      go_enter Try.func24, Try.ntmps24
      go_wp2_with fail
      refine ret_via (fun wz => Has wz (blk w.heap.size #[(Value.int .i64) 0, (Value.int .i64) 0, (Value.int .i64) 0, (Value.int .i64) 0] 24 * (memAt q s * R)) ∧ Ext w wz) ⟨h0, by (repeat (first | with_reducible assumption | with_reducible exact Ext.refl _ | with_reducible refine Ext.set ?_ _ _ | with_reducible refine Ext.alloc ?_ _ | with_reducible refine Ext.drew ?_ | with_reducible refine Ext.drewN ?_ _ | assumption | exact Ext.refl _ | refine Ext.alloc ?_ _ | refine Ext.set ?_ _ _ | refine Ext.drew ?_ | refine Ext.drewN ?_ _ | refine Ext.below ?_ (by assumption) | refine Ext.trans ?_ (by assumption)))⟩ ?_
      rintro wz ⟨hz, xz⟩
      exact bodyPost_ret (results_ct Try.results24 rfl rfl (load_map hz)) rfl ⟨rfl, hz.right, xz⟩
  have hpc : prC s root p ri = findC s root p := by unfold prC; rw [if_neg hri]
  have hr0 : ¬ ri < 0 := by omega
  have hr7 : ¬ 7 < ri := by omega
  have HFI := Lib.hid (fun R w h => findIn_any q s root p R w hs h)
  by_cases hfc : findC s root p = 0
  case neg =>
    have hss : prS s root p ri = s := by unfold prS; rw [if_neg (by rw [hpc]; exact hfc)]
    have hm : prM s root p ri = Mp.zero := by unfold prM; rw [if_neg (by rw [hpc]; exact hfc)]
    rw [hss, hm, hpc]
    have hn : (findC s root p != 0) = true := by simpa using hfc
    generalize findC s root p = fc at *
    generalize findM s root p = fm at *
    generalize findE s root p = fe at *
    clear hss hm hpc h hri hfc
    go_enter Try.func24, Try.ntmps24
    go_wp2_with fail
    refine (HFI.out _ _ h0.p2).mono ?_; rintro e w1 ⟨rfl, b1⟩
    have h1 := h0.below b1
    have x1 := x0.below b1
    clear h0 x0 b1 HFI
    have h4 : Has _ (blk w.heap.size #[(Value.int .i64) 0, (Value.int .i64) 0, (Value.int .i64) 0, (Value.int .i64) 0] 24 * (memAt q s * (blk (w1.heap.size + 1) #[Value.bool fe.there, Value.bool fe.leaf, (Value.int .i64) fe.rights, Value.bool fe.used, Value.bool fe.dirty, (Value.int .i64) fe.frame] 50 * (blk w1.heap.size #[(Value.int .i64) fm.page, (Value.int .i64) fm.size, (Value.int .i64) fm.frame, (Value.int .i64) fm.rights] 24 * R)))) := ((h1.new #[(Value.int .i64) fm.page, (Value.int .i64) fm.size, (Value.int .i64) fm.frame, (Value.int .i64) fm.rights] 24).new #[Value.bool fe.there, Value.bool fe.leaf, (Value.int .i64) fe.rights, Value.bool fe.used, Value.bool fe.dirty, (Value.int .i64) fe.frame] 50).eq (by simp only [World.size_alloc]; ac_rfl)
    have x4 := (x1.alloc (.cells #[(Value.int .i64) fm.page, (Value.int .i64) fm.size, (Value.int .i64) fm.frame, (Value.int .i64) fm.rights] 24)).alloc (.cells #[Value.bool fe.there, Value.bool fe.leaf, (Value.int .i64) fe.rights, Value.bool fe.used, Value.bool fe.dirty, (Value.int .i64) fe.frame] 50)
    clear h1 x1
    unfold enV
    go_upto_region 4 with fail
    generalize (w1.alloc (.cells #[(Value.int .i64) fm.page, (Value.int .i64) fm.size, (Value.int .i64) fm.frame, (Value.int .i64) fm.rights] 24)).alloc (.cells #[Value.bool fe.there, Value.bool fe.leaf, (Value.int .i64) fe.rights, Value.bool fe.used, Value.bool fe.dirty, (Value.int .i64) fe.frame] 50) = w3 at *
    generalize w1.heap.size = X2 at *
    generalize w.heap.size = X0 at *
    obtain ⟨r0, r1, r2, r3⟩ := h4.cells4
    obtain ⟨q0, q1, q2, q3⟩ := h4.frees4
    have rl := h4.lt
    go_wp2_with fail
    refine ret_via (fun wz => Has wz (blk X0 #[(Value.int .i64) 0, (Value.int .i64) 0, (Value.int .i64) 0, (Value.int .i64) 0] 24 * (memAt q s * (blk (X2 + 1) #[Value.bool fe.there, Value.bool fe.leaf, (Value.int .i64) fe.rights, Value.bool fe.used, Value.bool fe.dirty, (Value.int .i64) fe.frame] 50 * (blk X2 #[(Value.int .i64) fm.page, (Value.int .i64) fm.size, (Value.int .i64) fm.frame, (Value.int .i64) fm.rights] 24 * R)))) ∧ Ext w wz) ⟨h4.set4 _ _ _ _, by (repeat (first | with_reducible assumption | with_reducible exact Ext.refl _ | with_reducible refine Ext.set ?_ _ _ | with_reducible refine Ext.alloc ?_ _ | with_reducible refine Ext.drew ?_ | with_reducible refine Ext.drewN ?_ _ | assumption | exact Ext.refl _ | refine Ext.alloc ?_ _ | refine Ext.set ?_ _ _ | refine Ext.drew ?_ | refine Ext.drewN ?_ _ | refine Ext.below ?_ (by assumption) | refine Ext.trans ?_ (by assumption)))⟩ ?_
    rintro wz ⟨hz, xz⟩
    exact bodyPost_ret (results_ct Try.results24 rfl rfl (load_map hz)) rfl ⟨rfl, hz.right.eq (show _ = blk (X2 + 1) #[Value.bool fe.there, Value.bool fe.leaf, (Value.int .i64) fe.rights, Value.bool fe.used, Value.bool fe.dirty, (Value.int .i64) fe.frame] 50 * (blk X2 #[(Value.int .i64) fm.page, (Value.int .i64) fm.size, (Value.int .i64) fm.frame, (Value.int .i64) fm.rights] 24 * (memAt q s * R)) by ac_rfl) |>.right.right, xz⟩
  have hcode : (way s root p).code = 0 := by
    unfold findC at hfc
    split at hfc
    · rename_i hn; exact absurd hfc hn
    · rename_i hn; simpa using hn
  obtain ⟨hp, n, hn, hn3, hl, hu⟩ := way_tabs hcode
  obtain ⟨t, ht⟩ : ∃ t, (way s root p).tabs[n]? = some t := ⟨_, List.getElem?_eq_getElem (by omega)⟩
  have hht : s.has t = true := hu t (by obtain ⟨hl, e⟩ := List.getElem?_eq_some_iff.1 ht; exact e ▸ List.getElem_mem hl)
  have hixr := index_le (p := p) (L := (way s root p).lev) hp (by omega) (by omega)
  obtain ⟨j, hj⟩ := Int.eq_ofNat_of_zero_le hixr.1
  have hj8n : j < 8 := by have := hixr.2; omega
  have hj8 : (j : Int) < 8 := by omega
  have hfe : findE s root p = (way s root p).e := by unfold findE; rw [if_pos hfc]
  have hss : prS s root p ri = s.setW t.toNat j (encW { (findE s root p) with rights := ri } (way s root p).lev) := by
    unfold prS
    rw [if_pos (by rw [hpc]; exact hfc), last_get' hn ht, hj, hfe]
    rfl
  have hm : prM s root p ri = { findM s root p with rights := ri } := by unfold prM; rw [if_pos (by rw [hpc]; exact hfc)]
  obtain ⟨ht0, htn', _⟩ := Ms.has_iff.1 hht
  obtain ⟨tn, rfl⟩ := Int.eq_ofNat_of_zero_le ht0
  have htn : tn < s.n := by omega
  have htnz : (tn : Int) < (s.n : Int) := by omega
  have HWD := Lib.hid (fun Y => wordOf_any { (findE s root p) with rights := ri } (way s root p).lev Y)
  dsimp only at HWD
  have HI2 := Lib.hid (fun Y => indexOf_any p (way s root p).lev Y)
  rw [hj] at HI2
  have HWT := Lib.hid (fun R w h => wayTo_any q s root p R w hs h)
  rw [hpc, hm, hss, hfc]
  rw [hfc] at HFI
  have HN := Lib.hid hn
  have HT := Lib.hid ht
  clear hss hm hpc hri h hcode hu hl hfc hn ht hj hixr hht ht0 htn'
  generalize encW { (findE s root p) with rights := ri } (way s root p).lev = nw at *
  generalize entFault { (findE s root p) with rights := ri } (way s root p).lev = ff at *
  clear hfe
  generalize findM s root p = fm at *
  generalize findE s root p = fe at *
  generalize way s root p = y at *
  go_enter Try.func24, Try.ntmps24
  go_wp2_with fail
  refine (HFI.out _ _ h0.p2).mono ?_; rintro e w1 ⟨rfl, b1⟩
  have h1 := h0.below b1
  have x1 := x0.below b1
  clear h0 x0 b1 HFI
  have h4 : Has _ (memAt q s * (blk w.heap.size #[(Value.int .i64) 0, (Value.int .i64) 0, (Value.int .i64) 0, (Value.int .i64) 0] 24 * (blk (w1.heap.size + 1) #[Value.bool fe.there, Value.bool fe.leaf, (Value.int .i64) fe.rights, Value.bool fe.used, Value.bool fe.dirty, (Value.int .i64) fe.frame] 50 * (blk w1.heap.size #[(Value.int .i64) fm.page, (Value.int .i64) fm.size, (Value.int .i64) fm.frame, (Value.int .i64) fm.rights] 24 * R)))) := ((h1.new #[(Value.int .i64) fm.page, (Value.int .i64) fm.size, (Value.int .i64) fm.frame, (Value.int .i64) fm.rights] 24).new #[Value.bool fe.there, Value.bool fe.leaf, (Value.int .i64) fe.rights, Value.bool fe.used, Value.bool fe.dirty, (Value.int .i64) fe.frame] 50).eq (by simp only [World.size_alloc]; ac_rfl)
  have x4 := (x1.alloc (.cells #[(Value.int .i64) fm.page, (Value.int .i64) fm.size, (Value.int .i64) fm.frame, (Value.int .i64) fm.rights] 24)).alloc (.cells #[Value.bool fe.there, Value.bool fe.leaf, (Value.int .i64) fe.rights, Value.bool fe.used, Value.bool fe.dirty, (Value.int .i64) fe.frame] 50)
  clear h1 x1
  unfold enV
  go_upto_region 4 with fail
  generalize (w1.alloc (.cells #[(Value.int .i64) fm.page, (Value.int .i64) fm.size, (Value.int .i64) fm.frame, (Value.int .i64) fm.rights] 24)).alloc (.cells #[Value.bool fe.there, Value.bool fe.leaf, (Value.int .i64) fe.rights, Value.bool fe.used, Value.bool fe.dirty, (Value.int .i64) fe.frame] 50) = w3 at *
  generalize w1.heap.size = X2 at *
  generalize w.heap.size = X0 at *
  go_wp2_with fail
  refine (HWT.out _ _ h4).mono ?_; rintro e w5 hF
  obtain ⟨A, c, rfl, h5, x5⟩ : ∃ (A : Option Addr) (c : Nat), e = .returned (.tuple #[.agg #[.slice A y.tabs.length c, Value.bool y.e.there, Value.bool y.e.leaf, (Value.int .i64) y.e.rights, Value.bool y.e.used, Value.bool y.e.dirty, (Value.int .i64) y.e.frame, (Value.int .i64) y.lev], (Value.int .i64) y.code]) ∧ Has w5 (irow (.slice A y.tabs.length c) y.tabs * old w3 w3.heap.size) ∧ Ext w3 w5 := hF
  have h6 : Has _ (blk w5.heap.size #[.slice A y.tabs.length c, Value.bool y.e.there, Value.bool y.e.leaf, (Value.int .i64) y.e.rights, Value.bool y.e.used, Value.bool y.e.dirty, (Value.int .i64) y.e.frame, (Value.int .i64) y.lev] 112 * (irow (.slice A y.tabs.length c) y.tabs * (memAt q s * (blk X0 #[(Value.int .i64) 0, (Value.int .i64) 0, (Value.int .i64) 0, (Value.int .i64) 0] 24 * (blk (X2 + 1) #[Value.bool fe.there, Value.bool fe.leaf, (Value.int .i64) fe.rights, Value.bool fe.used, Value.bool fe.dirty, (Value.int .i64) fe.frame] 50 * (blk X2 #[(Value.int .i64) fm.page, (Value.int .i64) fm.size, (Value.int .i64) fm.frame, (Value.int .i64) fm.rights] 24 * R)))))) := (h4.onto' h5).new #[.slice A y.tabs.length c, Value.bool y.e.there, Value.bool y.e.leaf, (Value.int .i64) y.e.rights, Value.bool y.e.used, Value.bool y.e.dirty, (Value.int .i64) y.e.frame, (Value.int .i64) y.lev] 112
  have x6 := (x4.trans x5).alloc (.cells #[.slice A y.tabs.length c, Value.bool y.e.there, Value.bool y.e.leaf, (Value.int .i64) y.e.rights, Value.bool y.e.used, Value.bool y.e.dirty, (Value.int .i64) y.e.frame, (Value.int .i64) y.lev] 112)
  clear h4 x4 h5 x5 HWT
  go_upto_region 7 with fail
  generalize w5.alloc (.cells #[.slice A y.tabs.length c, Value.bool y.e.there, Value.bool y.e.leaf, (Value.int .i64) y.e.rights, Value.bool y.e.used, Value.bool y.e.dirty, (Value.int .i64) y.e.frame, (Value.int .i64) y.lev] 112) = w6 at *
  generalize w5.heap.size = X5 at *
  obtain ⟨bA, hA1, -, -⟩ := irow_at h6.right (k := n) (by have := HN.out; omega)
  subst hA1
  have h7 : Has w6 (blk (X2 + 1) #[Value.bool fe.there, Value.bool fe.leaf, (Value.int .i64) fe.rights, Value.bool fe.used, Value.bool fe.dirty, (Value.int .i64) fe.frame] 50 * (blk X2 #[(Value.int .i64) fm.page, (Value.int .i64) fm.size, (Value.int .i64) fm.frame, (Value.int .i64) fm.rights] 24 * (memAt q s * (blk X5 #[.slice (some ⟨bA, 0, none⟩) y.tabs.length c, Value.bool y.e.there, Value.bool y.e.leaf, (Value.int .i64) y.e.rights, Value.bool y.e.used, Value.bool y.e.dirty, (Value.int .i64) y.e.frame, (Value.int .i64) y.lev] 112 * (irow (.slice (some ⟨bA, 0, none⟩) y.tabs.length c) y.tabs * (blk X0 #[(Value.int .i64) 0, (Value.int .i64) 0, (Value.int .i64) 0, (Value.int .i64) 0] 24 * R)))))) := h6.eq (by ac_rfl)
  obtain ⟨e0, e1, e2, e3, e4, e5⟩ := h7.cells6
  obtain ⟨f0, f1, f2, f3, f4, f5⟩ := h7.frees6
  have el := h7.lt
  have m3 := h7.right.cell 3
  have g3 := h7.right.free 3
  have ml := h7.right.lt
  have nn := h7.ne
  have nn' := nn.symm
  have h8 : Has ((w6.setCell ⟨X2 + 1, 2, none⟩ ((Value.int .i64) ri)).setCell ⟨X2, 3, none⟩ ((Value.int .i64) ri)) (blk X2 #[(Value.int .i64) fm.page, (Value.int .i64) fm.size, (Value.int .i64) fm.frame, (Value.int .i64) ri] 24 * (blk (X2 + 1) #[Value.bool fe.there, Value.bool fe.leaf, (Value.int .i64) ri, Value.bool fe.used, Value.bool fe.dirty, (Value.int .i64) fe.frame] 50 * (memAt q s * (blk X5 #[.slice (some ⟨bA, 0, none⟩) y.tabs.length c, Value.bool y.e.there, Value.bool y.e.leaf, (Value.int .i64) y.e.rights, Value.bool y.e.used, Value.bool y.e.dirty, (Value.int .i64) y.e.frame, (Value.int .i64) y.lev] 112 * (irow (.slice (some ⟨bA, 0, none⟩) y.tabs.length c) y.tabs * (blk X0 #[(Value.int .i64) 0, (Value.int .i64) 0, (Value.int .i64) 0, (Value.int .i64) 0] 24 * R)))))) := (h7.set 2 ((Value.int .i64) ri)).p2.set 3 ((Value.int .i64) ri)
  have x8 := (x6.set ⟨X2 + 1, 2, none⟩ ((Value.int .i64) ri)).set ⟨X2, 3, none⟩ ((Value.int .i64) ri)
  go_upto_region 8 with fail
  generalize (w6.setCell ⟨X2 + 1, 2, none⟩ ((Value.int .i64) ri)).setCell ⟨X2, 3, none⟩ ((Value.int .i64) ri) = w8 at *
  clear h6 x6 h7 e0 e1 e2 e3 e4 e5 f0 f1 f2 f3 f4 f5 el m3 g3 ml nn nn'
  have h9 : Has w8 (memAt q s * (blk X5 #[.slice (some ⟨bA, 0, none⟩) y.tabs.length c, Value.bool y.e.there, Value.bool y.e.leaf, (Value.int .i64) y.e.rights, Value.bool y.e.used, Value.bool y.e.dirty, (Value.int .i64) y.e.frame, (Value.int .i64) y.lev] 112 * (irow (.slice (some ⟨bA, 0, none⟩) y.tabs.length c) y.tabs * (blk (X2 + 1) #[Value.bool fe.there, Value.bool fe.leaf, (Value.int .i64) ri, Value.bool fe.used, Value.bool fe.dirty, (Value.int .i64) fe.frame] 50 * (blk X0 #[(Value.int .i64) 0, (Value.int .i64) 0, (Value.int .i64) 0, (Value.int .i64) 0] 24 * (blk X2 #[(Value.int .i64) fm.page, (Value.int .i64) fm.size, (Value.int .i64) fm.frame, (Value.int .i64) ri] 24 * R)))))) := h8.eq (by ac_rfl)
  clear h8
  obtain ⟨gw, gi, vk, hq⟩ := memAt_open h9
  have HK := Lib.hid (fun (w' : World) (sx : Ms) (h : Has w' (memIn q gw gi vk sx (blk X5 #[.slice (some ⟨bA, 0, none⟩) y.tabs.length c, Value.bool y.e.there, Value.bool y.e.leaf, (Value.int .i64) y.e.rights, Value.bool y.e.used, Value.bool y.e.dirty, (Value.int .i64) y.e.frame, (Value.int .i64) y.lev] 112 * (irow (.slice (some ⟨bA, 0, none⟩) y.tabs.length c) y.tabs * (blk (X2 + 1) #[Value.bool fe.there, Value.bool fe.leaf, (Value.int .i64) ri, Value.bool fe.used, Value.bool fe.dirty, (Value.int .i64) fe.frame] 50 * (blk X0 #[(Value.int .i64) 0, (Value.int .i64) 0, (Value.int .i64) 0, (Value.int .i64) 0] 24 * (blk X2 #[(Value.int .i64) fm.page, (Value.int .i64) fm.size, (Value.int .i64) fm.frame, (Value.int .i64) ri] 24 * R))))))) => (by
    have hR := h.right.right.right.right
    obtain ⟨b1, e1, _, q1⟩ := irow_at hR.right (k := n) (by have := HN.out; omega)
    injection e1 with e1; injection e1 with e1
    subst e1
    rw [(List.getElem?_eq_some_iff.1 HT.out).2] at q1
    exact ⟨Has.cell h 0, hR.cell 0, hR.cell 7, q1, hR.right.right.cells6⟩ : w'.cell? ⟨q, 0, none⟩ = some (.slice (some ⟨gw, 0, none⟩) sx.n sx.n) ∧ w'.cell? ⟨X5, 0, none⟩ = some (.slice (some ⟨bA, 0, none⟩) y.tabs.length c) ∧ w'.cell? ⟨X5, 7, none⟩ = some ((Value.int .i64) y.lev) ∧ w'.cell? ⟨bA, n, none⟩ = some ((Value.int .i64) tn) ∧ (w'.cell? ⟨X2 + 1, 0, none⟩ = some (Value.bool fe.there) ∧ w'.cell? ⟨X2 + 1, 1, none⟩ = some (Value.bool fe.leaf) ∧ w'.cell? ⟨X2 + 1, 2, none⟩ = some ((Value.int .i64) ri) ∧ w'.cell? ⟨X2 + 1, 3, none⟩ = some (Value.bool fe.used) ∧ w'.cell? ⟨X2 + 1, 4, none⟩ = some (Value.bool fe.dirty) ∧ w'.cell? ⟨X2 + 1, 5, none⟩ = some ((Value.int .i64) fe.frame))))
  have hlen1 : ((y.tabs.length : Nat) : Int) - 1 = (n : Int) := by have := HN.out; omega
  have hni : (n : Int) < y.tabs.length := by have := HN.out; omega
  have hn0 : ¬ ((n : Int) < 0) := by omega
  have hn00 : (0 : Int) ≤ (n : Int) := by omega
  have hwn : IntKind.i64.wrap (n : Int) = (n : Int) := by rw [IntKind.wrap_i64]; omega
  have hwn2 : IntKind.i64.wrap (((y.tabs.length : Nat) : Int) - 1) = (n : Int) := by rw [hlen1]; exact hwn
  have hq0 := hq.drew
  have xq0 := x8.drew
  go_cut [] from 45 to 70 (fun wx => Has wx (memAt q (s.setW tn j nw) * (blk X5 #[.slice (some ⟨bA, 0, none⟩) y.tabs.length c, Value.bool y.e.there, Value.bool y.e.leaf, (Value.int .i64) y.e.rights, Value.bool y.e.used, Value.bool y.e.dirty, (Value.int .i64) y.e.frame, (Value.int .i64) y.lev] 112 * (irow (.slice (some ⟨bA, 0, none⟩) y.tabs.length c) y.tabs * (blk (X2 + 1) #[Value.bool fe.there, Value.bool fe.leaf, (Value.int .i64) ri, Value.bool fe.used, Value.bool fe.dirty, (Value.int .i64) fe.frame] 50 * (blk X0 #[(Value.int .i64) 0, (Value.int .i64) 0, (Value.int .i64) 0, (Value.int .i64) 0] 24 * (blk X2 #[(Value.int .i64) fm.page, (Value.int .i64) fm.size, (Value.int .i64) fm.frame, (Value.int .i64) ri] 24 * R)))))) ∧ Ext w wx)
  case first =>
    go_region_held3 (fun w' => w'.cell? ⟨q, 0, none⟩ = some (.slice (some ⟨gw, 0, none⟩) s.n s.n) ∧ w'.cell? ⟨X5, 0, none⟩ = some (.slice (some ⟨bA, 0, none⟩) y.tabs.length c) ∧ w'.cell? ⟨X5, 7, none⟩ = some ((Value.int .i64) y.lev) ∧ w'.cell? ⟨bA, n, none⟩ = some ((Value.int .i64) tn) ∧ (w'.cell? ⟨X2 + 1, 0, none⟩ = some (Value.bool fe.there) ∧ w'.cell? ⟨X2 + 1, 1, none⟩ = some (Value.bool fe.leaf) ∧ w'.cell? ⟨X2 + 1, 2, none⟩ = some ((Value.int .i64) ri) ∧ w'.cell? ⟨X2 + 1, 3, none⟩ = some (Value.bool fe.used) ∧ w'.cell? ⟨X2 + 1, 4, none⟩ = some (Value.bool fe.dirty) ∧ w'.cell? ⟨X2 + 1, 5, none⟩ = some ((Value.int .i64) fe.frame))) (first | (with_reducible exact HK.out _ s hq0) | (with_reducible exact HK.out _ s hi5) | (with_reducible exact HK.out _ s hw6) | (exact HK.out _ (s.setW tn j nw) (mem_setW (k := tn) (i := j) hw6 hj8n nw)) | (exact HK.out _ (s.setW tn j nw) (mem_setW (k := tn) (i := j) hi5 hj8n nw)) | go_keep) (first | (go_at_call 67; (with_reducible refine (HI2.out _).mono ?_); rintro e2 w5 ⟨rfl, b5⟩; first | (have hi5 := hw6.below b5; have xi5 := xw6.below b5; have y0 := mem_word hi5 htn hj8n; have y1 := hi5.right.free (tn * 8 + j); have y2 := hi5.right.lt) | (have hi5 := hq0.below b5; have xi5 := xq0.below b5)) | (go_at_call 66; (with_reducible refine (HWD.out _).mono ?_); rintro e2 w6 ⟨rfl, b6⟩; first | (have hw6 := hi5.below b6; have xw6 := xi5.below b6; have y0 := mem_word hw6 htn hj8n; have y1 := hw6.right.free (tn * 8 + j); have y2 := hw6.right.lt) | (have hw6 := hq0.below b6; have xw6 := xq0.below b6)))
    all_goals
      go_wp2_with fail
      go_meet
      case rel => first | exact ⟨memAt_shut (mem_setW (k := tn) (i := j) hw6 hj8n nw), xw6.set _ _⟩ | exact ⟨memAt_shut (mem_setW (k := tn) (i := j) hi5 hj8n nw), xi5.set _ _⟩
  case rest =>
    clear hq hq0 xq0 h9 x8 HK
    obtain ⟨h10, x10⟩ := hcut
    have h11 : Has wc (blk X0 #[(Value.int .i64) 0, (Value.int .i64) 0, (Value.int .i64) 0, (Value.int .i64) 0] 24 * (blk X2 #[(Value.int .i64) fm.page, (Value.int .i64) fm.size, (Value.int .i64) fm.frame, (Value.int .i64) ri] 24 * (blk X5 #[.slice (some ⟨bA, 0, none⟩) y.tabs.length c, Value.bool y.e.there, Value.bool y.e.leaf, (Value.int .i64) y.e.rights, Value.bool y.e.used, Value.bool y.e.dirty, (Value.int .i64) y.e.frame, (Value.int .i64) y.lev] 112 * (irow (.slice (some ⟨bA, 0, none⟩) y.tabs.length c) y.tabs * (blk (X2 + 1) #[Value.bool fe.there, Value.bool fe.leaf, (Value.int .i64) ri, Value.bool fe.used, Value.bool fe.dirty, (Value.int .i64) fe.frame] 50 * (memAt q (s.setW tn j nw) * R)))))) := h10.eq (by ac_rfl)
    obtain ⟨m0, m1, m2, m3⟩ := h11.right.cells4
    have ml := h11.right.lt
    obtain ⟨r0, r1, r2, r3⟩ := h11.cells4
    obtain ⟨q0, q1, q2, q3⟩ := h11.frees4
    have rl := h11.lt
    go_wp2_with fail
    refine ret_via (fun wz => Has wz (blk X0 #[(Value.int .i64) fm.page, (Value.int .i64) fm.size, (Value.int .i64) fm.frame, (Value.int .i64) ri] 24 * (blk X2 #[(Value.int .i64) fm.page, (Value.int .i64) fm.size, (Value.int .i64) fm.frame, (Value.int .i64) ri] 24 * (blk X5 #[.slice (some ⟨bA, 0, none⟩) y.tabs.length c, Value.bool y.e.there, Value.bool y.e.leaf, (Value.int .i64) y.e.rights, Value.bool y.e.used, Value.bool y.e.dirty, (Value.int .i64) y.e.frame, (Value.int .i64) y.lev] 112 * (irow (.slice (some ⟨bA, 0, none⟩) y.tabs.length c) y.tabs * (blk (X2 + 1) #[Value.bool fe.there, Value.bool fe.leaf, (Value.int .i64) ri, Value.bool fe.used, Value.bool fe.dirty, (Value.int .i64) fe.frame] 50 * (memAt q (s.setW tn j nw) * R)))))) ∧ Ext w wz) ⟨h11.set4 _ _ _ _, by (repeat (first | with_reducible assumption | with_reducible exact Ext.refl _ | with_reducible refine Ext.set ?_ _ _ | with_reducible refine Ext.alloc ?_ _ | with_reducible refine Ext.drew ?_ | with_reducible refine Ext.drewN ?_ _ | assumption | exact Ext.refl _ | refine Ext.alloc ?_ _ | refine Ext.set ?_ _ _ | refine Ext.drew ?_ | refine Ext.drewN ?_ _ | refine Ext.below ?_ (by assumption) | refine Ext.trans ?_ (by assumption)))⟩ ?_
    rintro wz ⟨hz, xz⟩
    exact bodyPost_ret (results_ct Try.results24 rfl rfl (load_map hz)) rfl ⟨rfl, hz.right.right.right.right.right, xz⟩
end Go.Proofs.Ytegkimecdonfgaa
namespace Go.Proofs.Ytegkimecdonfgaa
open Go.RowKit
set_option maxRecDepth 100000
def RemovedR (q : Nat) (s : Ms) (r p : Int) (R : HProp) (w : World) (e : Ending) (w' : World) : Prop :=
  ∃ A n c, Res (.tuple #[(findM s r p).val, .slice A n c, (Value.int .i64) (findC s r p)]) (irow (.slice A n c) (remG s r p) * (memAt q (remS s r p) * R)) w e w'
theorem allZ_eight {s : Ms} {t : Nat} : (s.wd t 0 == 0 && (s.wd t 1 == 0 && (s.wd t 2 == 0 && (s.wd t 3 == 0 && (s.wd t 4 == 0 && (s.wd t 5 == 0 && (s.wd t 6 == 0 && s.wd t 7 == 0))))))) = allZ s (t : Int) := by
  unfold allZ wordV
  simp [List.range_succ]
theorem cutR_zero {p : Int} {tabs : List Int} {k : Nat} {s : Ms} (h : k = 0 ∨ allZ (s.setW (tabs.getD k 0).toNat (index p (3 - k : Nat)).toNat 0) (tabs.getD k 0) = false) : cutR p tabs k s = (s.setW (tabs.getD k 0).toNat (index p (3 - k : Nat)).toNat 0, []) := by
  cases k with
  | zero => rfl
  | succ k =>
    rcases h with h | h
    · cases h
    · conv => lhs; unfold cutR
      rw [if_neg (by rw [h]; simp)]
theorem cutR_more {p : Int} {tabs : List Int} {k j : Nat} {s : Ms} (hk : k = j + 1) (h : allZ (s.setW (tabs.getD k 0).toNat (index p (3 - k : Nat)).toNat 0) (tabs.getD k 0) = true) :
    cutR p tabs k s = ((cutR p tabs j (s.setW (tabs.getD k 0).toNat (index p (3 - k : Nat)).toNat 0)).1, tabs.getD k 0 :: (cutR p tabs j (s.setW (tabs.getD k 0).toNat (index p (3 - k : Nat)).toNat 0)).2) := by
  subst hk
  conv => lhs; unfold cutR
  rw [if_pos h]
set_option maxHeartbeats 8000000 in
theorem remR (q : Nat) (s : Ms) (root p : Int) (R : HProp) (w : World) (hs : s.Ok) (h : Has w (memAt q s * R)) :
    Calls Try.prog 16 #[.pointer (some ⟨q, 0, none⟩), (Value.int .i64) root, (Value.int .i64) p] w (RemovedR q s root p R w) := by
  have h0 := h.new #[(Value.int .i64) 0, (Value.int .i64) 0, (Value.int .i64) 0, (Value.int .i64) 0] 24
  have x0 := (Ext.refl w).alloc (.cells #[(Value.int .i64) 0, (Value.int .i64) 0, (Value.int .i64) 0, (Value.int .i64) 0] 24)
  have HFI := Lib.hid (fun R w h => findIn_any q s root p R w hs h)
  unfold RemovedR
  by_cases hfc : findC s root p = 0
  case neg =>
    have hrs : remS s root p = s := by unfold remS; rw [if_neg hfc]
    have hrg : remG s root p = [] := by unfold remG; rw [if_neg hfc]
    have hm : findM s root p = Mp.zero := by unfold findM; rw [if_neg hfc]
    have hn : (findC s root p != 0) = true := by simpa using hfc
    have HF := Lib.hid (And.intro hrs (And.intro hrg hm))
    generalize findC s root p = fc at *
    generalize remS s root p = rs at *
    generalize remG s root p = rg at *
    generalize findM s root p = fm at *
    generalize findE s root p = fe at *
    clear hrs hrg hm h hfc
    go_enter Try.func16, Try.ntmps16
    go_wp2_with fail
    refine (HFI.out _ _ h0.p2).mono ?_; rintro e w1 ⟨rfl, b1⟩
    have h1 := h0.below b1
    have x1 := x0.below b1
    clear h0 x0 b1 HFI
    have h4 : Has _ (blk w.heap.size #[(Value.int .i64) 0, (Value.int .i64) 0, (Value.int .i64) 0, (Value.int .i64) 0] 24 * (memAt q s * (blk (w1.heap.size + 1) #[Value.bool fe.there, Value.bool fe.leaf, (Value.int .i64) fe.rights, Value.bool fe.used, Value.bool fe.dirty, (Value.int .i64) fe.frame] 50 * (blk w1.heap.size #[(Value.int .i64) fm.page, (Value.int .i64) fm.size, (Value.int .i64) fm.frame, (Value.int .i64) fm.rights] 24 * R)))) := ((h1.new #[(Value.int .i64) fm.page, (Value.int .i64) fm.size, (Value.int .i64) fm.frame, (Value.int .i64) fm.rights] 24).new #[Value.bool fe.there, Value.bool fe.leaf, (Value.int .i64) fe.rights, Value.bool fe.used, Value.bool fe.dirty, (Value.int .i64) fe.frame] 50).eq (by simp only [World.size_alloc]; ac_rfl)
    have x4 := (x1.alloc (.cells #[(Value.int .i64) fm.page, (Value.int .i64) fm.size, (Value.int .i64) fm.frame, (Value.int .i64) fm.rights] 24)).alloc (.cells #[Value.bool fe.there, Value.bool fe.leaf, (Value.int .i64) fe.rights, Value.bool fe.used, Value.bool fe.dirty, (Value.int .i64) fe.frame] 50)
    clear h1 x1
    unfold enV
    go_upto_region 2 with fail
    generalize (w1.alloc (.cells #[(Value.int .i64) fm.page, (Value.int .i64) fm.size, (Value.int .i64) fm.frame, (Value.int .i64) fm.rights] 24)).alloc (.cells #[Value.bool fe.there, Value.bool fe.leaf, (Value.int .i64) fe.rights, Value.bool fe.used, Value.bool fe.dirty, (Value.int .i64) fe.frame] 50) = w3 at *
    generalize w1.heap.size = X2 at *
    generalize w.heap.size = X0 at *
    obtain ⟨r0, r1, r2, r3⟩ := h4.cells4
    obtain ⟨q0, q1, q2, q3⟩ := h4.frees4
    have rl := h4.lt
    go_wp2_with fail
    refine ret_via (fun wz => Has wz (blk X0 #[(Value.int .i64) 0, (Value.int .i64) 0, (Value.int .i64) 0, (Value.int .i64) 0] 24 * (memAt q s * (blk (X2 + 1) #[Value.bool fe.there, Value.bool fe.leaf, (Value.int .i64) fe.rights, Value.bool fe.used, Value.bool fe.dirty, (Value.int .i64) fe.frame] 50 * (blk X2 #[(Value.int .i64) fm.page, (Value.int .i64) fm.size, (Value.int .i64) fm.frame, (Value.int .i64) fm.rights] 24 * R)))) ∧ Ext w wz) ⟨h4.set4 _ _ _ _, by (repeat (first | with_reducible assumption | with_reducible exact Ext.refl _ | with_reducible refine Ext.set ?_ _ _ | with_reducible refine Ext.alloc ?_ _ | with_reducible refine Ext.drew ?_ | with_reducible refine Ext.drewN ?_ _ | assumption | exact Ext.refl _ | refine Ext.alloc ?_ _ | refine Ext.set ?_ _ _ | refine Ext.drew ?_ | refine Ext.drewN ?_ _ | refine Ext.below ?_ (by assumption) | refine Ext.trans ?_ (by assumption)))⟩ ?_
    rintro wz ⟨hw, xw⟩
    have hw2 : Has wz (blk (X2 + 1) #[Value.bool fe.there, Value.bool fe.leaf, (Value.int .i64) fe.rights, Value.bool fe.used, Value.bool fe.dirty, (Value.int .i64) fe.frame] 50 * (blk X2 #[(Value.int .i64) fm.page, (Value.int .i64) fm.size, (Value.int .i64) fm.frame, (Value.int .i64) fm.rights] 24 * (memAt q s * R))) := hw.right.eq (by ac_rfl)
    exact bodyPost_ret (results_ctt Try.results16 rfl rfl rfl (load_map hw)) rfl ⟨none, 0, 0, by rw [HF.out.2.2]; rfl, by rw [HF.out.1, HF.out.2.1]; exact Has.rowNil hw2.right.right, xw⟩
  have hcode : (way s root p).code = 0 := by
    unfold findC at hfc
    split at hfc
    · rename_i hn; exact absurd hfc hn
    · rename_i hn; simpa using hn
  obtain ⟨hp, n, hn, hn3, hl, hu⟩ := way_tabs hcode
  have hRS : remS s root p = (cutR p (way s root p).tabs n s).1 := by unfold remS; rw [if_pos hfc, hn, Nat.add_sub_cancel]
  have hRG : remG s root p = (cutR p (way s root p).tabs n s).2 := by unfold remG; rw [if_pos hfc, hn, Nat.add_sub_cancel]
  have hTk : ∀ k, k < n + 1 → ∃ t : Nat, (way s root p).tabs[k]? = some (t : Int) ∧ (way s root p).tabs.getD k 0 = (t : Int) ∧ t < s.n := fun k hk => by
    have hk' : k < (way s root p).tabs.length := by omega
    have hh := hu _ (List.getElem_mem hk')
    obtain ⟨t0, t1, _⟩ := Ms.has_iff.1 hh
    obtain ⟨t, ht⟩ := Int.eq_ofNat_of_zero_le t0
    refine ⟨t, by rw [List.getElem?_eq_getElem hk', ht], by rw [List.getD_eq_getElem?_getD, List.getElem?_eq_getElem hk', ht]; first | done | rfl, by omega⟩
  have HWT := Lib.hid (fun R w h => wayTo_any q s root p R w hs h)
  rw [hfc] at HFI ⊢
  have HN := Lib.hid hn
  have HTK := Lib.hid hTk
  have HRS := Lib.hid hRS
  have HRG := Lib.hid hRG
  clear h hcode hu hl hfc hn hTk hRS hRG
  generalize remS s root p = rs at *
  generalize remG s root p = rg at *
  generalize findM s root p = fm at *
  generalize findE s root p = fe at *
  generalize way s root p = y at *
  go_enter Try.func16, Try.ntmps16
  go_wp2_with fail
  refine (HFI.out _ _ h0.p2).mono ?_; rintro e w1 ⟨rfl, b1⟩
  have h1 := h0.below b1
  have x1 := x0.below b1
  clear h0 x0 b1 HFI
  have h4 : Has _ (memAt q s * (blk w.heap.size #[(Value.int .i64) 0, (Value.int .i64) 0, (Value.int .i64) 0, (Value.int .i64) 0] 24 * (blk (w1.heap.size + 1) #[Value.bool fe.there, Value.bool fe.leaf, (Value.int .i64) fe.rights, Value.bool fe.used, Value.bool fe.dirty, (Value.int .i64) fe.frame] 50 * (blk w1.heap.size #[(Value.int .i64) fm.page, (Value.int .i64) fm.size, (Value.int .i64) fm.frame, (Value.int .i64) fm.rights] 24 * R)))) := ((h1.new #[(Value.int .i64) fm.page, (Value.int .i64) fm.size, (Value.int .i64) fm.frame, (Value.int .i64) fm.rights] 24).new #[Value.bool fe.there, Value.bool fe.leaf, (Value.int .i64) fe.rights, Value.bool fe.used, Value.bool fe.dirty, (Value.int .i64) fe.frame] 50).eq (by simp only [World.size_alloc]; ac_rfl)
  have x4 := (x1.alloc (.cells #[(Value.int .i64) fm.page, (Value.int .i64) fm.size, (Value.int .i64) fm.frame, (Value.int .i64) fm.rights] 24)).alloc (.cells #[Value.bool fe.there, Value.bool fe.leaf, (Value.int .i64) fe.rights, Value.bool fe.used, Value.bool fe.dirty, (Value.int .i64) fe.frame] 50)
  clear h1 x1
  unfold enV
  go_upto_region 2 with fail
  generalize (w1.alloc (.cells #[(Value.int .i64) fm.page, (Value.int .i64) fm.size, (Value.int .i64) fm.frame, (Value.int .i64) fm.rights] 24)).alloc (.cells #[Value.bool fe.there, Value.bool fe.leaf, (Value.int .i64) fe.rights, Value.bool fe.used, Value.bool fe.dirty, (Value.int .i64) fe.frame] 50) = w3 at *
  generalize w1.heap.size = X2 at *
  generalize w.heap.size = X0 at *
  go_wp2_with fail
  refine (HWT.out _ _ h4).mono ?_; rintro e w5 hF
  obtain ⟨A, c, rfl, h5, x5⟩ : ∃ (A : Option Addr) (c : Nat), e = .returned (.tuple #[.agg #[.slice A y.tabs.length c, Value.bool y.e.there, Value.bool y.e.leaf, (Value.int .i64) y.e.rights, Value.bool y.e.used, Value.bool y.e.dirty, (Value.int .i64) y.e.frame, (Value.int .i64) y.lev], (Value.int .i64) y.code]) ∧ Has w5 (irow (.slice A y.tabs.length c) y.tabs * old w3 w3.heap.size) ∧ Ext w3 w5 := hF
  have h6 : Has _ (blk w5.heap.size #[.slice A y.tabs.length c, Value.bool y.e.there, Value.bool y.e.leaf, (Value.int .i64) y.e.rights, Value.bool y.e.used, Value.bool y.e.dirty, (Value.int .i64) y.e.frame, (Value.int .i64) y.lev] 112 * (irow (.slice A y.tabs.length c) y.tabs * (memAt q s * (blk X0 #[(Value.int .i64) 0, (Value.int .i64) 0, (Value.int .i64) 0, (Value.int .i64) 0] 24 * (blk (X2 + 1) #[Value.bool fe.there, Value.bool fe.leaf, (Value.int .i64) fe.rights, Value.bool fe.used, Value.bool fe.dirty, (Value.int .i64) fe.frame] 50 * (blk X2 #[(Value.int .i64) fm.page, (Value.int .i64) fm.size, (Value.int .i64) fm.frame, (Value.int .i64) fm.rights] 24 * R)))))) := (h4.onto' h5).new #[.slice A y.tabs.length c, Value.bool y.e.there, Value.bool y.e.leaf, (Value.int .i64) y.e.rights, Value.bool y.e.used, Value.bool y.e.dirty, (Value.int .i64) y.e.frame, (Value.int .i64) y.lev] 112
  have x6 := (x4.trans x5).alloc (.cells #[.slice A y.tabs.length c, Value.bool y.e.there, Value.bool y.e.leaf, (Value.int .i64) y.e.rights, Value.bool y.e.used, Value.bool y.e.dirty, (Value.int .i64) y.e.frame, (Value.int .i64) y.lev] 112)
  clear h4 x4 h5 x5 HWT
  go_upto_region 6 with fail
  generalize w5.alloc (.cells #[.slice A y.tabs.length c, Value.bool y.e.there, Value.bool y.e.leaf, (Value.int .i64) y.e.rights, Value.bool y.e.used, Value.bool y.e.dirty, (Value.int .i64) y.e.frame, (Value.int .i64) y.lev] 112) = w6 at *
  generalize w5.heap.size = X5 at *
  obtain ⟨bA, hA1, -, -⟩ := irow_at h6.right (k := n) (by have := HN.out; omega)
  subst hA1
  have hlen1 : ((y.tabs.length : Nat) : Int) - 1 = (n : Int) := by have := HN.out; omega
  have k0 := h6.cell 0
  have kl := h6.lt
  have HLN := Lib.hid hlen1
  clear hlen1
  go_cut [15] from 35 to 39 (fun s15 wx => s15 = (Value.int .i64) n ∧ wx = w6)
  case first =>
    have hlen1 := HLN.out
    go_wp2_with fail
    go_meet
    case rel => exact ⟨by first | rfl | (rw [← hlen1]; done) | (rw [← hlen1]; go_num), rfl⟩
  case rest =>
  obtain ⟨rfl, hwr⟩ := hcut
  replace hwr := hwr.symm
  subst hwr
  obtain ⟨QQ, hQQ⟩ : ∃ Q : HProp, Q = (blk (X2 + 1) #[Value.bool fe.there, Value.bool fe.leaf, (Value.int .i64) fe.rights, Value.bool fe.used, Value.bool fe.dirty, (Value.int .i64) fe.frame] 50 * R) := ⟨_, rfl⟩
  have h7 : Has w6 (row 3 1 (.slice none 0 0) 0 (([] : List Int).map (Value.int .i64)) * (memAt q s * (blk X5 #[.slice (some ⟨bA, 0, none⟩) y.tabs.length c, Value.bool y.e.there, Value.bool y.e.leaf, (Value.int .i64) y.e.rights, Value.bool y.e.used, Value.bool y.e.dirty, (Value.int .i64) y.e.frame, (Value.int .i64) y.lev] 112 * (irow (.slice (some ⟨bA, 0, none⟩) y.tabs.length c) y.tabs * (blk X0 #[(Value.int .i64) 0, (Value.int .i64) 0, (Value.int .i64) 0, (Value.int .i64) 0] 24 * (blk X2 #[(Value.int .i64) fm.page, (Value.int .i64) fm.size, (Value.int .i64) fm.frame, (Value.int .i64) fm.rights] 24 * QQ)))))) := by
    rw [hQQ]
    exact Has.rowNil (h6.eq (by ac_rfl))
  have HQQ := Lib.hid hQQ
  clear h6 k0 kl hQQ
  go_upto_region 7 with fail
  go_loopw [14, 15] (fun t14 t15 wr => ∃ (k : Nat) (σ : Ms) (g : List Int) (G : Option Addr) (gc : Nat), k < n + 1 ∧ t15 = (Value.int .i64) (k : Int) ∧ t14 = .slice G g.length gc ∧ Hid (rs = (cutR p y.tabs k σ).1 ∧ rg = g ++ (cutR p y.tabs k σ).2 ∧ σ.n = s.n ∧ g.length + k ≤ n) ∧ Has wr (row 3 1 (.slice G g.length gc) g.length (g.map (Value.int .i64)) * (memAt q σ * (blk X5 #[.slice (some ⟨bA, 0, none⟩) y.tabs.length c, Value.bool y.e.there, Value.bool y.e.leaf, (Value.int .i64) y.e.rights, Value.bool y.e.used, Value.bool y.e.dirty, (Value.int .i64) y.e.frame, (Value.int .i64) y.lev] 112 * (irow (.slice (some ⟨bA, 0, none⟩) y.tabs.length c) y.tabs * (blk X0 #[(Value.int .i64) 0, (Value.int .i64) 0, (Value.int .i64) 0, (Value.int .i64) 0] 24 * (blk X2 #[(Value.int .i64) fm.page, (Value.int .i64) fm.size, (Value.int .i64) fm.frame, (Value.int .i64) fm.rights] 24 * QQ)))))) ∧ Ext w wr) (fun _ t15 _ => (intOf t15).toNat)
  case atStart => exact ⟨n, s, [], none, 0, by omega, rfl, rfl, Lib.hid ⟨HRS.out, by rw [List.nil_append]; exact HRG.out, rfl, by simp⟩, h7, x6⟩
  case round =>
    clear h7 x6 HRS HRG
    obtain ⟨k, σ, g, G, gc, hk, rfl, rfl, HCU, hr, hx⟩ := hrel
    obtain ⟨tn, htk, htd, htn0⟩ := HTK.out k hk
    have htn : tn < σ.n := by have := HCU.out.2.2.1; omega
    have htnz : (tn : Int) < (σ.n : Int) := by omega
    have hixr := index_le (p := p) (L := ((3 - k : Nat) : Int)) hp (by omega) (by omega)
    obtain ⟨j, hj⟩ := Int.eq_ofNat_of_zero_le hixr.1
    have hj8n : j < 8 := by have := hixr.2; omega
    have hj8 : (j : Int) < 8 := by omega
    have HI2 := Lib.hid (fun Y => indexOf_any p ((3 - k : Nat) : Int) Y)
    rw [hj] at HI2
    have hσ1 : σ.setW (y.tabs.getD k 0).toNat (index p (3 - k : Nat)).toNat 0 = σ.setW tn j 0 := by rw [htd, hj]; rfl
    have HZ := Lib.hid (fun (h : k = 0 ∨ allZ (σ.setW tn j 0) (tn : Int) = false) => cutR_zero (p := p) (tabs := y.tabs) (k := k) (s := σ) (by rw [hσ1, htd]; exact h))
    rw [hσ1] at HZ
    have HM := Lib.hid (fun (i : Nat) (hi : k = i + 1) (h : allZ (σ.setW tn j 0) (tn : Int) = true) => cutR_more (p := p) (tabs := y.tabs) (k := k) (j := i) (s := σ) hi (by rw [hσ1, htd]; exact h))
    rw [hσ1, htd] at HM
    have HTKk := Lib.hid htk
    have hk0 : (0 : Int) ≤ (k : Int) := by omega
    have hkn : ¬ ((k : Int) < 0) := by omega
    have hki : (k : Int) < y.tabs.length := by have := HN.out; omega
    have h3k : 3 - (k : Int) = ((3 - k : Nat) : Int) := by omega
    have hw3 : IntKind.i64.wrap ((3 - k : Nat) : Int) = ((3 - k : Nat) : Int) := by rw [IntKind.wrap_i64]; omega
    have hm : Has _ (memAt q σ * (row 3 1 (.slice G g.length gc) g.length (g.map (Value.int .i64)) * (blk X5 #[.slice (some ⟨bA, 0, none⟩) y.tabs.length c, Value.bool y.e.there, Value.bool y.e.leaf, (Value.int .i64) y.e.rights, Value.bool y.e.used, Value.bool y.e.dirty, (Value.int .i64) y.e.frame, (Value.int .i64) y.lev] 112 * (irow (.slice (some ⟨bA, 0, none⟩) y.tabs.length c) y.tabs * (blk X0 #[(Value.int .i64) 0, (Value.int .i64) 0, (Value.int .i64) 0, (Value.int .i64) 0] 24 * (blk X2 #[(Value.int .i64) fm.page, (Value.int .i64) fm.size, (Value.int .i64) fm.frame, (Value.int .i64) fm.rights] 24 * QQ)))))) := hr.eq (by ac_rfl)
    clear htk htd htn0 hixr hj hσ1 hr
    obtain ⟨gw, gi, vk, hq⟩ := memAt_open hm
    have HK := Lib.hid (fun (w' : World) (sx : Ms) (h : Has w' (memIn q gw gi vk sx (row 3 1 (.slice G g.length gc) g.length (g.map (Value.int .i64)) * (blk X5 #[.slice (some ⟨bA, 0, none⟩) y.tabs.length c, Value.bool y.e.there, Value.bool y.e.leaf, (Value.int .i64) y.e.rights, Value.bool y.e.used, Value.bool y.e.dirty, (Value.int .i64) y.e.frame, (Value.int .i64) y.lev] 112 * (irow (.slice (some ⟨bA, 0, none⟩) y.tabs.length c) y.tabs * (blk X0 #[(Value.int .i64) 0, (Value.int .i64) 0, (Value.int .i64) 0, (Value.int .i64) 0] 24 * (blk X2 #[(Value.int .i64) fm.page, (Value.int .i64) fm.size, (Value.int .i64) fm.frame, (Value.int .i64) fm.rights] 24 * QQ))))))) => (by
      have hR := h.right.right.right.right.right
      obtain ⟨b1, e1, _, q1⟩ := irow_at hR.right (k := k) (by have := HN.out; omega)
      injection e1 with e1; injection e1 with e1
      subst e1
      rw [(List.getElem?_eq_some_iff.1 HTKk.out).2] at q1
      exact ⟨Has.cell h 0, hR.cell 0, q1⟩ : w'.cell? ⟨q, 0, none⟩ = some (.slice (some ⟨gw, 0, none⟩) sx.n sx.n) ∧ w'.cell? ⟨X5, 0, none⟩ = some (.slice (some ⟨bA, 0, none⟩) y.tabs.length c) ∧ w'.cell? ⟨bA, k, none⟩ = some ((Value.int .i64) tn)))
    have hq0 := hq.drew
    have xq0 := hx.drew
    go_upto_region 9 with fail
    go_cut [] from 43 to 58 (fun wx => Has wx (memIn q gw gi vk (σ.setW tn j 0) (row 3 1 (.slice G g.length gc) g.length (g.map (Value.int .i64)) * (blk X5 #[.slice (some ⟨bA, 0, none⟩) y.tabs.length c, Value.bool y.e.there, Value.bool y.e.leaf, (Value.int .i64) y.e.rights, Value.bool y.e.used, Value.bool y.e.dirty, (Value.int .i64) y.e.frame, (Value.int .i64) y.lev] 112 * (irow (.slice (some ⟨bA, 0, none⟩) y.tabs.length c) y.tabs * (blk X0 #[(Value.int .i64) 0, (Value.int .i64) 0, (Value.int .i64) 0, (Value.int .i64) 0] 24 * (blk X2 #[(Value.int .i64) fm.page, (Value.int .i64) fm.size, (Value.int .i64) fm.frame, (Value.int .i64) fm.rights] 24 * QQ)))))) ∧ Ext w wx)
    case first =>
      go_region_held3 (fun w' => w'.cell? ⟨q, 0, none⟩ = some (.slice (some ⟨gw, 0, none⟩) σ.n σ.n) ∧ w'.cell? ⟨X5, 0, none⟩ = some (.slice (some ⟨bA, 0, none⟩) y.tabs.length c) ∧ w'.cell? ⟨bA, k, none⟩ = some ((Value.int .i64) tn)) (first | (with_reducible exact HK.out _ σ hq0) | (with_reducible exact HK.out _ σ hw5) | (exact HK.out _ (σ.setW tn j 0) (mem_setW (k := tn) (i := j) hw5 hj8n 0)) | go_keep) (first | (go_at_call 67; (with_reducible refine (HI2.out _).mono ?_); rintro e2 w5 ⟨rfl, b5⟩; have hw5 := hq0.below b5; have xw5 := xq0.below b5; have y0 := mem_word hw5 htn hj8n; have y1 := hw5.right.free (tn * 8 + j); have y2 := hw5.right.lt))
      all_goals
        go_wp2_with fail
        go_meet
        case rel => exact ⟨mem_setW (k := tn) (i := j) hw5 hj8n 0, xw5.set _ _⟩
    case rest =>
    clear hq hq0 xq0 hm hx HI2 h3k hw3
    obtain ⟨h9, x9⟩ := hcut
    have HZ8 := Lib.hid (allZ_eight (s := σ.setW tn j 0) (t := tn))
    have htn1 : tn < (σ.setW tn j 0).n := htn
    obtain ⟨d0, d1, d2⟩ := HK.out _ _ h9
    have e0 : wc.cell? ⟨gw, tn * 8, none⟩ = some ((Value.int .u64) ((σ.setW tn j 0).wd tn 0)) := mem_word h9 htn1 (i := 0) (by omega)
    have e1 := mem_word h9 htn1 (i := 1) (by omega)
    have e2 := mem_word h9 htn1 (i := 2) (by omega)
    have e3 := mem_word h9 htn1 (i := 3) (by omega)
    have e4 := mem_word h9 htn1 (i := 4) (by omega)
    have e5 := mem_word h9 htn1 (i := 5) (by omega)
    have e6 := mem_word h9 htn1 (i := 6) (by omega)
    have e7 := mem_word h9 htn1 (i := 7) (by omega)
    have HNS := Lib.hid (show (σ.setW tn j 0).n = s.n from HCU.out.2.2.1)
    have htz1 : (tn : Int) < ((σ.setW tn j 0).n : Int) := htnz
    generalize σ.setW tn j 0 = σ1 at *
    have HW := Lib.hid (fun (w' : World) (h : Has w' (memIn q gw gi vk σ1 (row 3 1 (.slice G g.length gc) g.length (g.map (Value.int .i64)) * (blk X5 #[.slice (some ⟨bA, 0, none⟩) y.tabs.length c, Value.bool y.e.there, Value.bool y.e.leaf, (Value.int .i64) y.e.rights, Value.bool y.e.used, Value.bool y.e.dirty, (Value.int .i64) y.e.frame, (Value.int .i64) y.lev] 112 * (irow (.slice (some ⟨bA, 0, none⟩) y.tabs.length c) y.tabs * (blk X0 #[(Value.int .i64) 0, (Value.int .i64) 0, (Value.int .i64) 0, (Value.int .i64) 0] 24 * (blk X2 #[(Value.int .i64) fm.page, (Value.int .i64) fm.size, (Value.int .i64) fm.frame, (Value.int .i64) fm.rights] 24 * QQ))))))) => memAt_shut h)
    have ql := h9.lt
    have gl := h9.right.lt
    have xl := h9.right.right.right.right.right.lt
    have bl : bA < wc.heap.size := by
      obtain ⟨b1, e1, l1, _⟩ := irow_at h9.right.right.right.right.right.right (k := k) (by have := HN.out; omega)
      injection e1 with e1; injection e1 with e1
      rw [e1]; exact l1
    generalize σ1.wd tn 0 = v0 at *
    generalize σ1.wd tn 1 = v1 at *
    generalize σ1.wd tn 2 = v2 at *
    generalize σ1.wd tn 3 = v3 at *
    generalize σ1.wd tn 4 = v4 at *
    generalize σ1.wd tn 5 = v5 at *
    generalize σ1.wd tn 6 = v6 at *
    generalize σ1.wd tn 7 = v7 at *
    have f0 := via_cell d0
    have f1 := via_cell d1
    have f2 := via_cell d2
    have a0 := via_cell e0
    have a1 := via_cell e1
    have a2 := via_cell e2
    have a3 := via_cell e3
    have a4 := via_cell e4
    have a5 := via_cell e5
    have a6 := via_cell e6
    have a7 := via_cell e7
    clear d0 d1 d2 e0 e1 e2 e3 e4 e5 e6 e7 HK
    go_upto_region 10 with fail
    go_cut [74] from 58 to 75 (fun s74 wx => s74 = Value.bool (decide (k = 0) || !allZ σ1 (tn : Int)) ∧ Has wx (memIn q gw gi vk σ1 (row 3 1 (.slice G g.length gc) g.length (g.map (Value.int .i64)) * (blk X5 #[.slice (some ⟨bA, 0, none⟩) y.tabs.length c, Value.bool y.e.there, Value.bool y.e.leaf, (Value.int .i64) y.e.rights, Value.bool y.e.used, Value.bool y.e.dirty, (Value.int .i64) y.e.frame, (Value.int .i64) y.lev] 112 * (irow (.slice (some ⟨bA, 0, none⟩) y.tabs.length c) y.tabs * (blk X0 #[(Value.int .i64) 0, (Value.int .i64) 0, (Value.int .i64) 0, (Value.int .i64) 0] 24 * (blk X2 #[(Value.int .i64) fm.page, (Value.int .i64) fm.size, (Value.int .i64) fm.frame, (Value.int .i64) fm.rights] 24 * QQ)))))) ∧ Ext w wx)
    case first =>
      by_cases hz : k = 0
      · have hkz : ((k : Int) == 0) = true := by simpa using hz
        have HKZ := Lib.hid hz
        clear hz
        refine wp_region_via (by kernel_rfl) (by kernel_rfl) ?_
        repeat (first | go_big_quiet_step (fail) | quiet_step (fail))
        refine wpQuiet_nil ?_
        intro _ hw'
        obtain ⟨uq, hw''⟩ := hw'
        subst hw''
        have h10 := h9.via uq
        have x10 := x9.below (via_below _ uq)
        generalize via wc uq = w10 at *
        go_wp2_with fail
        go_meet
        case rel => exact ⟨by simp [HKZ.out], h10, x10⟩
      · have hkz : ((k : Int) == 0) = false := by simpa using hz
        have HKZ := Lib.hid hz
        clear hz
        refine wp_region_via (by kernel_rfl) (by kernel_rfl) ?_
        repeat (first | go_big_quiet_step (fail) | quiet_step (fail))
        refine wpQuiet_nil ?_
        intro _ hw'
        obtain ⟨uq, hw''⟩ := hw'
        subst hw''
        have h10 := h9.via uq
        have x10 := x9.below (via_below _ uq)
        generalize via wc uq = w10 at *
        go_wp2_with fail
        go_meet
        case rel => exact ⟨by rw [← HZ8.out]; simp [HKZ.out], h10, x10⟩
    case rest =>
    clear h9 x9 f0 f1 f2 a0 a1 a2 a3 a4 a5 a6 a7 ql gl xl bl HZ8
    obtain ⟨rfl, h10, x10⟩ := hcut
    have h11 := HW.out _ h10
    have hz' : Has _ (blk X0 #[(Value.int .i64) 0, (Value.int .i64) 0, (Value.int .i64) 0, (Value.int .i64) 0] 24 * (blk X2 #[(Value.int .i64) fm.page, (Value.int .i64) fm.size, (Value.int .i64) fm.frame, (Value.int .i64) fm.rights] 24 * (row 3 1 (.slice G g.length gc) g.length (g.map (Value.int .i64)) * (memAt q σ1 * (blk X5 #[.slice (some ⟨bA, 0, none⟩) y.tabs.length c, Value.bool y.e.there, Value.bool y.e.leaf, (Value.int .i64) y.e.rights, Value.bool y.e.used, Value.bool y.e.dirty, (Value.int .i64) y.e.frame, (Value.int .i64) y.lev] 112 * (irow (.slice (some ⟨bA, 0, none⟩) y.tabs.length c) y.tabs * QQ)))))) := h11.eq (by ac_rfl)
    clear h10 HW
    by_cases hstop : k = 0 ∨ allZ σ1 (tn : Int) = false
    · have hcut := HZ.out hstop
      have hF := HCU.out
      rw [hcut] at hF
      have HF := Lib.hid (show rs = σ1 ∧ rg = g from ⟨hF.1, by rw [hF.2.1]; simp⟩)
      have hb : (decide (k = 0) || !allZ σ1 (tn : Int)) = true := by rcases hstop with h | h <;> simp [h]
      rw [hb]
      clear hcut hF hstop hb HCU HZ HM
      obtain ⟨m0, m1, m2, m3⟩ := hz'.right.cells4
      have ml := hz'.right.lt
      obtain ⟨r0, r1, r2, r3⟩ := hz'.cells4
      obtain ⟨q0, q1, q2, q3⟩ := hz'.frees4
      have rl := hz'.lt
      go_wp2_with fail
      refine ret_via (fun wz => Has wz (blk X0 #[(Value.int .i64) fm.page, (Value.int .i64) fm.size, (Value.int .i64) fm.frame, (Value.int .i64) fm.rights] 24 * (blk X2 #[(Value.int .i64) fm.page, (Value.int .i64) fm.size, (Value.int .i64) fm.frame, (Value.int .i64) fm.rights] 24 * (row 3 1 (.slice G g.length gc) g.length (g.map (Value.int .i64)) * (memAt q σ1 * (blk X5 #[.slice (some ⟨bA, 0, none⟩) y.tabs.length c, Value.bool y.e.there, Value.bool y.e.leaf, (Value.int .i64) y.e.rights, Value.bool y.e.used, Value.bool y.e.dirty, (Value.int .i64) y.e.frame, (Value.int .i64) y.lev] 112 * (irow (.slice (some ⟨bA, 0, none⟩) y.tabs.length c) y.tabs * QQ)))))) ∧ Ext w wz) ⟨hz'.set4 _ _ _ _, by (repeat (first | with_reducible assumption | with_reducible exact Ext.refl _ | with_reducible refine Ext.set ?_ _ _ | with_reducible refine Ext.alloc ?_ _ | with_reducible refine Ext.drew ?_ | with_reducible refine Ext.drewN ?_ _ | assumption | exact Ext.refl _ | refine Ext.alloc ?_ _ | refine Ext.set ?_ _ _ | refine Ext.drew ?_ | refine Ext.drewN ?_ _ | refine Ext.below ?_ (by assumption) | refine Ext.trans ?_ (by assumption)))⟩ ?_
      rintro wz ⟨hw, xw⟩
      have hw2 : Has wz (blk X0 #[(Value.int .i64) fm.page, (Value.int .i64) fm.size, (Value.int .i64) fm.frame, (Value.int .i64) fm.rights] 24 * (blk X2 #[(Value.int .i64) fm.page, (Value.int .i64) fm.size, (Value.int .i64) fm.frame, (Value.int .i64) fm.rights] 24 * (blk X5 #[.slice (some ⟨bA, 0, none⟩) y.tabs.length c, Value.bool y.e.there, Value.bool y.e.leaf, (Value.int .i64) y.e.rights, Value.bool y.e.used, Value.bool y.e.dirty, (Value.int .i64) y.e.frame, (Value.int .i64) y.lev] 112 * (irow (.slice (some ⟨bA, 0, none⟩) y.tabs.length c) y.tabs * (blk (X2 + 1) #[Value.bool fe.there, Value.bool fe.leaf, (Value.int .i64) fe.rights, Value.bool fe.used, Value.bool fe.dirty, (Value.int .i64) fe.frame] 50 * (irow (.slice G g.length gc) g * (memAt q σ1 * R))))))) := by
        have := hw
        rw [HQQ.out] at this
        unfold irow at this ⊢
        exact this.eq (by ac_rfl)
      exact bodyPost_ret (results_ctt Try.results16 rfl rfl rfl (load_map hw)) rfl ⟨G, g.length, gc, rfl, by rw [HF.out.1, HF.out.2]; exact hw2.right.right.right.right.right, xw⟩
    · have hka2 : allZ σ1 (tn : Int) = true := by
        cases h : allZ σ1 (tn : Int) with
        | true => rfl
        | false => exact absurd (.inr h) hstop
      have hka : k ≠ 0 ∧ allZ σ1 (tn : Int) = true := ⟨fun h => hstop (.inl h), hka2⟩
      have hb : (decide (k = 0) || !allZ σ1 (tn : Int)) = false := by simp [hka.1, hka.2]
      rw [hb]
      obtain ⟨i, hi⟩ : ∃ i, k = i + 1 := ⟨k - 1, by omega⟩
      have hmore := HM.out i hi hka.2
      have hF := HCU.out
      rw [hmore] at hF
      have HCU' := Lib.hid (show rs = (cutR p y.tabs i σ1).1 ∧ rg = (g ++ [(tn : Int)]) ++ (cutR p y.tabs i σ1).2 ∧ σ1.n = s.n ∧ (g ++ [(tn : Int)]).length + i ≤ n from ⟨hF.1, by rw [hF.2.1]; simp, HNS.out, by simp; have := hF.2.2.2; omega⟩)
      have hki1 : (k : Int) - 1 = (i : Int) := by omega
      have hwi : IntKind.i64.wrap (i : Int) = (i : Int) := by rw [IntKind.wrap_i64]; omega
      have HI := Lib.hid hi
      have hgl : g.length ≤ 4 := by have := hF.2.2.2; omega
      clear hmore hF hb HCU HZ HM hka hka2 hstop hi
      obtain ⟨b1, eb, lb, qb⟩ := irow_at h11.right.right.right (k := k) (by have := HN.out; omega)
      injection eb with eb; injection eb with eb
      subst eb
      rw [(List.getElem?_eq_some_iff.1 HTKk.out).2] at qb
      have k0 := h11.right.right.cell 0
      have kl := h11.right.right.lt
      have h12 : Has _ (row 3 1 (.slice G g.length gc) g.length (g.map (Value.int .i64)) * (memAt q σ1 * (blk X5 #[.slice (some ⟨bA, 0, none⟩) y.tabs.length c, Value.bool y.e.there, Value.bool y.e.leaf, (Value.int .i64) y.e.rights, Value.bool y.e.used, Value.bool y.e.dirty, (Value.int .i64) y.e.frame, (Value.int .i64) y.lev] 112 * (irow (.slice (some ⟨bA, 0, none⟩) y.tabs.length c) y.tabs * (blk X0 #[(Value.int .i64) 0, (Value.int .i64) 0, (Value.int .i64) 0, (Value.int .i64) 0] 24 * (blk X2 #[(Value.int .i64) fm.page, (Value.int .i64) fm.size, (Value.int .i64) fm.frame, (Value.int .i64) fm.rights] 24 * QQ)))))) := h11.eq (by ac_rfl)
      have hrow := h12.alloc (.cells #[(Value.int .i64) (tn : Int)] 3)
      go_wp2_with (first | (at_builtin; refine wpList_append_has rfl _ _ 36 rfl Try.underlying36 elemI _ _ _ rfl hrow ⟨_, 0, none⟩ 1 1 [(Value.int .i64) (tn : Int)] rfl rfl (news_one _ ((Value.int .i64) (tn : Int)) 3) ?c1 ?c2 ?c3 ?_))
      case c1 => first | rfl | (intro u hu; simp at hu; subst hu; rfl)
      case c2 => unfold maxLen; omega
      case c3 => omega
      intro v' w14 h14 x14
      obtain ⟨G', gc', rfl⟩ := h14.rowForm
      go_wp2_with fail
      go_roundw
      case rel => exact ⟨i, σ1, g ++ [(tn : Int)], G', gc', by have := HI.out; omega, by first | rfl | go_num, by simp, HCU', by simp only [List.length_append, List.length_singleton, List.map_append, List.map_cons, List.map_nil]; exact h14, (x10.alloc _).trans x14⟩
      case measure => have := HI.out; simp [intOf]; omega
end Go.Proofs.Ytegkimecdonfgaa
