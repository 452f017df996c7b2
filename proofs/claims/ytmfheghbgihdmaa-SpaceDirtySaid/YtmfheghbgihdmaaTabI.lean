/- Contract of table.Insert. -/
import Derived.Test.YtmfheghbgihdmaaInsM2
import Derived.Test.YtmfheghbgihdmaaWkFind
namespace Go.Proofs.Ytmfheghbgihdmaa
open Go.RowKit
set_option maxRecDepth 100000
/-- What Insert comes to. -/
def InsertedT (f : Nat) (s : Ms) (r : Int) (x : Mp) (R : HProp) (w : World) (e : Ending) (w' : World) : Prop :=
  ∃ s', s'.Ok ∧ Agree s' (insS s r x) ∧ Res ((Value.int .i64) (insC s r x)) (framesAt f s' * R) w e w'
theorem insS_no {s : Ms} {r : Int} {x : Mp} (h : insC s r x ≠ 0) : insS s r x = s := by unfold insS; rw [if_neg h]
set_option maxHeartbeats 8000000 in
theorem insT (f : Nat) (s : Ms) (root : Int) (x : Mp) (R : HProp) (w : World) (hs : s.Ok) (h : Has w (framesAt f s * R)) :
    Calls Try.prog 36 #[.pointer (some ⟨f, 0, none⟩), (Value.int .i64) root, .agg #[(Value.int .i64) x.page, (Value.int .i64) x.size, (Value.int .i64) x.frame, (Value.int .i64) x.rights]] w (InsertedT f s root x R w) := by
  have h0 := h.new #[(Value.int .i64) x.page, (Value.int .i64) x.size, (Value.int .i64) x.frame, (Value.int .i64) x.rights] 31
  have x0 := (Ext.refl w).alloc (.cells #[(Value.int .i64) x.page, (Value.int .i64) x.size, (Value.int .i64) x.frame, (Value.int .i64) x.rights] 31)
  have HC := Lib.hid (check_any x)
  by_cases hck : check x = 0
  case neg =>
    have hic : insC s root x = check x := by unfold insC; rw [if_pos hck]
    have HI := Lib.hid (And.intro hic (insS_no (s := s) (r := root) (x := x) (by rw [hic]; exact hck)))
    have hn : (check x != 0) = true := by simpa using hck
    unfold InsertedT
    rw [HI.out.1, HI.out.2]
    generalize check x = cx at *
    clear hck h hic
    obtain ⟨c0, c1, c2, c3⟩ := h0.cells4
    go_enter Try.func36, Try.ntmps36
    go_wp2_with fail
    refine (HC.out _).mono ?_; rintro e w2 ⟨rfl, b2⟩
    go_wp2_with fail
    go_ret
    exact ⟨s, hs, Agree.refl s, rfl, (h0.right.below b2), x0.below b2⟩
  obtain ⟨hp, z, hz0, hz2⟩ := check_hasB hck
  have HZ := Lib.hid hz0
  clear hz0
  have W1 := Lib.hid (fun w' (h : Has w' (framesAt f s * (blk w.heap.size #[(Value.int .i64) x.page, (Value.int .i64) x.size, (Value.int .i64) x.frame, (Value.int .i64) x.rights] 31 * R))) => find_way f s root x.page _ w' hs h)
  rw [hck] at HC
  by_cases hcode : (way s root x.page).code = 0
  case neg =>
    have hic : insC s root x = (way s root x.page).code := by unfold insC; rw [if_neg (by rw [hck]; simp), if_pos hcode]
    have HI := Lib.hid (And.intro hic (insS_no (s := s) (r := root) (x := x) (by rw [hic]; exact hcode)))
    unfold InsertedT
    rw [HI.out.1, HI.out.2]
    clear hic hck h
    generalize way s root x.page = y at *
    have hn : (y.code != 0) = true := by simpa using hcode
    clear hcode
    obtain ⟨c0, c1, c2, c3⟩ := h0.cells4
    have cl := h0.lt
    go_enter Try.func36, Try.ntmps36
    go_wp2_with fail
    refine (HC.out _).mono ?_; rintro e w2 ⟨rfl, b2⟩
    have h2 := h0.below b2
    have x2 := x0.below b2
    clear h0 x0 b2 c0 c1 c2 c3 cl
    obtain ⟨c0, c1, c2, c3⟩ := h2.cells4
    have cl := h2.lt
    go_wp2_with fail
    refine (W1.out _ h2.p2).mono ?_; rintro e w3 hF
    obtain ⟨A, B, c, d, rfl, h3, x3⟩ : ∃ (A B : Option Addr) (c d : Nat), e = .returned (.tuple #[.agg #[(Value.int .i64) y.lev, Value.bool y.e.there, Value.bool y.e.leaf, (Value.int .i64) y.e.rights, Value.bool y.e.used, Value.bool y.e.dirty, (Value.int .i64) y.e.frame, .slice A y.tabs.length c, .slice B y.tabs.length d], (Value.int .i64) y.code]) ∧ Has w3 (irow (.slice A y.tabs.length c) y.tabs * (irow (.slice B y.tabs.length d) (placesOf x.page y.tabs.length) * old w2 w2.heap.size)) ∧ Ext w2 w3 := hF
    have h4 := ((h2.onto' (h3.a2)).a1).right.right.right
    go_wp2_with fail
    go_ret
    exact ⟨s, hs, Agree.refl s, rfl, h4.alloc _, (x2.trans x3).alloc _⟩
  by_cases hbad : (way s root x.page).e.there = true ∨ (way s root x.page).lev < x.size
  case pos =>
    have hic : insC s root x = 4 := by unfold insC; rw [if_neg (by rw [hck]; simp), if_neg (by rw [hcode]; simp), if_pos hbad]
    have HI := Lib.hid (And.intro hic (insS_no (s := s) (r := root) (x := x) (by rw [hic]; decide)))
    unfold InsertedT
    rw [HI.out.1, HI.out.2]
    clear hic hck h
    generalize way s root x.page = y at *
    obtain ⟨code, tabs, lev, th, lf, rg, us, di, fr⟩ := y
    dsimp only at *
    subst hcode
    cases th with
    | true =>
      clear hbad
      obtain ⟨c0, c1, c2, c3⟩ := h0.cells4
      have cl := h0.lt
      go_enter Try.func36, Try.ntmps36
      go_wp2_with fail
      refine (HC.out _).mono ?_; rintro e w2 ⟨rfl, b2⟩
      have h2 := h0.below b2
      have x2 := x0.below b2
      clear h0 x0 b2 c0 c1 c2 c3 cl
      obtain ⟨c0, c1, c2, c3⟩ := h2.cells4
      have cl := h2.lt
      go_wp2_with fail
      refine (W1.out _ h2.p2).mono ?_; rintro e w3 hF
      obtain ⟨A, B, c, d, rfl, h3, x3⟩ : ∃ (A B : Option Addr) (c d : Nat), e = .returned (.tuple #[.agg #[(Value.int .i64) lev, Value.bool true, Value.bool lf, (Value.int .i64) rg, Value.bool us, Value.bool di, (Value.int .i64) fr, .slice A tabs.length c, .slice B tabs.length d], (Value.int .i64) 0]) ∧ Has w3 (irow (.slice A tabs.length c) tabs * (irow (.slice B tabs.length d) (placesOf x.page tabs.length) * old w2 w2.heap.size)) ∧ Ext w2 w3 := hF
      have h5 : Has _ (blk w3.heap.size #[(Value.int .i64) lev, Value.bool true, Value.bool lf, (Value.int .i64) rg, Value.bool us, Value.bool di, (Value.int .i64) fr, .slice A tabs.length c, .slice B tabs.length d] 122 * (irow (.slice A tabs.length c) tabs * (irow (.slice B tabs.length d) (placesOf x.page tabs.length) * (blk w.heap.size #[(Value.int .i64) x.page, (Value.int .i64) x.size, (Value.int .i64) x.frame, (Value.int .i64) x.rights] 31 * (framesAt f s * R))))) := ((h2.onto' (h3.a2)).a1).new #[(Value.int .i64) lev, Value.bool true, Value.bool lf, (Value.int .i64) rg, Value.bool us, Value.bool di, (Value.int .i64) fr, .slice A tabs.length c, .slice B tabs.length d] 122
      have x5 := (x2.trans x3).alloc (.cells #[(Value.int .i64) lev, Value.bool true, Value.bool lf, (Value.int .i64) rg, Value.bool us, Value.bool di, (Value.int .i64) fr, .slice A tabs.length c, .slice B tabs.length d] 122)
      clear h2 x2 h3 x3 c0 c1 c2 c3 cl W1 HC
      go_upto_region 5 with fail
      generalize w3.alloc (.cells #[(Value.int .i64) lev, Value.bool true, Value.bool lf, (Value.int .i64) rg, Value.bool us, Value.bool di, (Value.int .i64) fr, .slice A tabs.length c, .slice B tabs.length d] 122) = w5 at *
      generalize w3.heap.size = X1 at *
      generalize w.heap.size = X0 at *
      obtain ⟨c0, c1, c2, c3⟩ := h5.right.right.right.cells4
      have cl := h5.right.right.right.lt
      obtain ⟨k0, k1, k2, k3, k4, k5, k6, k7, k8⟩ := h5.cells9
      have kl := h5.lt
      go_wp2_with fail
      go_ret
      exact ⟨s, hs, Agree.refl s, rfl, h5.right.right.right.right, x5⟩
    | false =>
      have hlt : lev < x.size := by rcases hbad with h | h; · cases h
                                    · exact h
      clear hbad
      obtain ⟨c0, c1, c2, c3⟩ := h0.cells4
      have cl := h0.lt
      go_enter Try.func36, Try.ntmps36
      go_wp2_with fail
      refine (HC.out _).mono ?_; rintro e w2 ⟨rfl, b2⟩
      have h2 := h0.below b2
      have x2 := x0.below b2
      clear h0 x0 b2 c0 c1 c2 c3 cl
      obtain ⟨c0, c1, c2, c3⟩ := h2.cells4
      have cl := h2.lt
      go_wp2_with fail
      refine (W1.out _ h2.p2).mono ?_; rintro e w3 hF
      obtain ⟨A, B, c, d, rfl, h3, x3⟩ : ∃ (A B : Option Addr) (c d : Nat), e = .returned (.tuple #[.agg #[(Value.int .i64) lev, Value.bool false, Value.bool lf, (Value.int .i64) rg, Value.bool us, Value.bool di, (Value.int .i64) fr, .slice A tabs.length c, .slice B tabs.length d], (Value.int .i64) 0]) ∧ Has w3 (irow (.slice A tabs.length c) tabs * (irow (.slice B tabs.length d) (placesOf x.page tabs.length) * old w2 w2.heap.size)) ∧ Ext w2 w3 := hF
      have h5 : Has _ (blk w3.heap.size #[(Value.int .i64) lev, Value.bool false, Value.bool lf, (Value.int .i64) rg, Value.bool us, Value.bool di, (Value.int .i64) fr, .slice A tabs.length c, .slice B tabs.length d] 122 * (irow (.slice A tabs.length c) tabs * (irow (.slice B tabs.length d) (placesOf x.page tabs.length) * (blk w.heap.size #[(Value.int .i64) x.page, (Value.int .i64) x.size, (Value.int .i64) x.frame, (Value.int .i64) x.rights] 31 * (framesAt f s * R))))) := ((h2.onto' (h3.a2)).a1).new #[(Value.int .i64) lev, Value.bool false, Value.bool lf, (Value.int .i64) rg, Value.bool us, Value.bool di, (Value.int .i64) fr, .slice A tabs.length c, .slice B tabs.length d] 122
      have x5 := (x2.trans x3).alloc (.cells #[(Value.int .i64) lev, Value.bool false, Value.bool lf, (Value.int .i64) rg, Value.bool us, Value.bool di, (Value.int .i64) fr, .slice A tabs.length c, .slice B tabs.length d] 122)
      clear h2 x2 h3 x3 c0 c1 c2 c3 cl W1 HC
      go_upto_region 5 with fail
      generalize w3.alloc (.cells #[(Value.int .i64) lev, Value.bool false, Value.bool lf, (Value.int .i64) rg, Value.bool us, Value.bool di, (Value.int .i64) fr, .slice A tabs.length c, .slice B tabs.length d] 122) = w5 at *
      generalize w3.heap.size = X1 at *
      generalize w.heap.size = X0 at *
      obtain ⟨c0, c1, c2, c3⟩ := h5.right.right.right.cells4
      have cl := h5.right.right.right.lt
      obtain ⟨k0, k1, k2, k3, k4, k5, k6, k7, k8⟩ := h5.cells9
      have kl := h5.lt
      go_wp2_with fail
      go_ret
      exact ⟨s, hs, Agree.refl s, rfl, h5.right.right.right.right, x5⟩
  obtain ⟨_, n, hn, hn3, hl, hu⟩ := way_tabs hcode
  have hth : (way s root x.page).e.there = false := by cases h : (way s root x.page).e.there; · rfl
                                                       · exact absurd (.inl h) hbad
  have hls : ¬ ((way s root x.page).lev < x.size) := fun h => hbad (.inr h)
  obtain ⟨m, hm⟩ : ∃ m : Nat, n + m + z = 3 := ⟨3 - n - z, by have := HZ.out; omega⟩
  have HT := Lib.hid (fun b R w h => takeB b f s hs m (by omega) R w h)
  unfold Took at HT
  by_cases hfull : s.frees.length < m
  case pos =>
    have hic : insC s root x = 6 := by
      unfold insC
      rw [if_neg (by rw [hck]; simp), if_neg (by rw [hcode]; simp), if_neg hbad, if_pos (by have := HZ.out; omega)]
    have HI := Lib.hid (And.intro hic (insS_no (s := s) (r := root) (x := x) (by rw [hic]; decide)))
    unfold InsertedT
    rw [HI.out.1, HI.out.2]
    have hmm : (way s root x.page).lev - x.size = (m : Int) := by have := HZ.out; omega
    have HN := Lib.hid hn
    clear hic hck h hu hn hl
    generalize way s root x.page = y at *
    obtain ⟨code, tabs, lev, th, lf, rg, us, di, fr⟩ := y
    dsimp only at *
    subst hcode hth
    clear hbad
    obtain ⟨c0, c1, c2, c3⟩ := h0.cells4
    have cl := h0.lt
    go_enter Try.func36, Try.ntmps36
    go_wp2_with fail
    refine (HC.out _).mono ?_; rintro e w2 ⟨rfl, b2⟩
    have h2 := h0.below b2
    have x2 := x0.below b2
    clear h0 x0 b2 c0 c1 c2 c3 cl
    obtain ⟨c0, c1, c2, c3⟩ := h2.cells4
    have cl := h2.lt
    go_wp2_with fail
    refine (W1.out _ h2.p2).mono ?_; rintro e w3 hF
    obtain ⟨A, B, c, d, rfl, h3, x3⟩ : ∃ (A B : Option Addr) (c d : Nat), e = .returned (.tuple #[.agg #[(Value.int .i64) lev, Value.bool false, Value.bool lf, (Value.int .i64) rg, Value.bool us, Value.bool di, (Value.int .i64) fr, .slice A tabs.length c, .slice B tabs.length d], (Value.int .i64) 0]) ∧ Has w3 (irow (.slice A tabs.length c) tabs * (irow (.slice B tabs.length d) (placesOf x.page tabs.length) * old w2 w2.heap.size)) ∧ Ext w2 w3 := hF
    have h5 : Has _ (blk w3.heap.size #[(Value.int .i64) lev, Value.bool false, Value.bool lf, (Value.int .i64) rg, Value.bool us, Value.bool di, (Value.int .i64) fr, .slice A tabs.length c, .slice B tabs.length d] 122 * (irow (.slice A tabs.length c) tabs * (irow (.slice B tabs.length d) (placesOf x.page tabs.length) * (blk w.heap.size #[(Value.int .i64) x.page, (Value.int .i64) x.size, (Value.int .i64) x.frame, (Value.int .i64) x.rights] 31 * (framesAt f s * R))))) := ((h2.onto' (h3.a2)).a1).new #[(Value.int .i64) lev, Value.bool false, Value.bool lf, (Value.int .i64) rg, Value.bool us, Value.bool di, (Value.int .i64) fr, .slice A tabs.length c, .slice B tabs.length d] 122
    have x5 := (x2.trans x3).alloc (.cells #[(Value.int .i64) lev, Value.bool false, Value.bool lf, (Value.int .i64) rg, Value.bool us, Value.bool di, (Value.int .i64) fr, .slice A tabs.length c, .slice B tabs.length d] 122)
    clear h2 x2 h3 x3 c0 c1 c2 c3 cl W1 HC
    go_upto_region 5 with fail
    generalize w3.alloc (.cells #[(Value.int .i64) lev, Value.bool false, Value.bool lf, (Value.int .i64) rg, Value.bool us, Value.bool di, (Value.int .i64) fr, .slice A tabs.length c, .slice B tabs.length d] 122) = w5 at *
    generalize w3.heap.size = X1 at *
    generalize w.heap.size = X0 at *
    obtain ⟨c0, c1, c2, c3⟩ := h5.right.right.right.cells4
    have cl := h5.right.right.right.lt
    obtain ⟨k0, k1, k2, k3, k4, k5, k6, k7, k8⟩ := h5.cells9
    have kl := h5.lt
    have h6 := h5.new #[.pointer (some ⟨f, 0, none⟩), .slice none 0 0] 133
    have x6 := x5.alloc (.cells #[.pointer (some ⟨f, 0, none⟩), .slice none 0 0] 133)
    go_upto_region 10 with fail
    generalize w5.alloc (.cells #[.pointer (some ⟨f, 0, none⟩), .slice none 0 0] 133) = w6 at *
    generalize w5.heap.size = Xb at *
    clear h5 x5 c0 c1 c2 c3 cl k0 k1 k2 k3 k4 k5 k6 k7 k8 kl
    obtain ⟨k0, k1, k2, k3, k4, k5, k6, k7, k8⟩ := h6.right.cells9
    have kl := h6.right.lt
    obtain ⟨c0, c1, c2, c3⟩ := h6.right.right.right.right.cells4
    have cl := h6.right.right.right.right.lt
    have hmw : IntKind.i64.wrap (m : Int) = (m : Int) := by rw [IntKind.wrap_i64]; omega
    have hmw2 : IntKind.i64.wrap (lev - x.size) = (m : Int) := by rw [hmm]; exact hmw
    have h7 : Has w6 (blk Xb #[.pointer (some ⟨f, 0, none⟩), .slice none 0 0] 133 * (framesAt f s * (blk X1 #[(Value.int .i64) lev, Value.bool false, Value.bool lf, (Value.int .i64) rg, Value.bool us, Value.bool di, (Value.int .i64) fr, .slice A tabs.length c, .slice B tabs.length d] 122 * (irow (.slice A tabs.length c) tabs * (irow (.slice B tabs.length d) (placesOf x.page tabs.length) * (blk X0 #[(Value.int .i64) x.page, (Value.int .i64) x.size, (Value.int .i64) x.frame, (Value.int .i64) x.rights] 31 * R)))))) := h6.eq (by ac_rfl)
    go_wp2_with fail
    refine (HT.out _ _ _ h7).mono ?_; rintro e w7 hF
    rcases hF with ⟨hle, _⟩ | ⟨_, s', hs', hag, rfl, h8, x8⟩
    · exact absurd hle (by omega)
    · go_wp2_with fail
      go_ret
      exact ⟨s', hs', hag, rfl, h8.eq (show _ = blk X1 #[(Value.int .i64) lev, Value.bool false, Value.bool lf, (Value.int .i64) rg, Value.bool us, Value.bool di, (Value.int .i64) fr, .slice A tabs.length c, .slice B tabs.length d] 122 * (irow (.slice A tabs.length c) tabs * (irow (.slice B tabs.length d) (placesOf x.page tabs.length) * (blk X0 #[(Value.int .i64) x.page, (Value.int .i64) x.size, (Value.int .i64) x.frame, (Value.int .i64) x.rights] 31 * (framesAt f s' * R)))) by ac_rfl) |>.right.right.right.right, x6.trans x8⟩
  have hic : insC s root x = 0 := by
    unfold insC
    rw [if_neg (by rw [hck]; simp), if_neg (by rw [hcode]; simp), if_neg hbad, if_neg (by have := HZ.out; omega)]
  have HAT : InsAt s root x n m z := ⟨hcode, hp, hn, hl, HZ.out, hm, by omega⟩
  have HFIN := Lib.hid (HAT.fin hs hic)
  have HLAST := Lib.hid (fun t ht σ lw => HAT.last (t := t) ht σ lw)
  have HSTEP := Lib.hid (fun j t k ht hk σ lw => HAT.step (j := j) (t := t) (k := k) ht hk σ lw)
  have HSTO := Lib.hid (fun σ hσ j t hj v => HAT.store hs (σ := σ) hσ (j := j) (t := t) hj v)
  have HALN := Lib.hid HAT.all_len
  have HAL := Lib.hid (show allI s root x m = (way s root x.page).tabs ++ tops s m from rfl)
  have HOKF := Lib.hid (fun (l : List Int) => upL_ok (takeN_ok hs m) x.page (encW_u64 (leafE x) x.size) z l)
  have HHAS := Lib.hid (fun (l : List Int) (u : Int) => upL_has (takeN s m) x.page (encW (leafE x) x.size) z u l)
  have HIC := Lib.hid hic
  have HN := Lib.hid hn
  have hmm : (way s root x.page).lev - x.size = (m : Int) := by have := HZ.out; omega
  have htl := tops_len s m
  unfold InsertedT
  rw [HIC.out]
  generalize insS s root x = sF at *
  generalize allI s root x m = al at *
  generalize tops s m = tp at *
  clear HAT hic hck h hu hn HIC
  generalize way s root x.page = y at *
  obtain ⟨code, tabs, lev, th, lf, rg, us, di, fr⟩ := y
  dsimp only at *
  subst hcode hth
  have HLV := Lib.hid hl
  clear hbad hl
  obtain ⟨c0, c1, c2, c3⟩ := h0.cells4
  have cl := h0.lt
  go_enter Try.func36, Try.ntmps36
  go_wp2_with fail
  refine (HC.out _).mono ?_; rintro e w2 ⟨rfl, b2⟩
  have h2 := h0.below b2
  have x2 := x0.below b2
  clear h0 x0 b2 c0 c1 c2 c3 cl
  obtain ⟨c0, c1, c2, c3⟩ := h2.cells4
  have cl := h2.lt
  go_wp2_with fail
  refine (W1.out _ h2.p2).mono ?_; rintro e w3 hF
  obtain ⟨A, B, c, d, rfl, h3, x3⟩ : ∃ (A B : Option Addr) (c d : Nat), e = .returned (.tuple #[.agg #[(Value.int .i64) lev, Value.bool false, Value.bool lf, (Value.int .i64) rg, Value.bool us, Value.bool di, (Value.int .i64) fr, .slice A tabs.length c, .slice B tabs.length d], (Value.int .i64) 0]) ∧ Has w3 (irow (.slice A tabs.length c) tabs * (irow (.slice B tabs.length d) (placesOf x.page tabs.length) * old w2 w2.heap.size)) ∧ Ext w2 w3 := hF
  have h5 : Has _ (blk w3.heap.size #[(Value.int .i64) lev, Value.bool false, Value.bool lf, (Value.int .i64) rg, Value.bool us, Value.bool di, (Value.int .i64) fr, .slice A tabs.length c, .slice B tabs.length d] 122 * (irow (.slice A tabs.length c) tabs * (irow (.slice B tabs.length d) (placesOf x.page tabs.length) * (blk w.heap.size #[(Value.int .i64) x.page, (Value.int .i64) x.size, (Value.int .i64) x.frame, (Value.int .i64) x.rights] 31 * (framesAt f s * R))))) := ((h2.onto' (h3.a2)).a1).new #[(Value.int .i64) lev, Value.bool false, Value.bool lf, (Value.int .i64) rg, Value.bool us, Value.bool di, (Value.int .i64) fr, .slice A tabs.length c, .slice B tabs.length d] 122
  have x5 := (x2.trans x3).alloc (.cells #[(Value.int .i64) lev, Value.bool false, Value.bool lf, (Value.int .i64) rg, Value.bool us, Value.bool di, (Value.int .i64) fr, .slice A tabs.length c, .slice B tabs.length d] 122)
  clear h2 x2 h3 x3 c0 c1 c2 c3 cl W1 HC
  go_upto_region 5 with fail
  generalize w3.alloc (.cells #[(Value.int .i64) lev, Value.bool false, Value.bool lf, (Value.int .i64) rg, Value.bool us, Value.bool di, (Value.int .i64) fr, .slice A tabs.length c, .slice B tabs.length d] 122) = w5 at *
  generalize w3.heap.size = X1 at *
  generalize w.heap.size = X0 at *
  obtain ⟨c0, c1, c2, c3⟩ := h5.right.right.right.cells4
  have cl := h5.right.right.right.lt
  obtain ⟨k0, k1, k2, k3, k4, k5, k6, k7, k8⟩ := h5.cells9
  have kl := h5.lt
  have h6 := h5.new #[.pointer (some ⟨f, 0, none⟩), .slice none 0 0] 133
  have x6 := x5.alloc (.cells #[.pointer (some ⟨f, 0, none⟩), .slice none 0 0] 133)
  go_upto_region 10 with fail
  generalize w5.alloc (.cells #[.pointer (some ⟨f, 0, none⟩), .slice none 0 0] 133) = w6 at *
  generalize w5.heap.size = Xb at *
  clear h5 x5 c0 c1 c2 c3 cl k0 k1 k2 k3 k4 k5 k6 k7 k8 kl
  obtain ⟨k0, k1, k2, k3, k4, k5, k6, k7, k8⟩ := h6.right.cells9
  have kl := h6.right.lt
  obtain ⟨c0, c1, c2, c3⟩ := h6.right.right.right.right.cells4
  have cl := h6.right.right.right.right.lt
  have hmw : IntKind.i64.wrap (m : Int) = (m : Int) := by rw [IntKind.wrap_i64]; omega
  have hmw2 : IntKind.i64.wrap (lev - x.size) = (m : Int) := by rw [hmm]; exact hmw
  have h7 : Has w6 (blk Xb #[.pointer (some ⟨f, 0, none⟩), .slice none 0 0] 133 * (framesAt f s * (blk X1 #[(Value.int .i64) lev, Value.bool false, Value.bool lf, (Value.int .i64) rg, Value.bool us, Value.bool di, (Value.int .i64) fr, .slice A tabs.length c, .slice B tabs.length d] 122 * (irow (.slice A tabs.length c) tabs * (irow (.slice B tabs.length d) (placesOf x.page tabs.length) * (blk X0 #[(Value.int .i64) x.page, (Value.int .i64) x.size, (Value.int .i64) x.frame, (Value.int .i64) x.rights] 31 * R)))))) := h6.eq (by ac_rfl)
  clear h6
  go_wp2_with fail
  refine (HT.out _ _ _ h7).mono ?_; rintro e w7 hF
  rcases hF with ⟨_, G, gc, rfl, h8, x8⟩ | ⟨hle, _⟩
  case inr => exact absurd hle (by omega)
  have x9 := x6.trans x8
  clear h7 x6 x8 HT hmw hmw2 hmm k0 k1 k2 k3 k4 k5 k6 k7 k8 kl c0 c1 c2 c3 cl
  have h9 : Has w7 (irow (.slice A tabs.length c) tabs * (row 3 1 (.slice G m gc) m (tp.map (Value.int .i64)) * (blk X1 #[(Value.int .i64) lev, Value.bool false, Value.bool lf, (Value.int .i64) rg, Value.bool us, Value.bool di, (Value.int .i64) fr, .slice A tabs.length c, .slice B tabs.length d] 122 * (blk Xb #[.pointer (some ⟨f, 0, none⟩), .slice G m gc] 133 * (irow (.slice B tabs.length d) (placesOf x.page tabs.length) * (framesAt f (takeN s m) * (blk X0 #[(Value.int .i64) x.page, (Value.int .i64) x.size, (Value.int .i64) x.frame, (Value.int .i64) x.rights] 31 * R))))))) := h8.eq (by ac_rfl)
  clear h8
  have hlen1 : ((tabs.length : Nat) : Int) - 1 = (n : Int) := by have := HN.out; omega
  have k7 := h9.right.right.cell 7
  have kl := h9.right.right.lt
  have HLN := Lib.hid hlen1
  clear hlen1
  go_upto_region 12 with fail
  go_cut [11] from 55 to 59 (fun s11 wx => s11 = (Value.int .i64) n ∧ wx = w7)
  case first =>
    have hlen1 := HLN.out
    go_wp2_with fail
    go_meet
    case rel => exact ⟨by first | rfl | (rw [← hlen1]; done) | (rw [← hlen1]; go_num), rfl⟩
  case rest =>
  obtain ⟨rfl, hwr⟩ := hcut
  replace hwr := hwr.symm
  subst hwr
  have HS := Lib.hid (fun (w' : World) (P Q : HProp) (h : Has w' (P * (Q * (blk X1 #[(Value.int .i64) lev, Value.bool false, Value.bool lf, (Value.int .i64) rg, Value.bool us, Value.bool di, (Value.int .i64) fr, .slice A tabs.length c, .slice B tabs.length d] 122 * (blk Xb #[.pointer (some ⟨f, 0, none⟩), .slice G m gc] 133 * (irow (.slice B tabs.length d) (placesOf x.page tabs.length) * (framesAt f (takeN s m) * (blk X0 #[(Value.int .i64) x.page, (Value.int .i64) x.size, (Value.int .i64) x.frame, (Value.int .i64) x.rights] 31 * R)))))))) => (⟨h.right.right.cell 7, h.right.right.right.cell 1⟩ : w'.cell? ⟨X1, 7, none⟩ = some (.slice A tabs.length c) ∧ w'.cell? ⟨Xb, 1, none⟩ = some (.slice G m gc)))
  have hbl := h9.right.right.right.lt
  have hnt : tabs.length = n + 1 := HN.out
  have hnt4 : tabs.length ≤ 1000000 := by omega
  have hntm : tabs.length + m ≤ 1000000 := by omega
  clear hnt
  go_upto_region 13 with fail
  go_cut [12] from 59 to 67 (fun s12 wx => ∃ (D : Option Addr) (dc : Nat), s12 = .slice D (tabs.length + m) dc ∧ Has wx (row 3 1 (.slice D (tabs.length + m) dc) (tabs.length + m) (tabs.map (Value.int .i64) ++ tp.map (Value.int .i64)) * (irow (.slice A tabs.length c) tabs * (row 3 1 (.slice G m gc) m (tp.map (Value.int .i64)) * (blk X1 #[(Value.int .i64) lev, Value.bool false, Value.bool lf, (Value.int .i64) rg, Value.bool us, Value.bool di, (Value.int .i64) fr, .slice A tabs.length c, .slice B tabs.length d] 122 * (blk Xb #[.pointer (some ⟨f, 0, none⟩), .slice G m gc] 133 * (irow (.slice B tabs.length d) (placesOf x.page tabs.length) * (framesAt f (takeN s m) * (blk X0 #[(Value.int .i64) x.page, (Value.int .i64) x.size, (Value.int .i64) x.frame, (Value.int .i64) x.rights] 31 * R)))))))) ∧ Ext w wx)
  case first =>
    refine wp_region_held_drew (S := fun w' => w'.cell? ⟨X1, 7, none⟩ = some (.slice A tabs.length c) ∧ w'.cell? ⟨Xb, 1, none⟩ = some (.slice G m gc)) (by kernel_rfl) (HS.out _ _ _ h9) (fun hHeld => ?_)
    refine wpAnyH_take (i := 0) (v := ?_) rfl (by kernel_rfl) (by kernel_rfl) (by kernel_rfl) (fun _ _ _ h => h) (Or.inl ⟨by kernel_rfl, ?_⟩) hHeld ?_
    rotate_left
    focus (intro wS hSw; (try dsimp only at hSw); go_simp; first | done | with_reducible rfl)
    try go_simp
    refine wpAnyH_take (i := 1) (v := ?_) rfl (by kernel_rfl) (by kernel_rfl) (by kernel_rfl) (fun _ _ _ h => h) (Or.inl ⟨by kernel_rfl, ?_⟩) hHeld ?_
    rotate_left
    focus (intro wS hSw; (try dsimp only at hSw); go_simp; first | done | with_reducible rfl)
    try go_simp
    refine wpAnyH_take (i := 3) (v := ?_) rfl (by kernel_rfl) (by kernel_rfl) (by kernel_rfl) (fun _ _ _ h => h) (Or.inl ⟨by kernel_rfl, ?_⟩) hHeld ?_
    rotate_left
    focus (intro wS hSw; (try dsimp only at hSw); go_simp; first | done | with_reducible rfl)
    try go_simp
    refine wpAnyH_take (i := 4) (v := ?_) rfl (by kernel_rfl) (by kernel_rfl) (by kernel_rfl) (fun _ _ _ h => h) (Or.inl ⟨by kernel_rfl, ?_⟩) hHeld ?_
    rotate_left
    focus (intro wS hSw; (try dsimp only at hSw); go_simp; first | done | with_reducible rfl)
    try go_simp
    refine wpAnyH_take (i := 5) (v := ?_) rfl (by kernel_rfl) (by kernel_rfl) (by kernel_rfl) (fun _ _ _ h => h) (Or.inl ⟨by kernel_rfl, ?_⟩) hHeld ?_
    rotate_left
    focus (intro wS hSw; (try dsimp only at hSw); go_simp; first | done | with_reducible rfl)
    try go_simp
    refine wpAnyH_take (i := 6) (v := ?_) rfl (by kernel_rfl) (by kernel_rfl) (by kernel_rfl) (fun _ _ _ h => h) (Or.inl ⟨by kernel_rfl, ?_⟩) hHeld ?_
    rotate_left
    focus (intro wS hSw; (try dsimp only at hSw); go_simp; first | done | with_reducible rfl)
    try go_simp
    refine wpAnyH_ready (rs := [2]) (by kernel_rfl) (by simp) (AllReadyH.cons rfl (fun K hK => ?_) AllReadyH.nil)
    go_simp
    go_wp2_with ((go_at_call 61; refine (clone_int tabs A _ c _ _ hnt4 h9.drew).mono ?_; rintro e w10 ⟨C, cn, cc, rfl, h10, x10⟩; have h11 := h9.drew.onto' h10; obtain rfl := irow_len h11))
    refine hK.out _ _ (HS.out _ _ _ h11.right) (fun hHeld => ?_)
    clear hK K
    have h12 : Has w10 (row 3 1 (.slice C tabs.length cc) tabs.length (tabs.map (Value.int .i64)) * (row 3 1 (.slice G m gc) m (tp.map (Value.int .i64)) * (irow (.slice A tabs.length c) tabs * (blk X1 #[(Value.int .i64) lev, Value.bool false, Value.bool lf, (Value.int .i64) rg, Value.bool us, Value.bool di, (Value.int .i64) fr, .slice A tabs.length c, .slice B tabs.length d] 122 * (blk Xb #[.pointer (some ⟨f, 0, none⟩), .slice G m gc] 133 * (irow (.slice B tabs.length d) (placesOf x.page tabs.length) * (framesAt f (takeN s m) * (blk X0 #[(Value.int .i64) x.page, (Value.int .i64) x.size, (Value.int .i64) x.frame, (Value.int .i64) x.rights] 31 * R)))))))) := h11.eq (by unfold irow; ac_rfl)
    refine wpAnyH_ready (rs := [7]) (by kernel_rfl) (by simp) (AllReadyH.cons rfl (fun K hK => ?_) AllReadyH.nil)
    refine step_append_row rfl (.tmp 61) (.tmp 65) 47 rfl Try.underlying47 elemI (.slice C tabs.length cc) tabs.length (tabs.map (Value.int .i64)) (by simp [Act.eval]) (.slice G m gc) m (tp.map (Value.int .i64)) (by simp [Act.eval]) h12 (many_int _) (by unfold maxLen; omega) (by omega) ?_
    intro D dc w13 h13 x13
    have h14 : Has w13 (row 3 1 (.slice D (tabs.length + m) dc) (tabs.length + m) (tabs.map (Value.int .i64) ++ tp.map (Value.int .i64)) * (irow (.slice A tabs.length c) tabs * (row 3 1 (.slice G m gc) m (tp.map (Value.int .i64)) * (blk X1 #[(Value.int .i64) lev, Value.bool false, Value.bool lf, (Value.int .i64) rg, Value.bool us, Value.bool di, (Value.int .i64) fr, .slice A tabs.length c, .slice B tabs.length d] 122 * (blk Xb #[.pointer (some ⟨f, 0, none⟩), .slice G m gc] 133 * (irow (.slice B tabs.length d) (placesOf x.page tabs.length) * (framesAt f (takeN s m) * (blk X0 #[(Value.int .i64) x.page, (Value.int .i64) x.size, (Value.int .i64) x.frame, (Value.int .i64) x.rights] 31 * R)))))))) := h13.eq (by ac_rfl)
    try go_simp
    refine hK.out _ _ (HS.out _ _ _ h14.right) (fun hHeld => ?_)
    clear hK K
    refine wpAnyH_take (i := 8) (v := ?_) rfl (by kernel_rfl) (by kernel_rfl) (by kernel_rfl) (fun _ _ _ h => h) (Or.inl ⟨by kernel_rfl, ?_⟩) hHeld ?_
    rotate_left
    focus (intro wS hSw; (try dsimp only at hSw); go_simp; first | done | with_reducible rfl)
    try go_simp
    refine wpAnyH_done (by kernel_rfl) ?_ _
    go_wp2_with fail
    go_meet
    case rel => exact ⟨D, dc, rfl, h14, (x9.drew.trans x10).trans x13⟩
  case rest =>
  clear h9 x9 k7 kl hbl HS
  obtain ⟨D, dc, rfl, h10, x10⟩ := hcut
  rw [← List.map_append, ← HAL.out] at h10
  have HPL := Lib.hid (placesOf_len x.page tabs.length)
  have h11 : Has wc (irow (.slice B tabs.length d) (placesOf x.page tabs.length) * (blk X1 #[(Value.int .i64) lev, Value.bool false, Value.bool lf, (Value.int .i64) rg, Value.bool us, Value.bool di, (Value.int .i64) fr, .slice A tabs.length c, .slice B tabs.length d] 122 * (row 3 1 (.slice D (tabs.length + m) dc) (tabs.length + m) (al.map (Value.int .i64)) * (framesAt f (takeN s m) * (blk Xb #[.pointer (some ⟨f, 0, none⟩), .slice G m gc] 133 * (blk X0 #[(Value.int .i64) x.page, (Value.int .i64) x.size, (Value.int .i64) x.frame, (Value.int .i64) x.rights] 31 * (irow (.slice A tabs.length c) tabs * (row 3 1 (.slice G m gc) m (tp.map (Value.int .i64)) * R)))))))) := h10.eq (by ac_rfl)
  have k8 := h11.right.cell 8
  have kl := h11.right.lt
  go_wp2_with fail
  refine (clone_int (placesOf x.page tabs.length) B _ d _ _ (by rw [HPL.out]; exact hnt4) h11).mono ?_; rintro e w12 ⟨P0, pn, pc, rfl, h12, x12⟩
  have h13 := h11.onto' h12
  have hpn := (irow_len h13).trans HPL.out
  obtain rfl := hpn
  have x13 := x10.trans x12
  obtain ⟨QQ, hQQ⟩ : ∃ Q : HProp, Q = (irow (.slice A tabs.length c) tabs * (row 3 1 (.slice G m gc) m (tp.map (Value.int .i64)) * (irow (.slice B tabs.length d) (placesOf x.page tabs.length) * blk X1 #[(Value.int .i64) lev, Value.bool false, Value.bool lf, (Value.int .i64) rg, Value.bool us, Value.bool di, (Value.int .i64) fr, .slice A tabs.length c, .slice B tabs.length d] 122))) := ⟨_, rfl⟩
  obtain ⟨N1, hN1⟩ : ∃ N1, N1 = tabs.length + m := ⟨_, rfl⟩
  have h14 : Has w12 (row 3 1 (.slice P0 tabs.length pc) tabs.length ((placesOf x.page tabs.length).map (Value.int .i64)) * (row 3 1 (.slice D N1 dc) N1 (al.map (Value.int .i64)) * (framesAt f (takeN s m) * (blk Xb #[.pointer (some ⟨f, 0, none⟩), .slice G m gc] 133 * (blk X0 #[(Value.int .i64) x.page, (Value.int .i64) x.size, (Value.int .i64) x.frame, (Value.int .i64) x.rights] 31 * (QQ * R)))))) := by
    rw [hQQ, hN1]
    have := h13
    unfold irow at this ⊢
    rw [HPL.out] at this ⊢
    exact this.eq (by ac_rfl)
  have k0 : w12.cell? ⟨X1, 0, none⟩ = some ((Value.int .i64) lev) := h13.right.right.cell 0
  have kl2 := h13.right.right.lt
  have HN1 := Lib.hid (show N1 = n + 1 + m by have := HN.out; omega)
  have HQQ := Lib.hid hQQ
  have hw15 : IntKind.i64.wrap (lev - 1) = 3 - ((n + 1 : Nat) : Int) := by rw [IntKind.wrap_i64, HLV.out]; omega
  have hN1c : Value.slice D (tabs.length + m) dc = Value.slice D N1 dc := by rw [hN1]
  rw [hN1c]
  have HNT := Lib.hid HN.out
  clear h10 x10 h11 x12 h12 h13 hQQ hN1 hN1c kl k8
  go_upto_region 15 with fail
  go_cut [14] from 70 to 73 (fun s14 wx => s14 = (Value.int .i64) (3 - ((n + 1 : Nat) : Int)) ∧ wx = w12)
  case first =>
    go_wp2_with fail
    go_meet
    case rel => exact ⟨by first | rfl | (rw [← hw15]; done) | (rw [← hw15]; go_num), rfl⟩
  case rest =>
  obtain ⟨rfl, hwr⟩ := hcut
  replace hwr := hwr.symm
  subst hwr
  clear k0 kl2 hw15 hnt4 hntm
  generalize hT : tabs.length = T at *
  have HTT := Lib.hid (show T = n + 1 from HNT.out)
  have h15 : Has w12 (row 3 1 (.slice P0 T pc) T ((placesOf x.page T).map (Value.int .i64)) * (row 3 1 (.slice D N1 dc) N1 (al.map (Value.int .i64)) * (framesAt f (takeN s m) * (blk Xb #[.pointer (some ⟨f, 0, none⟩), .slice G m gc] 133 * (blk X0 #[(Value.int .i64) x.page, (Value.int .i64) x.size, (Value.int .i64) x.frame, (Value.int .i64) x.rights] 31 * (QQ * R)))))) := h14
  clear h14
  have hnT : n + 1 = T := HTT.out.symm
  have HnT := Lib.hid hnT
  clear hnT hT
  go_upto_region 16 with fail
  go_loopw [13, 14] (fun t13 t14 wr => ∃ (q : Nat) (P : Option Addr) (pc : Nat), n + 1 ≤ q ∧ q ≤ N1 ∧ t14 = (Value.int .i64) (3 - (q : Int)) ∧ t13 = .slice P q pc ∧ Has wr (row 3 1 (.slice P q pc) q ((placesOf x.page q).map (Value.int .i64)) * (row 3 1 (.slice D N1 dc) N1 (al.map (Value.int .i64)) * (framesAt f (takeN s m) * (blk Xb #[.pointer (some ⟨f, 0, none⟩), .slice G m gc] 133 * (blk X0 #[(Value.int .i64) x.page, (Value.int .i64) x.size, (Value.int .i64) x.frame, (Value.int .i64) x.rights] 31 * (QQ * R)))))) ∧ Ext w wr) (fun _ t14 _ => (intOf t14 + 5).toNat)
  case atStart => exact ⟨T, P0, pc, by have := HTT.out; omega, by have := HTT.out; have := HN1.out; omega, by rw [HTT.out], rfl, h15, x13⟩
  case round =>
    clear h15 x13
    obtain ⟨q, P, pc', hq1, hq2, rfl, rfl, hr, hx⟩ := hrel
    have hN1o := HN1.out
    have hZo := HZ.out
    obtain ⟨c0, c1, c2, c3⟩ := hr.right.right.right.right.cells4
    have cl := hr.right.right.right.right.lt
    by_cases hlt : q < N1
    · have hge : x.size ≤ 3 - (q : Int) := by omega
      have hw14 : IntKind.i64.wrap (3 - (q : Int) - 1) = 3 - ((q + 1 : Nat) : Int) := by rw [IntKind.wrap_i64]; omega
      have hq4 : q ≤ 4 := by omega
      have HIX := Lib.hid (fun W => index_any x.page (3 - (q : Int)) W)
      have HPS := Lib.hid (placesOf_succ x.page q)
      have HQ1 := Lib.hid (And.intro hq1 hq2)
      have HLT := Lib.hid hlt
      clear hN1o hZo hq1 hq2 hlt
      generalize index x.page (3 - (q : Int)) = ix at *
      have hrow := hr.alloc (.cells #[(Value.int .i64) ix] 3)
      go_wp2_with (first | (go_at_call 62; refine (HIX.out _).mono ?_; rintro e w15 ⟨rfl, rfl⟩) | (at_builtin; refine wpList_append_has rfl _ _ 47 rfl Try.underlying47 elemI _ _ _ rfl hrow ⟨_, 0, none⟩ 1 1 [(Value.int .i64) ix] rfl rfl (news_one _ ((Value.int .i64) ix) 3) ?c1 ?c2 ?c3 ?_))
      case c1 => intro u hu; simp at hu; subst hu; rfl
      case c2 => unfold maxLen; omega
      case c3 => omega
      intro v' w16 h16 x16
      obtain ⟨P', pc2, rfl⟩ := h16.rowForm
      go_wp2_with fail
      go_roundw
      case rel => exact ⟨q + 1, P', pc2, by have := HQ1.out; omega, by have := HLT.out; omega, by first | rfl | exact congrArg (Value.int .i64) hw14 | (rw [hw14]), rfl, by rw [HPS.out, List.map_append]; exact h16, (hx.alloc _).trans x16⟩
      case measure => simp [intOf]; omega
    · obtain rfl : q = N1 := by omega
      have hge : ¬ (x.size ≤ 3 - (q : Int)) := by omega
      obtain ⟨e, he⟩ : ∃ e, e = n + m := ⟨_, rfl⟩
      have haln : al.length = q := by have := HALN.out; omega
      have hpln : (placesOf x.page q).length = q := placesOf_len x.page q
      have hqe : q = e + 1 := by omega
      -- where they stand
      obtain ⟨bP, hP1, -, -, -⟩ := Has.rowGet (e := 3) (size := 1) hr (i := e) (u := (Value.int .i64) ((placesOf x.page q)[e]'(by omega))) (by simp)
      obtain ⟨bD, hD1, -, -, -⟩ := Has.rowGet (e := 3) (size := 1) hr.right (i := e) (u := (Value.int .i64) (al[e]'(by omega))) (by simp)
      subst hP1; subst hD1
      have HRW := Lib.hid (fun (j : Nat) (t : Int) (hj : al[j]? = some t) (w' : World) (Z : HProp) (h : Has w' (row 3 1 (.slice (some ⟨bP, 0, none⟩) q pc') q ((placesOf x.page q).map (Value.int .i64)) * (row 3 1 (.slice (some ⟨bD, 0, none⟩) q dc) q (al.map (Value.int .i64)) * Z))) => (by
        obtain ⟨hjl, hje⟩ := List.getElem?_eq_some_iff.1 hj
        obtain ⟨b1, e1, l1, q1, _⟩ := Has.rowGet (e := 3) (size := 1) h (i := j) (u := (Value.int .i64) (index x.page (3 - (j : Int)))) (by rw [List.getElem?_map, placesOf_get x.page (by omega)]; rfl)
        obtain ⟨b2, e2, l2, q2, _⟩ := Has.rowGet (e := 3) (size := 1) h.right (i := j) (u := (Value.int .i64) t) (by rw [List.getElem?_map, hj]; rfl)
        injection e1 with e1; injection e1 with e1
        injection e2 with e2; injection e2 with e2
        subst e1; subst e2
        exact ⟨q2, q1, l2, l1⟩ : w'.cell? ⟨bD, j, none⟩ = some ((Value.int .i64) t) ∧ w'.cell? ⟨bP, j, none⟩ = some ((Value.int .i64) (index x.page (3 - (j : Int)))) ∧ bD < w'.heap.size ∧ bP < w'.heap.size))
      have hAlj := Lib.hid (fun (j : Nat) (hj : j < q) => (⟨_, List.getElem?_eq_getElem (by omega)⟩ : ∃ t, al[j]? = some t))
      obtain ⟨te, hte⟩ := hAlj.out e (by omega)
      have hHp : ∀ u, (takeN s m).has u = (takeN s m).has u := fun _ => rfl
      have hst1 := HSTO.out (takeN s m) hHp e te hte (encW (leafE x) x.size)
      have hla1 := HLAST.out te (by rw [← he]; exact hte) (takeN s m) (encW (leafE x) x.size)
      rw [← he] at hla1
      rw [← hla1] at hst1
      have HP1 := Lib.hid (fun R w h => putB Xb f te (index x.page (3 - (e : Int))) x.size (.slice G m gc) (leafE x) (takeN s m) R w h)
      rw [hst1] at HP1
      generalize hU : upL (takeN s m) x.page (encW (leafE x) x.size) z (al.drop e) = σ1 at HP1
      have HU := Lib.hid hU
      clear hU
      unfold leafE at HP1
      dsimp only at HP1
      have HTE := Lib.hid (HRW.out e te hte)
      have hq1' : (q : Int) - 1 = (e : Int) := by omega
      have hq2' : (q : Int) - 2 = (e : Int) - 1 := by omega
      have hwe : IntKind.i64.wrap (e : Int) = (e : Int) := by rw [IntKind.wrap_i64]; omega
      have hwe1 : IntKind.i64.wrap ((e : Int) - 1) = (e : Int) - 1 := by rw [IntKind.wrap_i64]; omega
      have hwq : IntKind.i64.wrap ((q : Int) - 1) = (e : Int) := by rw [hq1']; exact hwe
      have hwq2 : IntKind.i64.wrap ((q : Int) - 2) = (e : Int) - 1 := by rw [hq2']; exact hwe1
      have heq : (e : Int) < (q : Int) := by omega
      have he0 : ¬ ((e : Int) < 0) := by omega
      have he00 : (0 : Int) ≤ (e : Int) := by omega
      have HEE := Lib.hid (And.intro he hqe)
      have HNN := Lib.hid (show n ≤ e by omega)
      have HN3 := Lib.hid (show e ≤ 3 by omega)
      clear hst1 hla1 hHp haln hpln hqe he hN1o hZo hq1 hq2 hlt
      have HIXE := Lib.hid (show index x.page (3 - (e : Int)) = index x.page (3 - (e : Int)) from rfl)
      generalize hie : index x.page (3 - (e : Int)) = ie at HP1 HTE
      clear HIXE hie
      have h17 : Has _ (blk Xb #[.pointer (some ⟨f, 0, none⟩), .slice G m gc] 133 * (framesAt f (takeN s m) * (row 3 1 (.slice (some ⟨bP, 0, none⟩) q pc') q ((placesOf x.page q).map (Value.int .i64)) * (row 3 1 (.slice (some ⟨bD, 0, none⟩) q dc) q (al.map (Value.int .i64)) * (blk X0 #[(Value.int .i64) x.page, (Value.int .i64) x.size, (Value.int .i64) x.frame, (Value.int .i64) x.rights] 31 * (QQ * R)))))) := (hr.eq (by ac_rfl)).drew
      have x17 := hx.drew
      obtain ⟨tA, tB, _, _⟩ := HTE.out _ _ hr
      have HKK := Lib.hid (fun (w' : World) (P' Q' : HProp) (h : Has w' (P' * (Q' * (row 3 1 (.slice (some ⟨bP, 0, none⟩) q pc') q ((placesOf x.page q).map (Value.int .i64)) * (row 3 1 (.slice (some ⟨bD, 0, none⟩) q dc) q (al.map (Value.int .i64)) * (blk X0 #[(Value.int .i64) x.page, (Value.int .i64) x.size, (Value.int .i64) x.frame, (Value.int .i64) x.rights] 31 * (QQ * R))))))) => (by
        obtain ⟨a1, a2, _, _⟩ := HTE.out _ _ h.right.right
        obtain ⟨m0, m1, m2, m3⟩ := h.right.right.right.right.cells4
        exact ⟨a1, a2, m1, m2, m3⟩ : w'.cell? ⟨bD, e, none⟩ = some ((Value.int .i64) te) ∧ w'.cell? ⟨bP, e, none⟩ = some ((Value.int .i64) ie) ∧ w'.cell? ⟨X0, 1, none⟩ = some ((Value.int .i64) x.size) ∧ w'.cell? ⟨X0, 2, none⟩ = some ((Value.int .i64) x.frame) ∧ w'.cell? ⟨X0, 3, none⟩ = some ((Value.int .i64) x.rights)))
      go_upto_region 19 with fail
      go_region_held3 (fun w' => w'.cell? ⟨bD, e, none⟩ = some ((Value.int .i64) te) ∧ w'.cell? ⟨bP, e, none⟩ = some ((Value.int .i64) ie) ∧ w'.cell? ⟨X0, 1, none⟩ = some ((Value.int .i64) x.size) ∧ w'.cell? ⟨X0, 2, none⟩ = some ((Value.int .i64) x.frame) ∧ w'.cell? ⟨X0, 3, none⟩ = some ((Value.int .i64) x.rights)) (first | (with_reducible exact HKK.out _ _ _ h17) | (with_reducible exact HKK.out _ _ _ h18) | go_keep) (first | (go_at_call 63; (with_reducible refine (HP1.out _ _ h17).mono ?_); rintro e9 w18 ⟨rfl, h18, x18⟩))
      have x19 := x17.trans x18
      rw [← HU.out] at h18
      clear h17 x17 x18 HP1 HTE HKK tA tB hr hx c0 c1 c2 c3 cl
      clear HU
      go_upto_region 20 with fail
      go_cut [15] from 107 to 110 (fun s15 wx => s15 = (Value.int .i64) ((e : Int) - 1) ∧ wx = w18)
      case first =>
        go_wp2_with fail
        go_meet
        case rel => exact ⟨by first | rfl | (rw [← hwq2]; done) | (rw [← hwq2]; go_num), rfl⟩
      case rest =>
      obtain ⟨rfl, hwr⟩ := hcut
      replace hwr := hwr.symm
      subst hwr
      clear hq1' hq2' hwe hwe1 hwq hwq2 heq he0 he00 hge
      go_upto_region 21 with fail
      go_loopw [15] (fun t15 wr => ∃ g : Nat, n ≤ g ∧ g ≤ e ∧ t15 = (Value.int .i64) ((g : Int) - 1) ∧ Has wr (blk Xb #[.pointer (some ⟨f, 0, none⟩), .slice G m gc] 133 * (framesAt f (upL (takeN s m) x.page (encW (leafE x) x.size) z (al.drop g)) * (row 3 1 (.slice (some ⟨bP, 0, none⟩) q pc') q ((placesOf x.page q).map (Value.int .i64)) * (row 3 1 (.slice (some ⟨bD, 0, none⟩) q dc) q (al.map (Value.int .i64)) * (blk X0 #[(Value.int .i64) x.page, (Value.int .i64) x.size, (Value.int .i64) x.frame, (Value.int .i64) x.rights] 31 * (QQ * R)))))) ∧ Ext w wr) (fun t15 _ => (intOf t15 + 1).toNat)
      case atStart => exact ⟨e, HNN.out, Nat.le_refl _, rfl, h18, x19⟩
      case round =>
        clear h18 x19
        obtain ⟨g, hg1, hg2, rfl, hr, hx⟩ := hrel
        by_cases hgn : g = n
        · have hnge : ¬ ((n : Int) ≤ (g : Int) - 1) := by omega
          have hfin : upL (takeN s m) x.page (encW (leafE x) x.size) z (al.drop g) = sF := by rw [hgn]; exact HFIN.out
          have hok2 := HOKF.out (al.drop g)
          rw [hfin] at hr hok2
          have HGN := Lib.hid hgn
          have hend : Has _ (framesAt f sF * (QQ * R)) := (hr.eq (show _ = blk Xb #[.pointer (some ⟨f, 0, none⟩), .slice G m gc] 133 * (row 3 1 (.slice (some ⟨bP, 0, none⟩) q pc') q ((placesOf x.page q).map (Value.int .i64)) * (row 3 1 (.slice (some ⟨bD, 0, none⟩) q dc) q (al.map (Value.int .i64)) * (blk X0 #[(Value.int .i64) x.page, (Value.int .i64) x.size, (Value.int .i64) x.frame, (Value.int .i64) x.rights] 31 * (framesAt f sF * (QQ * R))))) by ac_rfl)).right.right.right.right
          clear hgn hfin
          go_wp2_with fail
          go_ret
          exact ⟨sF, hok2, Agree.refl sF, rfl, hend.p2.right, hx⟩
        · obtain ⟨j, hj⟩ : ∃ j, g = j + 1 := ⟨g - 1, by omega⟩
          have hge : (n : Int) ≤ (g : Int) - 1 := by omega
          have hgj : (g : Int) - 1 = (j : Int) := by omega
          have hjg : (j : Int) + 1 = (g : Int) := by omega
          have hqe := HEE.out.2
          have hn3e := HN3.out
          have hjq : (j : Int) < (q : Int) := by omega
          have hgq : (g : Int) < (q : Int) := by omega
          have hj0 : ¬ ((j : Int) < 0) := by omega
          have hj00 : (0 : Int) ≤ (j : Int) := by omega
          have hg0 : ¬ ((g : Int) < 0) := by omega
          have hg00 : (0 : Int) ≤ (g : Int) := by omega
          have hw1 : IntKind.i64.wrap (j : Int) = (j : Int) := by rw [IntKind.wrap_i64]; omega
          have hw2 : IntKind.i64.wrap (g : Int) = (g : Int) := by rw [IntKind.wrap_i64]; omega
          have hw3 : IntKind.i64.wrap (3 - (j : Int)) = 3 - (j : Int) := by rw [IntKind.wrap_i64]; omega
          have hw4 : IntKind.i64.wrap ((j : Int) - 1) = (j : Int) - 1 := by rw [IntKind.wrap_i64]; omega
          obtain ⟨t, ht⟩ := hAlj.out j (by omega)
          obtain ⟨k, hk⟩ := hAlj.out (j + 1) (by omega)
          have hstep := HSTEP.out j t k ht hk (takeN s m) (encW (leafE x) x.size)
          have hsto := HSTO.out (upL (takeN s m) x.page (encW (leafE x) x.size) z (al.drop (j + 1))) (HHAS.out _) j t ht (encW ⟨true, false, 7, false, false, k⟩ (3 - (j : Int)))
          rw [← hstep] at hsto
          have HPU := Lib.hid (fun R w h => putB Xb f t (index x.page (3 - (j : Int))) (3 - (j : Int)) (.slice G m gc) ⟨true, false, 7, false, false, k⟩ (upL (takeN s m) x.page (encW (leafE x) x.size) z (al.drop (j + 1))) R w h)
          rw [hsto] at HPU
          dsimp only at HPU
          rw [← hj] at HPU hk
          have HTJ := Lib.hid (HRW.out j t ht)
          have HTG := Lib.hid (HRW.out g k hk)
          have HGG := Lib.hid (And.intro hg1 (And.intro hg2 hj))
          clear hstep hsto hj ht hk hqe hn3e hg1 hg2 hgn
          generalize index x.page (3 - (j : Int)) = ij at HPU HTJ
          generalize index x.page (3 - (g : Int)) = ig at HTG
          have h17 : Has _ (blk Xb #[.pointer (some ⟨f, 0, none⟩), .slice G m gc] 133 * (framesAt f (upL (takeN s m) x.page (encW (leafE x) x.size) z (al.drop g)) * (row 3 1 (.slice (some ⟨bP, 0, none⟩) q pc') q ((placesOf x.page q).map (Value.int .i64)) * (row 3 1 (.slice (some ⟨bD, 0, none⟩) q dc) q (al.map (Value.int .i64)) * (blk X0 #[(Value.int .i64) x.page, (Value.int .i64) x.size, (Value.int .i64) x.frame, (Value.int .i64) x.rights] 31 * (QQ * R)))))) := hr.drew
          have x17 := hx.drew
          obtain ⟨tA, tB, lD, lP⟩ := HTJ.out _ _ hr.right.right
          obtain ⟨gA, gB, _, _⟩ := HTG.out _ _ hr.right.right
          have HKK := Lib.hid (fun (w' : World) (P' Q' : HProp) (h : Has w' (P' * (Q' * (row 3 1 (.slice (some ⟨bP, 0, none⟩) q pc') q ((placesOf x.page q).map (Value.int .i64)) * (row 3 1 (.slice (some ⟨bD, 0, none⟩) q dc) q (al.map (Value.int .i64)) * (blk X0 #[(Value.int .i64) x.page, (Value.int .i64) x.size, (Value.int .i64) x.frame, (Value.int .i64) x.rights] 31 * (QQ * R))))))) => (by
            obtain ⟨a1, a2, _, _⟩ := HTJ.out _ _ h.right.right
            obtain ⟨a3, _, _, _⟩ := HTG.out _ _ h.right.right
            exact ⟨a1, a2, a3⟩ : w'.cell? ⟨bD, j, none⟩ = some ((Value.int .i64) t) ∧ w'.cell? ⟨bP, j, none⟩ = some ((Value.int .i64) ij) ∧ w'.cell? ⟨bD, g, none⟩ = some ((Value.int .i64) k)))
          generalize upL (takeN s m) x.page (encW (leafE x) x.size) z (al.drop g) = σg at *
          go_upto_region 23 with fail
          go_region_held3 (fun w' => w'.cell? ⟨bD, j, none⟩ = some ((Value.int .i64) t) ∧ w'.cell? ⟨bP, j, none⟩ = some ((Value.int .i64) ij) ∧ w'.cell? ⟨bD, g, none⟩ = some ((Value.int .i64) k)) (first | (with_reducible exact HKK.out _ _ _ h17) | (with_reducible exact HKK.out _ _ _ h18) | go_keep) (first | (go_at_call 63; (with_reducible refine (HPU.out _ _ h17).mono ?_); rintro e9 w18 ⟨rfl, h18, x18⟩))
          have x19 := x17.trans x18
          go_wp2_with fail
          go_roundw
          case rel => exact ⟨j, by have := HGG.out.2.2; omega, by have := HGG.out.2.2; have := HGG.out.2.1; omega, rfl, h18, x19⟩
          case measure => simp [intOf]; omega
end Go.Proofs.Ytmfheghbgihdmaa
namespace Go.Proofs.Ytmfheghbgihdmaa
open Go.RowKit
set_option maxRecDepth 100000
def zspot : Value := .agg #[(Value.int .i64) 0, Value.bool false, Value.bool false, (Value.int .i64) 0, Value.bool false, Value.bool false, (Value.int .i64) 0, .slice none 0 0, .slice none 0 0]
def spotA (y : Wy) (A B : Option Addr) (c d : Nat) : Value := .agg #[(Value.int .i64) y.lev, Value.bool y.e.there, Value.bool y.e.leaf, (Value.int .i64) y.e.rights, Value.bool y.e.used, Value.bool y.e.dirty, (Value.int .i64) y.e.frame, .slice A y.tabs.length c, .slice B y.tabs.length d]
/-- What leaf hands back. -/
def Leafed (s : Ms) (r p : Int) (w : World) (e : Ending) (w' : World) : Prop :=
  (findC s r p = 0 ∧ ∃ A B c d, e = .returned (.tuple #[spotA (way s r p) A B c d, (findM s r p).val, (Value.int .i64) 0]) ∧ Has w' (irow (.slice A (way s r p).tabs.length c) (way s r p).tabs * (irow (.slice B (way s r p).tabs.length d) (placesOf p (way s r p).tabs.length) * old w w.heap.size)) ∧ Ext w w') ∨
  (findC s r p ≠ 0 ∧ e = .returned (.tuple #[zspot, .agg #[(Value.int .i64) 0, (Value.int .i64) 0, (Value.int .i64) 0, (Value.int .i64) 0], (Value.int .i64) (findC s r p)]) ∧ Below w.heap.size w w')
theorem Has.drop3' {w : World} {A B C D : HProp} (h : Has w (A * (B * (C * D)))) : Has w (A * (B * D)) := h.drop3
set_option maxHeartbeats 4000000 in
theorem leafT (f : Nat) (s : Ms) (root p : Int) (R : HProp) (w : World) (hs : s.Ok) (h : Has w (framesAt f s * R)) :
    Calls Try.prog 57 #[.pointer (some ⟨f, 0, none⟩), (Value.int .i64) root, (Value.int .i64) p] w (Leafed s root p w) := by
  have h0 := ((has_old w).new #[(Value.int .i64) 0, Value.bool false, Value.bool false, (Value.int .i64) 0, Value.bool false, Value.bool false, (Value.int .i64) 0, .slice none 0 0, .slice none 0 0] 122).new #[(Value.int .i64) 0, (Value.int .i64) 0, (Value.int .i64) 0, (Value.int .i64) 0] 31
  have x0 := ((Ext.refl w).alloc (.cells #[(Value.int .i64) 0, Value.bool false, Value.bool false, (Value.int .i64) 0, Value.bool false, Value.bool false, (Value.int .i64) 0, .slice none 0 0, .slice none 0 0] 122)).alloc (.cells #[(Value.int .i64) 0, (Value.int .i64) 0, (Value.int .i64) 0, (Value.int .i64) 0] 31)
  simp only [World.size_alloc] at h0
  have hq := (h.alloc (.cells #[(Value.int .i64) 0, Value.bool false, Value.bool false, (Value.int .i64) 0, Value.bool false, Value.bool false, (Value.int .i64) 0, .slice none 0 0, .slice none 0 0] 122)).alloc (.cells #[(Value.int .i64) 0, (Value.int .i64) 0, (Value.int .i64) 0, (Value.int .i64) 0] 31)
  have W1 := Lib.hid (find_way f s root p R _ hs hq)
  have hfc : findC s root p = if (way s root p).code ≠ 0 then (way s root p).code else if (way s root p).e.there = false then 5 else 0 := rfl
  have hfm : findM s root p = if findC s root p = 0 then leafMap (way s root p).e (way s root p).lev p else Mp.zero := rfl
  unfold Leafed
  generalize findC s root p = fc at *
  generalize findM s root p = fm at *
  generalize way s root p = y at *
  have HFC := Lib.hid (And.intro hfc hfm)
  clear h hq hfc hfm
  go_enter Try.func57, Try.ntmps57
  go_wp2_with fail
  refine W1.out.mono ?_; rintro e w1 hF
  generalize (w.alloc (.cells #[(Value.int .i64) 0, Value.bool false, Value.bool false, (Value.int .i64) 0, Value.bool false, Value.bool false, (Value.int .i64) 0, .slice none 0 0, .slice none 0 0] 122)).alloc (.cells #[(Value.int .i64) 0, (Value.int .i64) 0, (Value.int .i64) 0, (Value.int .i64) 0] 31) = w0 at *
  obtain ⟨A, B, c, d, rfl, h1, x1⟩ : ∃ (A B : Option Addr) (c d : Nat), e = .returned (.tuple #[.agg #[(Value.int .i64) y.lev, Value.bool y.e.there, Value.bool y.e.leaf, (Value.int .i64) y.e.rights, Value.bool y.e.used, Value.bool y.e.dirty, (Value.int .i64) y.e.frame, .slice A y.tabs.length c, .slice B y.tabs.length d], (Value.int .i64) y.code]) ∧ Has w1 (irow (.slice A y.tabs.length c) y.tabs * (irow (.slice B y.tabs.length d) (placesOf p y.tabs.length) * old w0 w0.heap.size)) ∧ Ext w0 w1 := hF
  have h2 := (h0.onto' (h1.a2)).a1
  have x2 := x0.trans x1
  clear h0 x0 h1 x1 W1
  obtain ⟨hfc, hfm⟩ := HFC.out
  clear HFC
  have h3 : Has _ (blk w1.heap.size #[(Value.int .i64) y.lev, Value.bool y.e.there, Value.bool y.e.leaf, (Value.int .i64) y.e.rights, Value.bool y.e.used, Value.bool y.e.dirty, (Value.int .i64) y.e.frame, .slice A y.tabs.length c, .slice B y.tabs.length d] 122 * (irow (.slice A y.tabs.length c) y.tabs * (irow (.slice B y.tabs.length d) (placesOf p y.tabs.length) * (blk (w.heap.size + 1) #[(Value.int .i64) 0, (Value.int .i64) 0, (Value.int .i64) 0, (Value.int .i64) 0] 31 * (blk w.heap.size #[(Value.int .i64) 0, Value.bool false, Value.bool false, (Value.int .i64) 0, Value.bool false, Value.bool false, (Value.int .i64) 0, .slice none 0 0, .slice none 0 0] 122 * old w w.heap.size))))) := h2.new #[(Value.int .i64) y.lev, Value.bool y.e.there, Value.bool y.e.leaf, (Value.int .i64) y.e.rights, Value.bool y.e.used, Value.bool y.e.dirty, (Value.int .i64) y.e.frame, .slice A y.tabs.length c, .slice B y.tabs.length d] 122
  have x3 := x2.alloc (.cells #[(Value.int .i64) y.lev, Value.bool y.e.there, Value.bool y.e.leaf, (Value.int .i64) y.e.rights, Value.bool y.e.used, Value.bool y.e.dirty, (Value.int .i64) y.e.frame, .slice A y.tabs.length c, .slice B y.tabs.length d] 122)
  clear h2 x2
  by_cases hc : y.code = 0
  case neg =>
    rw [if_pos hc] at hfc
    have HF := Lib.hid (show fc = y.code ∧ fc ≠ 0 from ⟨hfc, by rw [hfc]; exact hc⟩)
    have hn' : (y.code != 0) = true := by simpa using hc
    clear hc hfc hfm
    go_upto_region 2 with fail
    generalize w1.alloc (.cells #[(Value.int .i64) y.lev, Value.bool y.e.there, Value.bool y.e.leaf, (Value.int .i64) y.e.rights, Value.bool y.e.used, Value.bool y.e.dirty, (Value.int .i64) y.e.frame, .slice A y.tabs.length c, .slice B y.tabs.length d] 122) = w3 at *
    generalize w1.heap.size = X2 at *
    have h4 : Has w3 (blk w.heap.size #[(Value.int .i64) 0, Value.bool false, Value.bool false, (Value.int .i64) 0, Value.bool false, Value.bool false, (Value.int .i64) 0, .slice none 0 0, .slice none 0 0] 122 * (blk (w.heap.size + 1) #[(Value.int .i64) 0, (Value.int .i64) 0, (Value.int .i64) 0, (Value.int .i64) 0] 31 * (blk X2 #[(Value.int .i64) y.lev, Value.bool y.e.there, Value.bool y.e.leaf, (Value.int .i64) y.e.rights, Value.bool y.e.used, Value.bool y.e.dirty, (Value.int .i64) y.e.frame, .slice A y.tabs.length c, .slice B y.tabs.length d] 122 * old w w.heap.size))) := by
      have := h3.eq (show _ = irow (.slice A y.tabs.length c) y.tabs * (irow (.slice B y.tabs.length d) (placesOf p y.tabs.length) * (blk w.heap.size #[(Value.int .i64) 0, Value.bool false, Value.bool false, (Value.int .i64) 0, Value.bool false, Value.bool false, (Value.int .i64) 0, .slice none 0 0, .slice none 0 0] 122 * (blk (w.heap.size + 1) #[(Value.int .i64) 0, (Value.int .i64) 0, (Value.int .i64) 0, (Value.int .i64) 0] 31 * (blk X2 #[(Value.int .i64) y.lev, Value.bool y.e.there, Value.bool y.e.leaf, (Value.int .i64) y.e.rights, Value.bool y.e.used, Value.bool y.e.dirty, (Value.int .i64) y.e.frame, .slice A y.tabs.length c, .slice B y.tabs.length d] 122 * old w w.heap.size)))) by ac_rfl)
      exact this.right.right
    obtain ⟨d0, d1, d2, d3, d4, d5, d6, d7, d8⟩ := h4.cells9
    obtain ⟨f0, f1, f2, f3, f4, f5, f6, f7, f8⟩ := h4.frees9
    have dl := h4.lt
    obtain ⟨c0, c1, c2, c3⟩ := h4.right.cells4
    obtain ⟨g0, g1, g2, g3⟩ := h4.right.frees4
    have cl := h4.right.lt
    have n1 := h4.ne
    have n2 := n1.symm
    obtain ⟨v0, v1, v2, v3, v4, v5, v6, v7, v8⟩ := h4.right.right.cells9
    have vl := h4.right.right.lt
    go_wp2_with fail
    refine ret_via (fun wz => Has wz (blk (w.heap.size + 1) #[(Value.int .i64) 0, (Value.int .i64) 0, (Value.int .i64) 0, (Value.int .i64) 0] 31 * (blk w.heap.size #[(Value.int .i64) 0, Value.bool false, Value.bool false, (Value.int .i64) 0, Value.bool false, Value.bool false, (Value.int .i64) 0, .slice none 0 0, .slice none 0 0] 122 * old w w.heap.size)) ∧ Ext w wz) ⟨(((h4.set9 _ _ _ _ _ _ _ _ _).p2).set4 _ _ _ _).drop3', by (repeat (first | with_reducible assumption | with_reducible exact Ext.refl _ | with_reducible refine Ext.set ?_ _ _ | with_reducible refine Ext.alloc ?_ _ | with_reducible refine Ext.drew ?_ | with_reducible refine Ext.drewN ?_ _ | assumption | exact Ext.refl _ | refine Ext.alloc ?_ _ | refine Ext.set ?_ _ _ | refine Ext.drew ?_ | refine Ext.drewN ?_ _ | refine Ext.below ?_ (by assumption) | refine Ext.trans ?_ (by assumption)))⟩ ?_
    rintro wz ⟨hz, xz⟩
    exact bodyPost_ret (results_cct Try.results57 rfl rfl rfl (load_spot hz.right) (load_map hz)) rfl (.inr ⟨HF.out.2, by rw [HF.out.1]; rfl, below_of1 hz.right.right xz⟩)
  case pos =>
    rw [if_neg (by rw [hc]; simp)] at hfc
    obtain ⟨code, tabs, lev, th, lf, rg, us, di, fr⟩ := y
    dsimp only at *
    subst hc
    cases th with
    | false =>
      rw [if_pos rfl] at hfc
      have HF := Lib.hid (show fc = 5 ∧ fc ≠ 0 from ⟨hfc, by rw [hfc]; decide⟩)
      clear hfc hfm
      go_upto_region 2 with fail
      generalize w1.alloc (.cells #[(Value.int .i64) lev, Value.bool false, Value.bool lf, (Value.int .i64) rg, Value.bool us, Value.bool di, (Value.int .i64) fr, .slice A tabs.length c, .slice B tabs.length d] 122) = w3 at *
      generalize w1.heap.size = X2 at *
      have h4 : Has w3 (blk w.heap.size #[(Value.int .i64) 0, Value.bool false, Value.bool false, (Value.int .i64) 0, Value.bool false, Value.bool false, (Value.int .i64) 0, .slice none 0 0, .slice none 0 0] 122 * (blk (w.heap.size + 1) #[(Value.int .i64) 0, (Value.int .i64) 0, (Value.int .i64) 0, (Value.int .i64) 0] 31 * (blk X2 #[(Value.int .i64) lev, Value.bool false, Value.bool lf, (Value.int .i64) rg, Value.bool us, Value.bool di, (Value.int .i64) fr, .slice A tabs.length c, .slice B tabs.length d] 122 * old w w.heap.size))) := by
        have := h3.eq (show _ = irow (.slice A tabs.length c) tabs * (irow (.slice B tabs.length d) (placesOf p tabs.length) * (blk w.heap.size #[(Value.int .i64) 0, Value.bool false, Value.bool false, (Value.int .i64) 0, Value.bool false, Value.bool false, (Value.int .i64) 0, .slice none 0 0, .slice none 0 0] 122 * (blk (w.heap.size + 1) #[(Value.int .i64) 0, (Value.int .i64) 0, (Value.int .i64) 0, (Value.int .i64) 0] 31 * (blk X2 #[(Value.int .i64) lev, Value.bool false, Value.bool lf, (Value.int .i64) rg, Value.bool us, Value.bool di, (Value.int .i64) fr, .slice A tabs.length c, .slice B tabs.length d] 122 * old w w.heap.size)))) by ac_rfl)
        exact this.right.right
      obtain ⟨d0, d1, d2, d3, d4, d5, d6, d7, d8⟩ := h4.cells9
      obtain ⟨f0, f1, f2, f3, f4, f5, f6, f7, f8⟩ := h4.frees9
      have dl := h4.lt
      obtain ⟨c0, c1, c2, c3⟩ := h4.right.cells4
      obtain ⟨g0, g1, g2, g3⟩ := h4.right.frees4
      have cl := h4.right.lt
      have n1 := h4.ne
      have n2 := n1.symm
      obtain ⟨v0, v1, v2, v3, v4, v5, v6, v7, v8⟩ := h4.right.right.cells9
      have vl := h4.right.right.lt
      go_wp2_with fail
      refine ret_via (fun wz => Has wz (blk (w.heap.size + 1) #[(Value.int .i64) 0, (Value.int .i64) 0, (Value.int .i64) 0, (Value.int .i64) 0] 31 * (blk w.heap.size #[(Value.int .i64) 0, Value.bool false, Value.bool false, (Value.int .i64) 0, Value.bool false, Value.bool false, (Value.int .i64) 0, .slice none 0 0, .slice none 0 0] 122 * old w w.heap.size)) ∧ Ext w wz) ⟨(((h4.set9 _ _ _ _ _ _ _ _ _).p2).set4 _ _ _ _).drop3', by (repeat (first | with_reducible assumption | with_reducible exact Ext.refl _ | with_reducible refine Ext.set ?_ _ _ | with_reducible refine Ext.alloc ?_ _ | with_reducible refine Ext.drew ?_ | with_reducible refine Ext.drewN ?_ _ | assumption | exact Ext.refl _ | refine Ext.alloc ?_ _ | refine Ext.set ?_ _ _ | refine Ext.drew ?_ | refine Ext.drewN ?_ _ | refine Ext.below ?_ (by assumption) | refine Ext.trans ?_ (by assumption)))⟩ ?_
      rintro wz ⟨hz, xz⟩
      exact bodyPost_ret (results_cct Try.results57 rfl rfl rfl (load_spot hz.right) (load_map hz)) rfl (.inr ⟨HF.out.2, by rw [HF.out.1]; rfl, below_of1 hz.right.right xz⟩)
    | true =>
      rw [if_neg (by simp)] at hfc
      rw [if_pos hfc] at hfm
      have HF := Lib.hid (show fc = 0 ∧ fm = leafMap ⟨true, lf, rg, us, di, fr⟩ lev p from ⟨hfc, hfm⟩)
      have HL : Hid (∀ X, Calls Try.prog 54 #[.agg #[Value.bool true, Value.bool lf, (Value.int .i64) rg, Value.bool us, Value.bool di, (Value.int .i64) fr], .int .i64 lev, .int .i64 p] X (Pure (leafMap ⟨true, lf, rg, us, di, fr⟩ lev p).val X)) := Lib.hid (fun X => entMap_any ⟨true, lf, rg, us, di, fr⟩ lev p X)
      clear hfc hfm
      generalize leafMap ⟨true, lf, rg, us, di, fr⟩ lev p = lm at *
      go_upto_region 6 with fail
      generalize w1.alloc (.cells #[(Value.int .i64) lev, Value.bool true, Value.bool lf, (Value.int .i64) rg, Value.bool us, Value.bool di, (Value.int .i64) fr, .slice A tabs.length c, .slice B tabs.length d] 122) = w3 at *
      generalize w1.heap.size = X2 at *
      have h5 : Has w3 (blk w.heap.size #[(Value.int .i64) 0, Value.bool false, Value.bool false, (Value.int .i64) 0, Value.bool false, Value.bool false, (Value.int .i64) 0, .slice none 0 0, .slice none 0 0] 122 * (blk X2 #[(Value.int .i64) lev, Value.bool true, Value.bool lf, (Value.int .i64) rg, Value.bool us, Value.bool di, (Value.int .i64) fr, .slice A tabs.length c, .slice B tabs.length d] 122 * (blk (w.heap.size + 1) #[(Value.int .i64) 0, (Value.int .i64) 0, (Value.int .i64) 0, (Value.int .i64) 0] 31 * (irow (.slice A tabs.length c) tabs * (irow (.slice B tabs.length d) (placesOf p tabs.length) * old w w.heap.size))))) := h3.eq (by ac_rfl)
      clear h3
      have h4 := h5.set9 ((Value.int .i64) lev) (Value.bool true) (Value.bool lf) ((Value.int .i64) rg) (Value.bool us) (Value.bool di) ((Value.int .i64) fr) (.slice A tabs.length c) (.slice B tabs.length d)
      have HK := Lib.hid (fun (w' : World) (P : HProp) (h : Has w' (blk X2 #[(Value.int .i64) lev, Value.bool true, Value.bool lf, (Value.int .i64) rg, Value.bool us, Value.bool di, (Value.int .i64) fr, .slice A tabs.length c, .slice B tabs.length d] 122 * P)) => h.cells9)
      obtain ⟨k0, k1, k2, k3, k4, k5, k6, k7, k8⟩ := h5.right.cells9
      have kl := h5.right.lt
      obtain ⟨d0, d1, d2, d3, d4, d5, d6, d7, d8⟩ := h5.cells9
      obtain ⟨f0, f1, f2, f3, f4, f5, f6, f7, f8⟩ := h5.frees9
      have dl := h5.lt
      have n1 := h5.ne
      have n2 := n1.symm
      go_cut [8] from 31 to 38 (fun s8 wx => s8 = (Value.int .i64) 0 ∧ Has wx (blk w.heap.size #[(Value.int .i64) lev, Value.bool true, Value.bool lf, (Value.int .i64) rg, Value.bool us, Value.bool di, (Value.int .i64) fr, .slice A tabs.length c, .slice B tabs.length d] 122 * (blk (w.heap.size + 1) #[(Value.int .i64) lm.page, (Value.int .i64) lm.size, (Value.int .i64) lm.frame, (Value.int .i64) lm.rights] 31 * (irow (.slice A tabs.length c) tabs * (irow (.slice B tabs.length d) (placesOf p tabs.length) * old w w.heap.size)))) ∧ Ext w wx)
      case first =>
        go_region_held3 (fun w' => w'.cell? ⟨X2, 0, none⟩ = some ((Value.int .i64) lev) ∧ w'.cell? ⟨X2, 1, none⟩ = some (Value.bool true) ∧ w'.cell? ⟨X2, 2, none⟩ = some (Value.bool lf) ∧ w'.cell? ⟨X2, 3, none⟩ = some ((Value.int .i64) rg) ∧ w'.cell? ⟨X2, 4, none⟩ = some (Value.bool us) ∧ w'.cell? ⟨X2, 5, none⟩ = some (Value.bool di) ∧ w'.cell? ⟨X2, 6, none⟩ = some ((Value.int .i64) fr) ∧ w'.cell? ⟨X2, 7, none⟩ = some (.slice A tabs.length c) ∧ w'.cell? ⟨X2, 8, none⟩ = some (.slice B tabs.length d)) (first | (with_reducible exact HK.out _ _ h6.right) | (with_reducible exact HK.out _ _ g6.right) | (with_reducible exact HK.out _ _ h4.drew.right) | (with_reducible exact HK.out _ _ h5.drew.right) | go_keep) (first | (go_at_call 54; ((with_reducible refine (HL.out _).mono ?_); rintro e2 w5 ⟨rfl, b5⟩; first | (have h6 := h5.drew.below b5; have x6 := x3.drew.below b5; obtain ⟨y0, y1, y2, y3, y4, y5, y6, y7, y8⟩ := h6.cells9; obtain ⟨z0, z1, z2, z3, z4, z5, z6, z7, z8⟩ := h6.frees9; have yl := h6.lt; obtain ⟨c0, c1, c2, c3⟩ := h6.right.right.cells4; obtain ⟨g0, g1, g2, g3⟩ := h6.right.right.frees4; have cl := h6.right.right.lt; have nn := h6.p2.right.ne; have nn' := nn.symm; have mm := h6.right.ne; have mm' := mm.symm) | (have g6 := h4.drew.below b5; have y6 := ((x3.set9 w.heap.size ((Value.int .i64) lev) (Value.bool true) (Value.bool lf) ((Value.int .i64) rg) (Value.bool us) (Value.bool di) ((Value.int .i64) fr) (.slice A tabs.length c) (.slice B tabs.length d)).drew).below b5; obtain ⟨c0, c1, c2, c3⟩ := g6.right.right.cells4; obtain ⟨g0, g1, g2, g3⟩ := g6.right.right.frees4; have cl := g6.right.right.lt; have mm := g6.right.ne; have mm' := mm.symm))))
        all_goals
          go_wp2_with fail
          go_meet
          case rel =>
            first
            | (have h7 := (h6.set9 ((Value.int .i64) lev) (Value.bool true) (Value.bool lf) ((Value.int .i64) rg) (Value.bool us) (Value.bool di) ((Value.int .i64) fr) (.slice A tabs.length c) (.slice B tabs.length d)).eq (show _ = blk (w.heap.size + 1) #[(Value.int .i64) 0, (Value.int .i64) 0, (Value.int .i64) 0, (Value.int .i64) 0] 31 * (blk w.heap.size #[(Value.int .i64) lev, Value.bool true, Value.bool lf, (Value.int .i64) rg, Value.bool us, Value.bool di, (Value.int .i64) fr, .slice A tabs.length c, .slice B tabs.length d] 122 * (blk X2 #[(Value.int .i64) lev, Value.bool true, Value.bool lf, (Value.int .i64) rg, Value.bool us, Value.bool di, (Value.int .i64) fr, .slice A tabs.length c, .slice B tabs.length d] 122 * (irow (.slice A tabs.length c) tabs * (irow (.slice B tabs.length d) (placesOf p tabs.length) * old w w.heap.size)))) by ac_rfl)
               exact ⟨rfl, (h7.set4 ((Value.int .i64) lm.page) ((Value.int .i64) lm.size) ((Value.int .i64) lm.frame) ((Value.int .i64) lm.rights)).p2.eq (show _ = blk X2 #[(Value.int .i64) lev, Value.bool true, Value.bool lf, (Value.int .i64) rg, Value.bool us, Value.bool di, (Value.int .i64) fr, .slice A tabs.length c, .slice B tabs.length d] 122 * (blk w.heap.size #[(Value.int .i64) lev, Value.bool true, Value.bool lf, (Value.int .i64) rg, Value.bool us, Value.bool di, (Value.int .i64) fr, .slice A tabs.length c, .slice B tabs.length d] 122 * (blk (w.heap.size + 1) #[(Value.int .i64) lm.page, (Value.int .i64) lm.size, (Value.int .i64) lm.frame, (Value.int .i64) lm.rights] 31 * (irow (.slice A tabs.length c) tabs * (irow (.slice B tabs.length d) (placesOf p tabs.length) * old w w.heap.size)))) by ac_rfl) |>.right, by (repeat (first | with_reducible assumption | with_reducible exact Ext.refl _ | with_reducible refine Ext.set ?_ _ _ | with_reducible refine Ext.alloc ?_ _ | with_reducible refine Ext.drew ?_ | with_reducible refine Ext.drewN ?_ _ | assumption | exact Ext.refl _ | refine Ext.alloc ?_ _ | refine Ext.set ?_ _ _ | refine Ext.drew ?_ | refine Ext.drewN ?_ _ | refine Ext.below ?_ (by assumption) | refine Ext.trans ?_ (by assumption)))⟩)
            | (have h7 := (h6.eq (show _ = blk (w.heap.size + 1) #[(Value.int .i64) 0, (Value.int .i64) 0, (Value.int .i64) 0, (Value.int .i64) 0] 31 * (blk w.heap.size #[(Value.int .i64) 0, Value.bool false, Value.bool false, (Value.int .i64) 0, Value.bool false, Value.bool false, (Value.int .i64) 0, .slice none 0 0, .slice none 0 0] 122 * (blk X2 #[(Value.int .i64) lev, Value.bool true, Value.bool lf, (Value.int .i64) rg, Value.bool us, Value.bool di, (Value.int .i64) fr, .slice A tabs.length c, .slice B tabs.length d] 122 * (irow (.slice A tabs.length c) tabs * (irow (.slice B tabs.length d) (placesOf p tabs.length) * old w w.heap.size)))) by ac_rfl)).set4 ((Value.int .i64) lm.page) ((Value.int .i64) lm.size) ((Value.int .i64) lm.frame) ((Value.int .i64) lm.rights)
               exact ⟨rfl, (h7.p2.set9 ((Value.int .i64) lev) (Value.bool true) (Value.bool lf) ((Value.int .i64) rg) (Value.bool us) (Value.bool di) ((Value.int .i64) fr) (.slice A tabs.length c) (.slice B tabs.length d)).eq (show _ = blk X2 #[(Value.int .i64) lev, Value.bool true, Value.bool lf, (Value.int .i64) rg, Value.bool us, Value.bool di, (Value.int .i64) fr, .slice A tabs.length c, .slice B tabs.length d] 122 * (blk w.heap.size #[(Value.int .i64) lev, Value.bool true, Value.bool lf, (Value.int .i64) rg, Value.bool us, Value.bool di, (Value.int .i64) fr, .slice A tabs.length c, .slice B tabs.length d] 122 * (blk (w.heap.size + 1) #[(Value.int .i64) lm.page, (Value.int .i64) lm.size, (Value.int .i64) lm.frame, (Value.int .i64) lm.rights] 31 * (irow (.slice A tabs.length c) tabs * (irow (.slice B tabs.length d) (placesOf p tabs.length) * old w w.heap.size)))) by ac_rfl) |>.right, by (repeat (first | with_reducible assumption | with_reducible exact Ext.refl _ | with_reducible refine Ext.set ?_ _ _ | with_reducible refine Ext.alloc ?_ _ | with_reducible refine Ext.drew ?_ | with_reducible refine Ext.drewN ?_ _ | assumption | exact Ext.refl _ | refine Ext.alloc ?_ _ | refine Ext.set ?_ _ _ | refine Ext.drew ?_ | refine Ext.drewN ?_ _ | refine Ext.below ?_ (by assumption) | refine Ext.trans ?_ (by assumption)))⟩)
            | (have h7 := (g6.eq (show _ = blk (w.heap.size + 1) #[(Value.int .i64) 0, (Value.int .i64) 0, (Value.int .i64) 0, (Value.int .i64) 0] 31 * (blk w.heap.size #[(Value.int .i64) lev, Value.bool true, Value.bool lf, (Value.int .i64) rg, Value.bool us, Value.bool di, (Value.int .i64) fr, .slice A tabs.length c, .slice B tabs.length d] 122 * (blk X2 #[(Value.int .i64) lev, Value.bool true, Value.bool lf, (Value.int .i64) rg, Value.bool us, Value.bool di, (Value.int .i64) fr, .slice A tabs.length c, .slice B tabs.length d] 122 * (irow (.slice A tabs.length c) tabs * (irow (.slice B tabs.length d) (placesOf p tabs.length) * old w w.heap.size)))) by ac_rfl)).set4 ((Value.int .i64) lm.page) ((Value.int .i64) lm.size) ((Value.int .i64) lm.frame) ((Value.int .i64) lm.rights)
               exact ⟨rfl, h7.p2.eq (show _ = blk X2 #[(Value.int .i64) lev, Value.bool true, Value.bool lf, (Value.int .i64) rg, Value.bool us, Value.bool di, (Value.int .i64) fr, .slice A tabs.length c, .slice B tabs.length d] 122 * (blk w.heap.size #[(Value.int .i64) lev, Value.bool true, Value.bool lf, (Value.int .i64) rg, Value.bool us, Value.bool di, (Value.int .i64) fr, .slice A tabs.length c, .slice B tabs.length d] 122 * (blk (w.heap.size + 1) #[(Value.int .i64) lm.page, (Value.int .i64) lm.size, (Value.int .i64) lm.frame, (Value.int .i64) lm.rights] 31 * (irow (.slice A tabs.length c) tabs * (irow (.slice B tabs.length d) (placesOf p tabs.length) * old w w.heap.size)))) by ac_rfl) |>.right, by (repeat (first | with_reducible assumption | with_reducible exact Ext.refl _ | with_reducible refine Ext.set ?_ _ _ | with_reducible refine Ext.alloc ?_ _ | with_reducible refine Ext.drew ?_ | with_reducible refine Ext.drewN ?_ _ | assumption | exact Ext.refl _ | refine Ext.alloc ?_ _ | refine Ext.set ?_ _ _ | refine Ext.drew ?_ | refine Ext.drewN ?_ _ | refine Ext.below ?_ (by assumption) | refine Ext.trans ?_ (by assumption)))⟩)
      case rest =>
        clear h5 h4 x3 HK k0 k1 k2 k3 k4 k5 k6 k7 k8 kl d0 d1 d2 d3 d4 d5 d6 d7 d8 f0 f1 f2 f3 f4 f5 f6 f7 f8 dl n1 n2
        obtain ⟨rfl, h9, x9⟩ := hcut
        go_wp2_with fail
        refine ret_via (fun wz => Has wz (blk w.heap.size #[(Value.int .i64) lev, Value.bool true, Value.bool lf, (Value.int .i64) rg, Value.bool us, Value.bool di, (Value.int .i64) fr, .slice A tabs.length c, .slice B tabs.length d] 122 * (blk (w.heap.size + 1) #[(Value.int .i64) lm.page, (Value.int .i64) lm.size, (Value.int .i64) lm.frame, (Value.int .i64) lm.rights] 31 * (irow (.slice A tabs.length c) tabs * (irow (.slice B tabs.length d) (placesOf p tabs.length) * old w w.heap.size)))) ∧ Ext w wz) ⟨h9, x9⟩ ?_
        rintro wz ⟨hz, xz⟩
        exact bodyPost_ret (results_cct Try.results57 rfl rfl rfl (load_spot hz) (load_map hz.right)) rfl (.inl ⟨HF.out.1, A, B, c, d, by rw [HF.out.2]; rfl, hz.right.right, xz⟩)
end Go.Proofs.Ytmfheghbgihdmaa
namespace Go.Proofs.Ytmfheghbgihdmaa
open Go.RowKit
set_option maxRecDepth 100000
set_option maxHeartbeats 4000000 in
theorem prT (f : Nat) (s : Ms) (root p ri : Int) (R : HProp) (w : World) (hs : s.Ok) (h : Has w (framesAt f s * R)) :
    Calls Try.prog 39 #[.pointer (some ⟨f, 0, none⟩), (Value.int .i64) root, (Value.int .i64) p, (Value.int .i64) ri] w (Res (.tuple #[(prM s root p ri).val, (Value.int .i64) (prC s root p ri)]) (framesAt f (prS s root p ri) * R) w) := by
  have h0 := h.new #[(Value.int .i64) 0, (Value.int .i64) 0, (Value.int .i64) 0, (Value.int .i64) 0] 31
  have x0 := (Ext.refl w).alloc (.cells #[(Value.int .i64) 0, (Value.int .i64) 0, (Value.int .i64) 0, (Value.int .i64) 0] 31)
  by_cases hri : ri < 0 ∨ 7 < ri
  · have hc : prC s root p ri = 1 := by unfold prC; rw [if_pos hri]
    have hm : prM s root p ri = Mp.zero := by unfold prM; rw [if_neg (by rw [hc]; decide)]
    have hss : prS s root p ri = s := by unfold prS; rw [if_neg (by rw [hc]; decide)]
    rw [hc, hm, hss]
    clear hc hm hss h
    obtain ⟨c0, c1, c2, c3⟩ := h0.cells4
    obtain ⟨g0, g1, g2, g3⟩ := h0.frees4
    have cl := h0.lt
    rcases hri with hri | hri
    · go_enter Try.func39, Try.ntmps39
      go_wp2_with fail
      refine ret_via (fun wz => Has wz (blk w.heap.size #[(Value.int .i64) 0, (Value.int .i64) 0, (Value.int .i64) 0, (Value.int .i64) 0] 31 * (framesAt f s * R)) ∧ Ext w wz) ⟨h0, by (repeat (first | with_reducible assumption | with_reducible exact Ext.refl _ | with_reducible refine Ext.set ?_ _ _ | with_reducible refine Ext.alloc ?_ _ | with_reducible refine Ext.drew ?_ | with_reducible refine Ext.drewN ?_ _ | assumption | exact Ext.refl _ | refine Ext.alloc ?_ _ | refine Ext.set ?_ _ _ | refine Ext.drew ?_ | refine Ext.drewN ?_ _ | refine Ext.below ?_ (by assumption) | refine Ext.trans ?_ (by assumption)))⟩ ?_
      rintro wz ⟨hz, xz⟩
      exact bodyPost_ret (results_ct Try.results39 rfl rfl (load_map hz)) rfl ⟨rfl, hz.right, xz⟩
    · by_cases hr0 : ri < 0
      · omega
      go_enter Try.func39, Try.ntmps39
      go_wp2_with fail
      refine ret_via (fun wz => Has wz (blk w.heap.size #[(Value.int .i64) 0, (Value.int .i64) 0, (Value.int .i64) 0, (Value.int .i64) 0] 31 * (framesAt f s * R)) ∧ Ext w wz) ⟨h0, by (repeat (first | with_reducible assumption | with_reducible exact Ext.refl _ | with_reducible refine Ext.set ?_ _ _ | with_reducible refine Ext.alloc ?_ _ | with_reducible refine Ext.drew ?_ | with_reducible refine Ext.drewN ?_ _ | assumption | exact Ext.refl _ | refine Ext.alloc ?_ _ | refine Ext.set ?_ _ _ | refine Ext.drew ?_ | refine Ext.drewN ?_ _ | refine Ext.below ?_ (by assumption) | refine Ext.trans ?_ (by assumption)))⟩ ?_
      rintro wz ⟨hz, xz⟩
      exact bodyPost_ret (results_ct Try.results39 rfl rfl (load_map hz)) rfl ⟨rfl, hz.right, xz⟩
  have hpc : prC s root p ri = findC s root p := by unfold prC; rw [if_neg hri]
  have hr0 : ¬ ri < 0 := by omega
  have hr7 : ¬ 7 < ri := by omega
  have W1 := Lib.hid (leafT f s root p _ _ hs h0.p2)
  unfold Leafed at W1
  by_cases hfc : findC s root p = 0
  · have hcode : (way s root p).code = 0 := by
      unfold findC at hfc
      split at hfc
      · rename_i hn; exact absurd hfc hn
      · rename_i hn; simpa using hn
    obtain ⟨hp, n, hn, hn3, hl, hu⟩ := way_tabs hcode
    obtain ⟨t, ht⟩ : ∃ t, (way s root p).tabs[n]? = some t := ⟨_, List.getElem?_eq_getElem (by omega)⟩
    have hst := way_store' hcode ht (encW { (way s root p).e with rights := ri } (way s root p).lev)
    have hss : prS s root p ri = storeS s t (index p (3 - (n : Int))) (encW { (way s root p).e with rights := ri } (way s root p).lev) := by
      unfold prS
      rw [if_pos (by rw [hpc]; exact hfc), hst, last_get' hn ht, hl]
    have hm : prM s root p ri = { findM s root p with rights := ri } := by unfold prM; rw [if_pos (by rw [hpc]; exact hfc)]
    have HST := Lib.hid (fun R w h => storeF f s t (index p (3 - (n : Int))) (encW { (way s root p).e with rights := ri } (way s root p).lev) R w h)
    have HE := Lib.hid (encode_any { (way s root p).e with rights := ri } (way s root p).lev)
    dsimp only at HE
    rw [← hss] at HST
    rw [hpc, hm, hfc]
    rw [hfc] at W1
    generalize prS s root p ri = s' at *
    generalize s.hasW t (index p (3 - (n : Int))) = hw at *
    generalize encW { (way s root p).e with rights := ri } (way s root p).lev = wd at *
    generalize entFault { (way s root p).e with rights := ri } (way s root p).lev = ef at *
    generalize findM s root p = fm at *
    clear hst hss hm hpc hri h hcode hu hl hfc
    have hpl := placesOf_get p (n := n + 1) (k := n) (by omega)
    rw [← hn] at hpl
    generalize index p (3 - (n : Int)) = ix at *
    generalize way s root p = y at *
    generalize placesOf p y.tabs.length = pls at *
    have HN := Lib.hid hn
    have HT := Lib.hid ht
    have HPL := Lib.hid hpl
    clear ht hpl hn
    go_enter Try.func39, Try.ntmps39
    go_wp2_with fail
    refine W1.out.mono ?_; rintro e w1 hF
    rcases hF with ⟨_, A, B, c, d, rfl, h1, x1⟩ | ⟨hfc, _⟩
    · have h2 := (h0.onto' (h1.a2)).a1
      have x2 := x0.trans x1
      clear h0 x0 h1 x1 W1
      have h4 := (h2.new #[(Value.int .i64) y.lev, Value.bool y.e.there, Value.bool y.e.leaf, (Value.int .i64) y.e.rights, Value.bool y.e.used, Value.bool y.e.dirty, (Value.int .i64) y.e.frame, .slice A y.tabs.length c, .slice B y.tabs.length d] 122).new #[(Value.int .i64) fm.page, (Value.int .i64) fm.size, (Value.int .i64) fm.frame, (Value.int .i64) fm.rights] 31
      simp only [World.size_alloc] at h4
      have x4 := (x2.alloc (.cells #[(Value.int .i64) y.lev, Value.bool y.e.there, Value.bool y.e.leaf, (Value.int .i64) y.e.rights, Value.bool y.e.used, Value.bool y.e.dirty, (Value.int .i64) y.e.frame, .slice A y.tabs.length c, .slice B y.tabs.length d] 122)).alloc (.cells #[(Value.int .i64) fm.page, (Value.int .i64) fm.size, (Value.int .i64) fm.frame, (Value.int .i64) fm.rights] 31)
      clear h2 x2
      unfold spotA
      go_upto_region 4 with fail
      generalize (w1.alloc (.cells #[(Value.int .i64) y.lev, Value.bool y.e.there, Value.bool y.e.leaf, (Value.int .i64) y.e.rights, Value.bool y.e.used, Value.bool y.e.dirty, (Value.int .i64) y.e.frame, .slice A y.tabs.length c, .slice B y.tabs.length d] 122)).alloc (.cells #[(Value.int .i64) fm.page, (Value.int .i64) fm.size, (Value.int .i64) fm.frame, (Value.int .i64) fm.rights] 31) = w3 at *
      generalize w1.heap.size = X2 at *
      generalize w.heap.size = X0 at *
      have f3 := h4.free 3
      have g3 := h4.right.free 3
      obtain ⟨m0, m1, m2, m3⟩ := h4.cells4
      have ml := h4.lt
      obtain ⟨k0, k1, k2, k3, k4, k5, k6, k7, k8⟩ := h4.right.cells9
      have kl := h4.right.lt
      have nn := h4.ne
      have nn' := nn.symm
      have h5 := ((h4.p2.set 3 ((Value.int .i64) ri)).p2.set 3 ((Value.int .i64) ri))
      have x5 := (x4.set ⟨X2, 3, none⟩ ((Value.int .i64) ri)).set ⟨X2 + 1, 3, none⟩ ((Value.int .i64) ri)
      have h5 : Has ((w3.setCell ⟨X2, 3, none⟩ ((Value.int .i64) ri)).setCell ⟨X2 + 1, 3, none⟩ ((Value.int .i64) ri)) (blk (X2 + 1) #[(Value.int .i64) fm.page, (Value.int .i64) fm.size, (Value.int .i64) fm.frame, (Value.int .i64) ri] 31 * (blk X2 #[(Value.int .i64) y.lev, Value.bool y.e.there, Value.bool y.e.leaf, (Value.int .i64) ri, Value.bool y.e.used, Value.bool y.e.dirty, (Value.int .i64) y.e.frame, .slice A y.tabs.length c, .slice B y.tabs.length d] 122 * (irow (.slice A y.tabs.length c) y.tabs * (irow (.slice B y.tabs.length d) pls * (blk X0 #[(Value.int .i64) 0, (Value.int .i64) 0, (Value.int .i64) 0, (Value.int .i64) 0] 31 * (framesAt f s * R)))))) := h5
      go_upto_region 7 with fail
      generalize (w3.setCell ⟨X2, 3, none⟩ ((Value.int .i64) ri)).setCell ⟨X2 + 1, 3, none⟩ ((Value.int .i64) ri) = w4 at *
      clear h4 x4 f3 g3 m0 m1 m2 m3 ml k0 k1 k2 k3 k4 k5 k6 k7 k8 kl nn nn'
      obtain ⟨k0, k1, k2, k3, k4, k5, k6, k7, k8⟩ := h5.right.cells9
      have kl := h5.right.lt
      go_wp2_with fail
      refine (HE.out _).mono ?_; rintro e w5 ⟨rfl, b5⟩
      have h6 := h5.below b5
      have x6 := x5.below b5
      clear h5 x5 b5 HE k0 k1 k2 k3 k4 k5 k6 k7 k8 kl
      have hNo := HN.out
      obtain ⟨bA, hA1, hA2, hA3⟩ := irow_at (h6.right.right) (k := n) (by omega)
      have hpll : pls.length = y.tabs.length := by
        have := irow_len h6.right.right.right
        exact this.symm
      obtain ⟨bB, hB1, hB2, hB3⟩ := irow_at (h6.right.right.right) (k := n) (by omega)
      have hAt : y.tabs[n]'(by omega) = t := (List.getElem?_eq_some_iff.1 HT.out).2
      have hBt : pls[n]'(by omega) = ix := (List.getElem?_eq_some_iff.1 HPL.out).2
      rw [hAt] at hA3
      rw [hBt] at hB3
      subst hA1; subst hB1
      have hni : (n : Int) < y.tabs.length := by omega
      have hlen1 : ((y.tabs.length : Nat) : Int) - 1 = (n : Int) := by omega
      obtain ⟨k0, k1, k2, k3, k4, k5, k6, k7, k8⟩ := h6.right.cells9
      have kl := h6.right.lt
      have HLN := Lib.hid hlen1
      clear hpll hAt hBt hlen1 hNo
      go_upto_region 8 with fail
      go_cut [15] from 48 to 52 (fun s15 wx => s15 = (Value.int .i64) n ∧ wx = w5)
      case first =>
        have hlen1 := HLN.out
        go_wp2_with fail
        go_meet
        case rel => exact ⟨by first | rfl | (rw [← hlen1]; done) | (rw [← hlen1]; go_num), rfl⟩
      case rest =>
      obtain ⟨rfl, hwr⟩ := hcut
      replace hwr := hwr.symm
      subst hwr
      have hn0 : ¬ ((n : Int) < 0) := by omega
      have h7 : Has w5.drew (framesAt f s * (blk (X2 + 1) #[(Value.int .i64) fm.page, (Value.int .i64) fm.size, (Value.int .i64) fm.frame, (Value.int .i64) ri] 31 * (blk X2 #[(Value.int .i64) y.lev, Value.bool y.e.there, Value.bool y.e.leaf, (Value.int .i64) ri, Value.bool y.e.used, Value.bool y.e.dirty, (Value.int .i64) y.e.frame, .slice (some ⟨bA, 0, none⟩) y.tabs.length c, .slice (some ⟨bB, 0, none⟩) y.tabs.length d] 122 * (irow (.slice (some ⟨bA, 0, none⟩) y.tabs.length c) y.tabs * (irow (.slice (some ⟨bB, 0, none⟩) y.tabs.length d) pls * (blk X0 #[(Value.int .i64) 0, (Value.int .i64) 0, (Value.int .i64) 0, (Value.int .i64) 0] 31 * R)))))) := (h6.eq (show _ = framesAt f s * (blk (X2 + 1) #[(Value.int .i64) fm.page, (Value.int .i64) fm.size, (Value.int .i64) fm.frame, (Value.int .i64) ri] 31 * (blk X2 #[(Value.int .i64) y.lev, Value.bool y.e.there, Value.bool y.e.leaf, (Value.int .i64) ri, Value.bool y.e.used, Value.bool y.e.dirty, (Value.int .i64) y.e.frame, .slice (some ⟨bA, 0, none⟩) y.tabs.length c, .slice (some ⟨bB, 0, none⟩) y.tabs.length d] 122 * (irow (.slice (some ⟨bA, 0, none⟩) y.tabs.length c) y.tabs * (irow (.slice (some ⟨bB, 0, none⟩) y.tabs.length d) pls * (blk X0 #[(Value.int .i64) 0, (Value.int .i64) 0, (Value.int .i64) 0, (Value.int .i64) 0] 31 * R))))) by ac_rfl)).drew
      have x7 := x6.drew
      have HK := Lib.hid (fun (w' : World) (P Q : HProp) (h : Has w' (P * (Q * (blk X2 #[(Value.int .i64) y.lev, Value.bool y.e.there, Value.bool y.e.leaf, (Value.int .i64) ri, Value.bool y.e.used, Value.bool y.e.dirty, (Value.int .i64) y.e.frame, .slice (some ⟨bA, 0, none⟩) y.tabs.length c, .slice (some ⟨bB, 0, none⟩) y.tabs.length d] 122 * (irow (.slice (some ⟨bA, 0, none⟩) y.tabs.length c) y.tabs * (irow (.slice (some ⟨bB, 0, none⟩) y.tabs.length d) pls * (blk X0 #[(Value.int .i64) 0, (Value.int .i64) 0, (Value.int .i64) 0, (Value.int .i64) 0] 31 * R))))))) => (by
        obtain ⟨b1, e1, _, q1⟩ := irow_at (h.right.right.right) (k := n) (by have := HN.out; omega)
        have hpll : pls.length = y.tabs.length := (irow_len h.right.right.right.right).symm
        obtain ⟨b2, e2, _, q2⟩ := irow_at (h.right.right.right.right) (k := n) (by have := HN.out; omega)
        injection e1 with e1; injection e1 with e1
        injection e2 with e2; injection e2 with e2
        subst e1; subst e2
        rw [(List.getElem?_eq_some_iff.1 HT.out).2] at q1
        rw [(List.getElem?_eq_some_iff.1 HPL.out).2] at q2
        exact ⟨h.right.right.cell 7, h.right.right.cell 8, q1, q2⟩ : w'.cell? ⟨X2, 7, none⟩ = some (.slice (some ⟨bA, 0, none⟩) y.tabs.length c) ∧ w'.cell? ⟨X2, 8, none⟩ = some (.slice (some ⟨bB, 0, none⟩) y.tabs.length d) ∧ w'.cell? ⟨bA, n, none⟩ = some ((Value.int .i64) t) ∧ w'.cell? ⟨bB, n, none⟩ = some ((Value.int .i64) ix)))
      clear k0 k1 k2 k3 k4 k5 k6
      go_upto_region 9 with fail
      go_region_held3 (fun w' => w'.cell? ⟨X2, 7, none⟩ = some (.slice (some ⟨bA, 0, none⟩) y.tabs.length c) ∧ w'.cell? ⟨X2, 8, none⟩ = some (.slice (some ⟨bB, 0, none⟩) y.tabs.length d) ∧ w'.cell? ⟨bA, n, none⟩ = some ((Value.int .i64) t) ∧ w'.cell? ⟨bB, n, none⟩ = some ((Value.int .i64) ix)) (first | (with_reducible exact HK.out _ _ _ h7) | (with_reducible exact HK.out _ _ _ h8) | go_keep) (first | (go_at_call 64; (with_reducible refine (HST.out _ _ h7).mono ?_); rintro e w8 ⟨rfl, h8, x8⟩))
      have x9 := x7.trans x8
      have h9 : Has w8 (blk X0 #[(Value.int .i64) 0, (Value.int .i64) 0, (Value.int .i64) 0, (Value.int .i64) 0] 31 * (blk (X2 + 1) #[(Value.int .i64) fm.page, (Value.int .i64) fm.size, (Value.int .i64) fm.frame, (Value.int .i64) ri] 31 * (blk X2 #[(Value.int .i64) y.lev, Value.bool y.e.there, Value.bool y.e.leaf, (Value.int .i64) ri, Value.bool y.e.used, Value.bool y.e.dirty, (Value.int .i64) y.e.frame, .slice (some ⟨bA, 0, none⟩) y.tabs.length c, .slice (some ⟨bB, 0, none⟩) y.tabs.length d] 122 * (irow (.slice (some ⟨bA, 0, none⟩) y.tabs.length c) y.tabs * (irow (.slice (some ⟨bB, 0, none⟩) y.tabs.length d) pls * (framesAt f s' * R)))))) := h8.eq (by ac_rfl)
      clear h6 x6 h7 x7 h8 x8 HK HST k7 k8 kl
      obtain ⟨m0, m1, m2, m3⟩ := h9.right.cells4
      have ml := h9.right.lt
      obtain ⟨r0, r1, r2, r3⟩ := h9.cells4
      obtain ⟨q0, q1, q2, q3⟩ := h9.frees4
      have rl := h9.lt
      go_wp2_with fail
      refine ret_via (fun wz => Has wz (blk X0 #[(Value.int .i64) fm.page, (Value.int .i64) fm.size, (Value.int .i64) fm.frame, (Value.int .i64) ri] 31 * (blk (X2 + 1) #[(Value.int .i64) fm.page, (Value.int .i64) fm.size, (Value.int .i64) fm.frame, (Value.int .i64) ri] 31 * (blk X2 #[(Value.int .i64) y.lev, Value.bool y.e.there, Value.bool y.e.leaf, (Value.int .i64) ri, Value.bool y.e.used, Value.bool y.e.dirty, (Value.int .i64) y.e.frame, .slice (some ⟨bA, 0, none⟩) y.tabs.length c, .slice (some ⟨bB, 0, none⟩) y.tabs.length d] 122 * (irow (.slice (some ⟨bA, 0, none⟩) y.tabs.length c) y.tabs * (irow (.slice (some ⟨bB, 0, none⟩) y.tabs.length d) pls * (framesAt f s' * R)))))) ∧ Ext w wz) ⟨h9.set4 _ _ _ _, by (repeat (first | with_reducible assumption | with_reducible exact Ext.refl _ | with_reducible refine Ext.set ?_ _ _ | with_reducible refine Ext.alloc ?_ _ | with_reducible refine Ext.drew ?_ | with_reducible refine Ext.drewN ?_ _ | assumption | exact Ext.refl _ | refine Ext.alloc ?_ _ | refine Ext.set ?_ _ _ | refine Ext.drew ?_ | refine Ext.drewN ?_ _ | refine Ext.below ?_ (by assumption) | refine Ext.trans ?_ (by assumption)))⟩ ?_
      rintro wz ⟨hz, xz⟩
      exact bodyPost_ret (results_ct Try.results39 rfl rfl (load_map hz)) rfl ⟨rfl, hz.right.right.right.right.right, xz⟩
    · exact absurd rfl hfc
  · have hss : prS s root p ri = s := by unfold prS; rw [if_neg (by rw [hpc]; exact hfc)]
    have hm : prM s root p ri = Mp.zero := by unfold prM; rw [if_neg (by rw [hpc]; exact hfc)]
    rw [hss, hm, hpc]
    have hn : (findC s root p != 0) = true := by simpa using hfc
    generalize findC s root p = fc at *
    clear hss hm hpc h hri
    go_enter Try.func39, Try.ntmps39
    go_wp2_with fail
    refine W1.out.mono ?_; rintro e w1 hF
    rcases hF with ⟨h0', _⟩ | ⟨_, rfl, b1⟩
    · exact absurd h0' hfc
    · have h1 := h0.below b1
      have x1 := x0.below b1
      clear h0 x0 b1 W1 hfc
      have h4 : Has _ (blk w.heap.size #[(Value.int .i64) 0, (Value.int .i64) 0, (Value.int .i64) 0, (Value.int .i64) 0] 31 * (framesAt f s * (blk (w1.heap.size + 1) #[(Value.int .i64) 0, (Value.int .i64) 0, (Value.int .i64) 0, (Value.int .i64) 0] 31 * (blk w1.heap.size #[(Value.int .i64) 0, Value.bool false, Value.bool false, (Value.int .i64) 0, Value.bool false, Value.bool false, (Value.int .i64) 0, .slice none 0 0, .slice none 0 0] 122 * R)))) := ((h1.new #[(Value.int .i64) 0, Value.bool false, Value.bool false, (Value.int .i64) 0, Value.bool false, Value.bool false, (Value.int .i64) 0, .slice none 0 0, .slice none 0 0] 122).new #[(Value.int .i64) 0, (Value.int .i64) 0, (Value.int .i64) 0, (Value.int .i64) 0] 31).eq (by simp only [World.size_alloc]; ac_rfl)
      have x4 := (x1.alloc (.cells #[(Value.int .i64) 0, Value.bool false, Value.bool false, (Value.int .i64) 0, Value.bool false, Value.bool false, (Value.int .i64) 0, .slice none 0 0, .slice none 0 0] 122)).alloc (.cells #[(Value.int .i64) 0, (Value.int .i64) 0, (Value.int .i64) 0, (Value.int .i64) 0] 31)
      clear h1 x1
      unfold zspot
      go_upto_region 4 with fail
      generalize (w1.alloc (.cells #[(Value.int .i64) 0, Value.bool false, Value.bool false, (Value.int .i64) 0, Value.bool false, Value.bool false, (Value.int .i64) 0, .slice none 0 0, .slice none 0 0] 122)).alloc (.cells #[(Value.int .i64) 0, (Value.int .i64) 0, (Value.int .i64) 0, (Value.int .i64) 0] 31) = w3 at *
      generalize w1.heap.size = X2 at *
      generalize w.heap.size = X0 at *
      obtain ⟨r0, r1, r2, r3⟩ := h4.cells4
      obtain ⟨q0, q1, q2, q3⟩ := h4.frees4
      have rl := h4.lt
      go_wp2_with fail
      refine ret_via (fun wz => Has wz (blk X0 #[(Value.int .i64) 0, (Value.int .i64) 0, (Value.int .i64) 0, (Value.int .i64) 0] 31 * (framesAt f s * (blk (X2 + 1) #[(Value.int .i64) 0, (Value.int .i64) 0, (Value.int .i64) 0, (Value.int .i64) 0] 31 * (blk X2 #[(Value.int .i64) 0, Value.bool false, Value.bool false, (Value.int .i64) 0, Value.bool false, Value.bool false, (Value.int .i64) 0, .slice none 0 0, .slice none 0 0] 122 * R)))) ∧ Ext w wz) ⟨h4.set4 _ _ _ _, by (repeat (first | with_reducible assumption | with_reducible exact Ext.refl _ | with_reducible refine Ext.set ?_ _ _ | with_reducible refine Ext.alloc ?_ _ | with_reducible refine Ext.drew ?_ | with_reducible refine Ext.drewN ?_ _ | assumption | exact Ext.refl _ | refine Ext.alloc ?_ _ | refine Ext.set ?_ _ _ | refine Ext.drew ?_ | refine Ext.drewN ?_ _ | refine Ext.below ?_ (by assumption) | refine Ext.trans ?_ (by assumption)))⟩ ?_
      rintro wz ⟨hz, xz⟩
      exact bodyPost_ret (results_ct Try.results39 rfl rfl (load_map hz)) rfl ⟨rfl, hz.right.eq (show _ = blk (X2 + 1) #[(Value.int .i64) 0, (Value.int .i64) 0, (Value.int .i64) 0, (Value.int .i64) 0] 31 * (blk X2 #[(Value.int .i64) 0, Value.bool false, Value.bool false, (Value.int .i64) 0, Value.bool false, Value.bool false, (Value.int .i64) 0, .slice none 0 0, .slice none 0 0] 122 * (framesAt f s * R)) by ac_rfl) |>.right.right, xz⟩
end Go.Proofs.Ytmfheghbgihdmaa
