/- The contracts of walk.List and walk.Tables. -/
import Derived.Test.YtegkimecdonfgaaTabR
import Derived.Test.YtegkimecdonfgaaWkFind
import Derived.Test.YtegkimecdonfgaaTabI
import Derived.Test.YtegkimecdonfgaaAgree2
import Derived.Test.YtegkimecdonfgaaRows2
import Derived.Test.YtegkimecdonfgaaWalkM2
import Derived.Test.YtegkimecdonfgaaEntry2
namespace Go.Proofs.Ytegkimecdonfgaa
open Go.RowKit
set_option maxRecDepth 100000
/-- What List has gathered, at block O. -/
def gathM (O : Nat) (vs : List Vis) : HProp := ex fun A => ex fun c => blk O #[.slice A (mapsOf vs).length c] 64 * mrow (.slice A (mapsOf vs).length c) (mapsOf vs)
theorem gathM_open {O : Nat} {vs : List Vis} {P : HProp} {w : World} (h : Has w (gathM O vs * P)) : ∃ A c, Has w (blk O #[.slice A (mapsOf vs).length c] 64 * (mrow (.slice A (mapsOf vs).length c) (mapsOf vs) * P)) := by
  unfold gathM at h
  obtain ⟨A, h⟩ := has_ex_star.1 h
  obtain ⟨c, h⟩ := has_ex_star.1 h
  exact ⟨A, c, h.a1⟩
theorem gathM_shut {O c : Nat} {A : Option Addr} {vs : List Vis} {P : HProp} {w : World} (h : Has w (blk O #[.slice A (mapsOf vs).length c] 64 * (mrow (.slice A (mapsOf vs).length c) (mapsOf vs) * P))) : Has w (gathM O vs * P) := by
  unfold gathM
  exact has_ex_star.2 ⟨A, has_ex_star.2 ⟨c, h.a2⟩⟩
theorem mapsOf_len (vs : List Vis) : (mapsOf vs).length ≤ vs.length := List.length_filterMap_le _ _
theorem tabsOf_len (vs : List Vis) : (tabsOf vs).length ≤ vs.length := List.length_filterMap_le _ _
theorem pow8_mono {i j : Nat} (h : i ≤ j) : pow8 i ≤ pow8 j := by
  induction h with
  | refl => exact Int.le_refl _
  | step _ ih => rw [pow8_succ]; have := pow8_pos' i; omega
set_option maxHeartbeats 2000000 in
theorem seeM (O : Nat) (P : HProp) (vs : List Vis) (v : Vis) (W : World) (hv : VOk v) (hl : vs.length < 5000) (h : Has W (gathM O vs * P)) :
    Calls Try.prog 77 #[(Value.int .i64) v.t, (Value.int .i64) v.lev, (Value.int .i64) v.at_, .agg #[Value.bool v.e.there, Value.bool v.e.leaf, (Value.int .i64) v.e.rights, Value.bool v.e.used, Value.bool v.e.dirty, (Value.int .i64) v.e.frame], .pointer (some ⟨O, 0, none⟩)] W (Res (.tuple #[]) (gathM O (vs ++ [v]) * P) W) := by
  obtain ⟨A, c, h⟩ := gathM_open h
  have hml := mapsOf_len vs
  obtain ⟨t, lev, at_, ⟨th, lf, rg, us, di, fr⟩⟩ := v
  obtain ⟨l0, l3, ha0, ha4⟩ := hv
  dsimp only at *
  have h1 := h.new #[Value.bool th, Value.bool lf, (Value.int .i64) rg, Value.bool us, Value.bool di, (Value.int .i64) fr] 50
  have x1 := (Ext.refl W).alloc (.cells #[Value.bool th, Value.bool lf, (Value.int .i64) rg, Value.bool us, Value.bool di, (Value.int .i64) fr] 50)
  obtain ⟨e0, e1, e2, e3, e4, e5⟩ := h1.cells6
  have el := h1.lt
  cases lf with
  | false =>
    have hm : mapsOf (vs ++ [⟨t, lev, at_, ⟨th, false, rg, us, di, fr⟩⟩]) = mapsOf vs := by rw [mapsOf_append]; simp [mapsOf]
    have hfin : Has (W.alloc (.cells #[Value.bool th, Value.bool false, (Value.int .i64) rg, Value.bool us, Value.bool di, (Value.int .i64) fr] 50)) (gathM O (vs ++ [⟨t, lev, at_, ⟨th, false, rg, us, di, fr⟩⟩]) * P) := by
      refine gathM_shut (A := A) (c := c) ?_
      rw [hm]
      exact h1.right
    go_enter Try.func77, Try.ntmps77
    go_wp2_with fail
    exact bodyPost_ret (v := .tuple #[]) (by simp [results, Try.results77]) rfl ⟨rfl, hfin, x1⟩
  | true =>
    obtain ⟨k, rfl⟩ := Int.eq_ofNat_of_zero_le l0
    have hk3 : k ≤ 3 := by omega
    rw [Int.toNat_natCast] at ha4
    have hm := Lib.hid (show mapsOf (vs ++ [⟨t, k, at_, ⟨th, true, rg, us, di, fr⟩⟩]) = mapsOf vs ++ [leafMap ⟨th, true, rg, us, di, fr⟩ k (at_ * pow8 k)] by rw [mapsOf_append]; simp [mapsOf])
    have HE := Lib.hid (entMap_any ⟨th, true, rg, us, di, fr⟩ k (at_ * pow8 k))
    generalize leafMap ⟨th, true, rg, us, di, fr⟩ k (at_ * pow8 k) = m at *
    go_enter Try.func77, Try.ntmps77
    go_wp2_with fail
    go_loopw [9, 14] (fun s9 s14 wr => ∃ j : Nat, j ≤ k ∧ s14 = (Value.int .i64) j ∧ s9 = (Value.int .i64) (at_ * pow8 j) ∧ (W.alloc (.cells #[Value.bool th, Value.bool true, (Value.int .i64) rg, Value.bool us, Value.bool di, (Value.int .i64) fr] 50)) = wr) (fun _ s14 _ => k - (intOf s14).toNat)
    case atStart => exact ⟨0, Nat.zero_le _, rfl, by simp [pow8], rfl⟩
    case round =>
      obtain ⟨j, hj, rfl, rfl, rfl⟩ := hrel
      by_cases hlt : j < k
      · have hpw : at_ * pow8 j * 8 = at_ * pow8 (j + 1) := by rw [pow8_succ, Int.mul_assoc, Int.mul_comm (pow8 j) 8]
        have hle : at_ * pow8 (j + 1) ≤ at_ * pow8 k := Int.mul_le_mul_of_nonneg_left (pow8_mono (by omega)) ha0
        have hge : 0 ≤ at_ * pow8 (j + 1) := Int.mul_nonneg ha0 (Int.le_of_lt (pow8_pos' _))
        have hwr : IntKind.i64.wrap (at_ * pow8 j * 8) = at_ * pow8 (j + 1) := by rw [hpw, IntKind.wrap_i64]; omega
        clear hpw hle hge
        go_wp2_with fail
        go_roundw
        case rel => exact ⟨j + 1, by omega, by go_num, rfl, trivial⟩
        case measure => simp [intOf]; omega
      · obtain rfl : j = k := by omega
        have c0 : (W.alloc (.cells #[Value.bool th, Value.bool true, (Value.int .i64) rg, Value.bool us, Value.bool di, (Value.int .i64) fr] 50)).cell? ⟨O, 0, none⟩ = some (.slice A (mapsOf vs).length c) := h1.right.cell 0
        generalize at_ * pow8 j = pg at *
        generalize W.alloc (.cells #[Value.bool th, Value.bool true, (Value.int .i64) rg, Value.bool us, Value.bool di, (Value.int .i64) fr] 50) = w4 at *
        generalize W.heap.size = E at *
        go_wp2_with fail
        refine region_L (S := fun L w' => Till 6 0 (fun w' => w'.cell? ⟨O, 0, none⟩ = some (.slice A (mapsOf vs).length c)) L w' ∧ Till 4 1 (fun w' => w'.cell? ⟨E, 0, none⟩ = some (Value.bool th) ∧ w'.cell? ⟨E, 1, none⟩ = some (Value.bool true) ∧ w'.cell? ⟨E, 2, none⟩ = some ((Value.int .i64) rg) ∧ w'.cell? ⟨E, 3, none⟩ = some (Value.bool us) ∧ w'.cell? ⟨E, 4, none⟩ = some (Value.bool di) ∧ w'.cell? ⟨E, 5, none⟩ = some ((Value.int .i64) fr)) L w') (by kernel_rfl) ⟨Till.start c0, Till.start ⟨e0, e1, e2, e3, e4, e5⟩⟩ (fun hHeld => ?_)
        refine anyL_take (i := 0) (v := ?_) rfl (by kernel_rfl) (by kernel_rfl) (by kernel_rfl) (fun _ _ _ h => h) (Good.and (Good.till (by decide) ⟨_, ⟨0, .data⟩, rfl, by simp, rfl, rfl⟩) (Good.till (by decide) ⟨_, ⟨1, .data⟩, rfl, by simp, rfl, rfl⟩)) (Or.inl ⟨by kernel_rfl, ?_⟩) hHeld (fun hHeld => ?_)
        rotate_left
        focus (intro wS hSw; obtain ⟨Lx, hLx, hs1, hs2⟩ := hSw; have cS := hs1.still hLx; go_simp; first | done | with_reducible rfl)
        try go_simp
        refine anyL_take (i := 1) (v := ?_) rfl (by kernel_rfl) (by kernel_rfl) (by kernel_rfl) (fun _ _ _ h => h) (Good.and (Good.till (by decide) ⟨_, ⟨0, .data⟩, rfl, by simp, rfl, rfl⟩) (Good.till (by decide) ⟨_, ⟨1, .data⟩, rfl, by simp, rfl, rfl⟩)) (Or.inl ⟨by kernel_rfl, ?_⟩) hHeld (fun hHeld => ?_)
        rotate_left
        focus (intro wS hSw; obtain ⟨Lx, hLx, hs1, hs2⟩ := hSw; obtain ⟨s0, s1, s2, s3, s4, s5⟩ := hs2.still hLx; go_simp; first | done | with_reducible rfl)
        try go_simp
        refine anyL_take (i := 2) (v := ?_) rfl (by kernel_rfl) (by kernel_rfl) (by kernel_rfl) (fun _ _ _ h => h) (Good.and (Good.till (by decide) ⟨_, ⟨0, .data⟩, rfl, by simp, rfl, rfl⟩) (Good.till (by decide) ⟨_, ⟨1, .data⟩, rfl, by simp, rfl, rfl⟩)) (Or.inl ⟨by kernel_rfl, ?_⟩) hHeld (fun hHeld => ?_)
        rotate_left
        focus (intro wS hSw; obtain ⟨Lx, hLx, hs1, hs2⟩ := hSw; skip; go_simp; first | done | with_reducible rfl)
        try go_simp
        refine anyL_take (i := 3) (v := ?_) rfl (by kernel_rfl) (by kernel_rfl) (by kernel_rfl) (fun _ _ _ h => h) (Good.and (Good.till (by decide) ⟨_, ⟨0, .data⟩, rfl, by simp, rfl, rfl⟩) (Good.till (by decide) ⟨_, ⟨1, .data⟩, rfl, by simp, rfl, rfl⟩)) (Or.inl ⟨by kernel_rfl, ?_⟩) hHeld (fun hHeld => ?_)
        rotate_left
        focus (intro wS hSw; obtain ⟨Lx, hLx, hs1, hs2⟩ := hSw; skip; go_simp; first | done | with_reducible rfl)
        try go_simp
        refine anyL_ready (rs := [4]) (by kernel_rfl) (by simp) ?_
        refine OneOf.cons rfl (fun K hK => ?_) OneOf.nil
        go_simp
        go_wp2_with (refine (HE.out _).mono ?_; rintro e2 w5 ⟨rfl, b5⟩)
        have h5 := (h1.drew.right.below b5)
        have x5 := x1.drew.below b5
        refine hK.out _ _ ⟨⟨fun _ => by kernel_rfl, fun _ => h5.cell 0⟩, ⟨fun _ => by kernel_rfl, fun h => till_gone (by kernel_rfl) h⟩⟩ (fun hHeld => ?_)
        clear hK K
        refine anyL_ready (rs := [5]) (by kernel_rfl) (by simp) ?_
        refine OneOf.cons rfl (fun K hK => ?_) OneOf.nil
        go_simp
        have h6 := (h5.p2).alloc (.cells #[(Value.int .i64) m.page, (Value.int .i64) m.size, (Value.int .i64) m.frame, (Value.int .i64) m.rights] 24)
        refine hK.out _ _ ⟨⟨fun _ => by kernel_rfl, fun _ => h6.right.cell 0⟩, ⟨fun _ => by kernel_rfl, fun h => till_gone (by kernel_rfl) h⟩⟩ (fun hHeld => ?_)
        clear hK K
        refine anyL_ready (rs := [6]) (by kernel_rfl) (by simp) ?_
        refine OneOf.cons rfl (fun K hK => ?_) OneOf.nil
        refine step_append_has rfl (.tmp 19) (.tmp 24) 64 rfl Try.underlying64 elemMp _ _ _ (by simp [Act.eval]) h6 ⟨w5.heap.size, 0, none⟩ 1 1 m.cells (by simp [Act.eval]) rfl (news_many w5 m.cells 24) (oneMp m) (by unfold maxLen; omega) (by omega) ?_
        intro A' c' w7 h7 x7
        try go_simp
        refine hK.out _ _ ⟨⟨fun _ => by kernel_rfl, fun h => till_gone (by kernel_rfl) h⟩, ⟨fun _ => by kernel_rfl, fun h => till_gone (by kernel_rfl) h⟩⟩ (fun hHeld => ?_)
        clear hK K
        have y0 := h7.right.cell 0
        have y1 := h7.right.free 0
        have yl := h7.right.lt
        refine anyL_ready (rs := [7]) (by kernel_rfl) (by simp) ?_
        refine OneOf.cons rfl (fun K hK => ?_) OneOf.nil
        go_simp
        refine hK.out _ _ ⟨⟨fun _ => by kernel_rfl, fun h => till_gone (by kernel_rfl) h⟩, ⟨fun _ => by kernel_rfl, fun h => till_gone (by kernel_rfl) h⟩⟩ (fun hHeld => ?_)
        clear hK K
        refine anyL_done (by kernel_rfl) ?_
        have hfin : Has (w7.setCell ⟨O, 0, none⟩ (.slice A' ((mapsOf vs).length + 1) c')) (gathM O (vs ++ [⟨t, j, at_, ⟨th, true, rg, us, di, fr⟩⟩]) * P) := by
          refine gathM_shut (A := A') (c := c') ?_
          unfold mrow
          rw [hm.out, mcells_snoc, List.length_append, List.length_singleton]
          exact h7.p2.set 0 _
        go_wp2_with fail
        exact bodyPost_ret (v := .tuple #[]) (by simp [results, Try.results77]) rfl ⟨rfl, hfin, ((x5.alloc _).trans x7).set _ _⟩
/-- What List hands back. -/
def listM (y : Vs) : List Mp := if y.code = 0 then mapsOf y.vs else []
def ListedM (y : Vs) (R : HProp) (w : World) (e : Ending) (w' : World) : Prop :=
  ∃ A c, e = .returned (.tuple #[.slice A (listM y).length c, (Value.int .i64) y.code]) ∧ Has w' (mrow (.slice A (listM y).length c) (listM y) * R) ∧ Ext w w'
theorem list_any (f : Nat) (s : Ms) (root : Int) (R : HProp) (w : World) (hs : s.Ok) (h : Has w (framesAt f s * R)) :
    Calls Try.prog 33 #[.pointer (some ⟨f, 0, none⟩), (Value.int .i64) root] w (ListedM (eachV s 3 root 0) (framesAt f s * R) w) := by
  have hmf : ∀ (fn : Fn) (first cap : Array Value) (w : World), (Instr.makeFunc fn first cap).run Try.prog w = .ok (.func fn first cap) w := fun _ _ _ _ => rfl
  have h1 := h.new #[.slice none 0 0] 64
  have h2 : Has (w.alloc (.cells #[.slice none 0 0] 64)) (gathM w.heap.size [] * (framesAt f s * R)) := gathM_shut (A := none) (c := 0) (Has.p2 (Has.rowNil h1))
  have x1 := (Ext.refl w).alloc (.cells #[.slice none 0 0] 64)
  have hE := each_any f s hs 77 #[.pointer (some ⟨w.heap.size, 0, none⟩)] (enters_of Try.func77 (by kernel_rfl) rfl) (gathM w.heap.size) 5000
    (fun P vs v W hv hl h => seeM w.heap.size P vs v W hv hl h) 3 (by omega) R root 0 [] _ (by omega) (by decide) (by decide) h2
  rw [List.nil_append] at hE
  have hln := Lib.hid (show (listM (eachV s 3 root 0)) = if (eachV s 3 root 0).code = 0 then mapsOf (eachV s 3 root 0).vs else [] from rfl)
  generalize eachV s 3 root 0 = y at *
  by_cases hc : y.code = 0
  · have hm : listM y = mapsOf y.vs := by rw [hln.out, if_pos hc]
    have HM := Lib.hid hm
    clear hm
    go_enter Try.func33, Try.ntmps33
    go_wp2_with (refine hE.mono ?_; rintro e w2 ⟨rfl, h3, x3⟩; obtain ⟨A, c, h4⟩ := gathM_open h3; have c0 := h4.cell 0; have cl := h4.lt)
    exact bodyPost_ret (v := .tuple #[.slice A (mapsOf y.vs).length c, (Value.int .i64) 0]) (by simp [results, Try.results33]) rfl ⟨A, c, by rw [HM.out, hc], by rw [HM.out]; exact h4.right, x1.trans x3⟩
  · have hm : listM y = [] := by rw [hln.out, if_neg hc]
    have HM := Lib.hid hm
    have hn : (y.code != 0) = true := by simpa using hc
    clear hm
    go_enter Try.func33, Try.ntmps33
    go_wp2_with (refine hE.mono ?_; rintro e w2 ⟨rfl, h3, x3⟩)
    exact bodyPost_ret (v := .tuple #[.slice none 0 0, (Value.int .i64) y.code]) (by simp [results, Try.results33]) rfl ⟨none, 0, by rw [HM.out]; rfl, by rw [HM.out]; exact Has.rowNil h3.right, x1.trans x3⟩
/-- What Tables has gathered, at block O. -/
def gathT (O : Nat) (root : Int) (vs : List Vis) : HProp := ex fun A => ex fun c => blk O #[.slice A (root :: tabsOf vs).length c] 36 * irow (.slice A (root :: tabsOf vs).length c) (root :: tabsOf vs)
theorem gathT_open {O : Nat} {root : Int} {vs : List Vis} {P : HProp} {w : World} (h : Has w (gathT O root vs * P)) : ∃ A c, Has w (blk O #[.slice A (root :: tabsOf vs).length c] 36 * (irow (.slice A (root :: tabsOf vs).length c) (root :: tabsOf vs) * P)) := by
  unfold gathT at h
  obtain ⟨A, h⟩ := has_ex_star.1 h
  obtain ⟨c, h⟩ := has_ex_star.1 h
  exact ⟨A, c, h.a1⟩
theorem gathT_shut {O c : Nat} {root : Int} {A : Option Addr} {vs : List Vis} {P : HProp} {w : World} (h : Has w (blk O #[.slice A (root :: tabsOf vs).length c] 36 * (irow (.slice A (root :: tabsOf vs).length c) (root :: tabsOf vs) * P))) : Has w (gathT O root vs * P) := by
  unfold gathT
  exact has_ex_star.2 ⟨A, has_ex_star.2 ⟨c, h.a2⟩⟩
theorem seeT (O : Nat) (root : Int) (P : HProp) (vs : List Vis) (v : Vis) (W : World) (_ : VOk v) (hl : vs.length < 5000) (h : Has W (gathT O root vs * P)) :
    Calls Try.prog 83 #[(Value.int .i64) v.t, (Value.int .i64) v.lev, (Value.int .i64) v.at_, .agg #[Value.bool v.e.there, Value.bool v.e.leaf, (Value.int .i64) v.e.rights, Value.bool v.e.used, Value.bool v.e.dirty, (Value.int .i64) v.e.frame], .pointer (some ⟨O, 0, none⟩)] W (Res (.tuple #[]) (gathT O root (vs ++ [v]) * P) W) := by
  obtain ⟨A, c, h⟩ := gathT_open h
  have hml := tabsOf_len vs
  obtain ⟨t, lev, at_, ⟨th, lf, rg, us, di, fr⟩⟩ := v
  dsimp only at *
  have h1 := h.new #[Value.bool th, Value.bool lf, (Value.int .i64) rg, Value.bool us, Value.bool di, (Value.int .i64) fr] 50
  have x1 := (Ext.refl W).alloc (.cells #[Value.bool th, Value.bool lf, (Value.int .i64) rg, Value.bool us, Value.bool di, (Value.int .i64) fr] 50)
  obtain ⟨e0, e1, e2, e3, e4, e5⟩ := h1.cells6
  have el := h1.lt
  by_cases hn : th = true ∧ lf = false
  · obtain ⟨rfl, rfl⟩ := hn
    have hm := Lib.hid (show root :: tabsOf (vs ++ [⟨t, lev, at_, ⟨true, false, rg, us, di, fr⟩⟩]) = (root :: tabsOf vs) ++ [fr] by rw [tabsOf_append]; simp [tabsOf])
    have c0 := h1.right.cell 0
    have f0 := h1.right.free 0
    have cl := h1.right.lt
    have hrow : Has ((W.alloc (.cells #[Value.bool true, Value.bool false, (Value.int .i64) rg, Value.bool us, Value.bool di, (Value.int .i64) fr] 50)).alloc (.cells #[(Value.int .i64) fr] 3)) (row 3 1 (.slice A ((tabsOf vs).length + 1) c) ((tabsOf vs).length + 1) ((root :: tabsOf vs).map (Value.int .i64)) * (blk O #[.slice A (root :: tabsOf vs).length c] 36 * P)) := h1.right.p2.alloc (.cells #[(Value.int .i64) fr] 3)
    have hnw := news_one (W.alloc (.cells #[Value.bool true, Value.bool false, (Value.int .i64) rg, Value.bool us, Value.bool di, (Value.int .i64) fr] 50)) ((Value.int .i64) fr) 3
    simp only [World.size_alloc] at hnw
    have HNW := Lib.hid hnw
    clear hnw
    go_enter Try.func83, Try.ntmps83
    go_wp2_with (at_builtin; (refine wpList_append_has rfl _ _ 36 rfl Try.underlying36 elemI _ _ _ rfl hrow ⟨W.heap.size + 1, 0, none⟩ 1 1 [(Value.int .i64) fr] rfl rfl HNW.out ?k1 ?k2 ?k3 ?_))
    case k1 => exact one_int fr
    case k2 => unfold maxLen; omega
    case k3 => omega
    intro v' w7 h7 x7
    obtain ⟨A', c', rfl⟩ := h7.rowForm
    have y0 := h7.right.cell 0
    have y1 := h7.right.free 0
    have yl := h7.right.lt
    have hfin : Has (w7.setCell ⟨O, 0, none⟩ (.slice A' ((tabsOf vs).length + 1 + 1) c')) (gathT O root (vs ++ [⟨t, lev, at_, ⟨true, false, rg, us, di, fr⟩⟩]) * P) := by
      refine gathT_shut (A := A') (c := c') ?_
      unfold irow
      rw [hm.out, List.length_append, List.length_singleton, List.map_append]
      exact h7.p2.set 0 _
    go_wp2_with fail
    exact bodyPost_ret (v := .tuple #[]) (by simp [results, Try.results83]) rfl ⟨rfl, hfin, ((x1.alloc _).trans x7).set _ _⟩
  · have hm : tabsOf (vs ++ [⟨t, lev, at_, ⟨th, lf, rg, us, di, fr⟩⟩]) = tabsOf vs := by
      rw [tabsOf_append]
      unfold tabsOf
      rw [List.filterMap_cons]
      dsimp only
      rw [if_neg hn]
      simp
    have hfin : Has (W.alloc (.cells #[Value.bool th, Value.bool lf, (Value.int .i64) rg, Value.bool us, Value.bool di, (Value.int .i64) fr] 50)) (gathT O root (vs ++ [⟨t, lev, at_, ⟨th, lf, rg, us, di, fr⟩⟩]) * P) := by
      refine gathT_shut (A := A) (c := c) ?_
      rw [hm]
      exact h1.right
    cases th with
    | false =>
      go_enter Try.func83, Try.ntmps83
      go_wp2_with fail
      exact bodyPost_ret (v := .tuple #[]) (by simp [results, Try.results83]) rfl ⟨rfl, hfin, x1⟩
    | true =>
      cases lf with
      | false => exact absurd ⟨rfl, rfl⟩ hn
      | true =>
        go_enter Try.func83, Try.ntmps83
        go_wp2_with fail
        exact bodyPost_ret (v := .tuple #[]) (by simp [results, Try.results83]) rfl ⟨rfl, hfin, x1⟩
def listTb (y : Vs) (root : Int) : List Int := if y.code = 0 then root :: tabsOf y.vs else []
def ListedT (y : Vs) (root : Int) (R : HProp) (w : World) (e : Ending) (w' : World) : Prop :=
  ∃ A c, e = .returned (.tuple #[.slice A (listTb y root).length c, (Value.int .i64) y.code]) ∧ Has w' (irow (.slice A (listTb y root).length c) (listTb y root) * R) ∧ Ext w w'
theorem tables_any (f : Nat) (s : Ms) (root : Int) (R : HProp) (w : World) (hs : s.Ok) (h : Has w (framesAt f s * R)) :
    Calls Try.prog 38 #[.pointer (some ⟨f, 0, none⟩), (Value.int .i64) root] w (ListedT (eachV s 3 root 0) root (framesAt f s * R) w) := by
  have hmf : ∀ (fn : Fn) (first cap : Array Value) (w : World), (Instr.makeFunc fn first cap).run Try.prog w = .ok (.func fn first cap) w := fun _ _ _ _ => rfl
  have h0 := h.new #[(Value.int .i64) root] 3
  have h1 := h0.new #[.slice (some ⟨w.heap.size, 0, none⟩) 1 1] 36
  simp only [World.size_alloc] at h1
  have h2 : Has ((w.alloc (.cells #[(Value.int .i64) root] 3)).alloc (.cells #[.slice (some ⟨w.heap.size, 0, none⟩) 1 1] 36)) (gathT (w.heap.size + 1) root [] * (framesAt f s * R)) :=
    gathT_shut (A := some ⟨w.heap.size, 0, none⟩) (c := 1) (Has.p2 (Has.rowOf (xs := [(Value.int .i64) root]) (n := 1) (size := 1) (Has.p2 h1) rfl (Nat.le_refl 1) (by unfold maxLen; omega) rfl rfl))
  have x1 := ((Ext.refl w).alloc (.cells #[(Value.int .i64) root] 3)).alloc (.cells #[.slice (some ⟨w.heap.size, 0, none⟩) 1 1] 36)
  have hE := each_any f s hs 83 #[.pointer (some ⟨w.heap.size + 1, 0, none⟩)] (enters_of Try.func83 (by kernel_rfl) rfl) (gathT (w.heap.size + 1) root) 5000
    (fun P vs v W hv hl h => seeT (w.heap.size + 1) root P vs v W hv hl h) 3 (by omega) R root 0 [] _ (by omega) (by decide) (by decide) h2
  rw [List.nil_append] at hE
  have hln := Lib.hid (show listTb (eachV s 3 root 0) root = if (eachV s 3 root 0).code = 0 then root :: tabsOf (eachV s 3 root 0).vs else [] from rfl)
  generalize eachV s 3 root 0 = y at *
  by_cases hc : y.code = 0
  · have hm : listTb y root = root :: tabsOf y.vs := by rw [hln.out, if_pos hc]
    have HM := Lib.hid hm
    clear hm
    go_enter Try.func38, Try.ntmps38
    go_wp2_with (refine hE.mono ?_; rintro e w2 ⟨rfl, h3, x3⟩; obtain ⟨A, c, h4⟩ := gathT_open h3; have c0 := h4.cell 0; have cl := h4.lt)
    exact bodyPost_ret (v := .tuple #[.slice A (root :: tabsOf y.vs).length c, (Value.int .i64) 0]) (by simp [results, Try.results38]) rfl ⟨A, c, by rw [HM.out, hc], by rw [HM.out]; exact h4.right, x1.trans x3⟩
  · have hm : listTb y root = [] := by rw [hln.out, if_neg hc]
    have HM := Lib.hid hm
    have hn : (y.code != 0) = true := by simpa using hc
    clear hm
    go_enter Try.func38, Try.ntmps38
    go_wp2_with (refine hE.mono ?_; rintro e w2 ⟨rfl, h3, x3⟩)
    exact bodyPost_ret (v := .tuple #[.slice none 0 0, (Value.int .i64) y.code]) (by simp [results, Try.results38]) rfl ⟨none, 0, by rw [HM.out]; rfl, by rw [HM.out]; exact Has.rowNil h3.right, x1.trans x3⟩
end Go.Proofs.Ytegkimecdonfgaa
namespace Go.Proofs.Ytegkimecdonfgaa
open Go.RowKit
def frA (f : Nat) (s : Ms) : HProp := ex fun s' => lift (s'.Ok ∧ Agree s' s) * framesAt f s'
section
variable {f : Nat} {s : Ms} {R : HProp} {w : World}
theorem frA_open (h : Has w (frA f s * R)) : ∃ s', s'.Ok ∧ Agree s' s ∧ Has w (framesAt f s' * R) := by
  unfold frA at h
  obtain ⟨s', h⟩ := has_ex_star.1 h
  rw [star_assoc] at h
  obtain ⟨⟨a, b⟩, h⟩ := has_lift.1 h
  exact ⟨s', a, b, h⟩
theorem frA_shut {s' : Ms} (h : Has w (framesAt f s' * R)) (ho : s'.Ok) (ha : Agree s' s) : Has w (frA f s * R) := by
  unfold frA
  refine has_ex_star.2 ⟨s', ?_⟩
  rw [star_assoc]
  exact has_lift.2 ⟨⟨ho, ha⟩, h⟩
end
section
variable (f : Nat) (s : Ms) (R : HProp) (w : World) (h : Has w (frA f s * R))
include h
theorem insA (root : Int) (x : Mp) : Calls Try.prog 13 #[.pointer (some ⟨f, 0, none⟩), (Value.int .i64) root, .agg #[(Value.int .i64) x.page, (Value.int .i64) x.size, (Value.int .i64) x.frame, (Value.int .i64) x.rights]] w (Res ((Value.int .i64) (insC s root x)) (frA f (insS s root x) * R) w) := by
  obtain ⟨s', ho, ha, h'⟩ := frA_open h
  refine (insT f s' root x R w ho h').mono ?_
  rintro e w' ⟨s2, ho2, ha2, he, h2, x2⟩
  rw [ha.insC] at he
  exact ⟨he, frA_shut h2 ho2 (ha2.trans (ha.insS root x)), x2⟩
omit h in
/-- What Remove comes to. -/
def RemovedA (f : Nat) (s : Ms) (r p : Int) (R : HProp) (w : World) (e : Ending) (w' : World) : Prop :=
  ∃ A n c, Res (.tuple #[(findM s r p).val, .slice A n c, (Value.int .i64) (findC s r p)]) (irow (.slice A n c) (remG s r p) * (frA f (remS s r p) * R)) w e w'
theorem remA (root p : Int) : Calls Try.prog 15 #[.pointer (some ⟨f, 0, none⟩), (Value.int .i64) root, (Value.int .i64) p] w (RemovedA f s root p R w) := by
  obtain ⟨s', ho, ha, h'⟩ := frA_open h
  refine (remT f s' root p R w ho h').mono ?_
  rintro e w' ⟨A, n, c, he, h2, x2⟩
  obtain ⟨ag, eg⟩ := ha.rem root p
  rw [ha.findC, ha.findM] at he
  rw [eg] at h2
  exact ⟨A, n, c, he, (frA_shut h2.p2 (remS_ok ho root p) ag).p2, x2⟩
theorem prA (root p ri : Int) : Calls Try.prog 19 #[.pointer (some ⟨f, 0, none⟩), (Value.int .i64) root, (Value.int .i64) p, (Value.int .i64) ri] w (Res (.tuple #[(prM s root p ri).val, (Value.int .i64) (prC s root p ri)]) (frA f (prS s root p ri) * R) w) := by
  obtain ⟨s', ho, ha, h'⟩ := frA_open h
  refine (prT f s' root p ri R w ho h').mono ?_
  rintro e w' ⟨he, h2, x2⟩
  obtain ⟨ag, ec, em⟩ := ha.pr root p ri
  rw [ec, em] at he
  exact ⟨he, frA_shut h2 (prS_ok ho root p ri) ag, x2⟩
theorem giveA (k : Int) : Calls Try.prog 17 #[.pointer (some ⟨f, 0, none⟩), .int .i64 k] w (Res (Value.bool (s.has k)) (frA f (s.giveS k) * R) w) := by
  obtain ⟨s', ho, ha, h'⟩ := frA_open h
  refine (giveF f s' k R w h' ho).mono ?_
  rintro e w' ⟨he, h2, x2⟩
  rw [ha.has] at he
  exact ⟨he, frA_shut h2 (ho.giveS k) (ha.giveS k), x2⟩
theorem freeA : Calls Try.prog 25 #[.pointer (some ⟨f, 0, none⟩)] w (Same ((Value.int .i64) (s.frees.length : Nat)) w) := by
  obtain ⟨s', ho, ha, h'⟩ := frA_open h
  have := freeF f s' R w h'
  rw [ha.fr] at this
  exact this
theorem takenA (k : Int) : Calls Try.prog 42 #[.pointer (some ⟨f, 0, none⟩), .int .i64 k] w (Same (Value.bool (s.has k)) w) := by
  obtain ⟨s', ho, ha, h'⟩ := frA_open h
  have := takenF f s' k R w h'
  rw [ha.has] at this
  exact this
theorem listA (root : Int) : Calls Try.prog 33 #[.pointer (some ⟨f, 0, none⟩), (Value.int .i64) root] w (ListedM (eachV s 3 root 0) (frA f s * R) w) := by
  obtain ⟨s', ho, ha, h'⟩ := frA_open h
  have := list_any f s' root R w ho h'
  rw [ha.eachV] at this
  refine this.mono ?_
  rintro e w' ⟨A, c, he, h2, x2⟩
  exact ⟨A, c, he, (frA_shut h2.p2 ho ha).p2, x2⟩
theorem tablesA (root : Int) : Calls Try.prog 38 #[.pointer (some ⟨f, 0, none⟩), (Value.int .i64) root] w (ListedT (eachV s 3 root 0) root (frA f s * R) w) := by
  obtain ⟨s', ho, ha, h'⟩ := frA_open h
  have := tables_any f s' root R w ho h'
  rw [ha.eachV] at this
  refine this.mono ?_
  rintro e w' ⟨A, c, he, h2, x2⟩
  exact ⟨A, c, he, (frA_shut h2.p2 ho ha).p2, x2⟩
end
end Go.Proofs.Ytegkimecdonfgaa
namespace Go.Proofs.Ytegkimecdonfgaa
open Go.RowKit
section
variable {s : Ms} {r : Int} {gone : List Int} {X : Int → Prop}
theorem scan_code (s : Ms) (L : Nat) (t a : Int) : ∀ is : List Nat, (∀ i ∈ is, decC (wordV s t i) L = 0 ∧ ((decE (wordV s t i) L).there = true ∧ (decE (wordV s t i) L).leaf = false → (subV s L (decE (wordV s t i) L).frame (a * 8 + i)).code = 0)) → (scanV s L t a (subV s L) is).code = 0
  | [], _ => rfl
  | i :: is, h => by
    obtain ⟨h1, h2⟩ := h i (List.mem_cons_self ..)
    have ih := scan_code s L t a is fun j hj => h j (List.mem_cons_of_mem _ hj)
    unfold scanV
    rw [if_neg (by rw [h1]; simp)]
    dsimp only
    by_cases he : (decE (wordV s t i) L).there = true ∧ (decE (wordV s t i) L).leaf = false
    · rw [if_pos he, if_neg (by rw [h2 he]; simp)]
      exact ih
    · rw [if_neg he, if_neg (by simp)]
      exact ih
/-- What a look over all entries below a table comes to. -/
structure AllOk (s : Ms) (r : Int) (L : Nat) (t a : Int) : Prop where
  code : (eachV s L t a).code = 0
  maps : ∀ m ∈ mapsOf (eachV s L t a).vs, MapOk m ∧ a * pow8 (L + 1) ≤ m.page ∧ m.page + span m.size ≤ (a + 1) * pow8 (L + 1)
  up : (mapsOf (eachV s L t a).vs).Pairwise fun x y => x.page + span x.size ≤ y.page
  tabs : ∀ u, u ∈ tabsOf (eachV s L t a).vs ↔ ∃ q e, InP q ∧ q / pow8 (L + 1) = a ∧ 3 - L < e ∧ e ≤ 3 ∧ tabD s r q e = some u
  nd : (tabsOf (eachV s L t a).vs).Nodup
theorem pre_at {q a : Int} {L i : Nat} (hq : InP q) (hL : L ≤ 3) (h : q / pow8 (L + 1) = a) (hi : index q L = i) : q / pow8 L = a * 8 + i := by
  have h0 := pow8_pos L
  rw [pow8_succ, Int.mul_comm, ← Int.ediv_ediv_of_nonneg (by omega)] at h
  unfold index at hi
  rw [if_pos ⟨hq.1, hq.2, by omega, by omega⟩, Int.toNat_natCast] at hi
  omega
/-- What one entry gives. -/
structure OneOk (s : Ms) (r : Int) (L : Nat) (t a : Int) (i : Nat) : Prop where
  code : decC (wordV s t i) L = 0 ∧ ((decE (wordV s t i) L).there = true ∧ (decE (wordV s t i) L).leaf = false → (subV s L (decE (wordV s t i) L).frame (a * 8 + i)).code = 0)
  maps : ∀ m ∈ contr s L t a i, MapOk m ∧ (a * 8 + i) * pow8 L ≤ m.page ∧ m.page + span m.size ≤ (a * 8 + i + 1) * pow8 L
  up : (contr s L t a i).Pairwise fun x y => x.page + span x.size ≤ y.page
  tabs : ∀ u, u ∈ contrT s L t a i ↔ ∃ q e, InP q ∧ q / pow8 L = a * 8 + i ∧ 3 - L < e ∧ e ≤ 3 ∧ tabD s r q e = some u
  nd : (contrT s L t a i).Nodup
theorem leaf_mapOk {w : Int} {L : Nat} {p : Int} (hp : InP p) (hc : decC w L = 0) (hl : (decE w L).leaf = true) : MapOk (leafMap (decE w L) L p) ∧ leafMap (decE w L) L p = ⟨p / pow8 L * pow8 L, L, (decE w L).frame, (decE w L).rights⟩ ∧ L < 3 := by
  obtain ⟨ht, _, h3, _, hf⟩ := dec_leaf hc hl
  have h3' : L < 3 := by omega
  have hs := span_pow h3'
  have e1 := leafMap_eq hp hf hl hs
  have hk := entOk_of hf ht
  have hL := (hk.leaf hl).2
  rw [hs] at hL
  have k1 := hk.r0; have k2 := hk.r7; have k3 := hk.f0; have k4 := hk.f1
  have hp' : 0 ≤ p ∧ p < 4096 := hp
  refine ⟨?_, e1, h3'⟩
  rw [e1]
  refine mapOk_of ?_
  unfold check
  dsimp only
  rw [hs]
  have h8 := pow8_pos L
  have hd : L = 0 ∨ L = 1 ∨ L = 2 := by omega
  rw [if_neg (by omega), if_neg, if_neg]
  · rw [Int.mul_emod_left]; omega
  · generalize (decE w L).rights = ri at *
    generalize (decE w L).frame = fr at *
    clear e1 ht hl hf hk hL hs h8 hc
    rcases hd with h | h | h <;> rw [h] <;> simp only [pow8] <;> omega
theorem one_ok (hw : Wf s r gone X) {L : Nat} (hL : L ≤ 3) {p t a : Int} (hp : InP p) (ht : tabD s r p (3 - L) = some t) (ha : p / pow8 (L + 1) = a) (i : Nat) (hi : i < 8)
    (ih : ∀ K, L = K + 1 → ∀ {q u : Int}, InP q → tabD s r q (3 - K) = some u → AllOk s r K u (q / pow8 (K + 1))) : OneOk s r L t a i := by
  obtain ⟨q, hq, hpre, hix, hmod⟩ := page_at hp hL i hi
  rw [ha] at hpre
  have hq8 := pre_at hq hL hpre hix
  have e33 : 3 - (3 - L) = L := by omega
  have hqt : tabD s r q (3 - L) = some t := by
    rw [← ht]
    refine tabD_prefix s r hq hp (3 - L) (by omega) ?_
    rw [show 4 - (3 - L) = L + 1 by omega, hpre, ha]
  have hdec : decC (wordV s t i) L = 0 := by
    have := hw.dec hq (show 3 - L ≤ 3 by omega) hqt i hi
    rw [e33] at this
    exact this
  have h0 := pow8_pos L
  have hqe : q = (a * 8 + i) * pow8 L := by
    have := Int.mul_ediv_add_emod q (pow8 L)
    rw [hq8, hmod] at this
    rw [Int.mul_comm]
    omega
  by_cases hl : (decE (wordV s t i) L).leaf = true
  · obtain ⟨m1, m2, h3⟩ := leaf_mapOk hq hdec hl
    have hc : contr s L t a i = [leafMap (decE (wordV s t i) L) L q] := by
      unfold contr
      dsimp only
      rw [if_pos hl, hqe]
    have hT : contrT s L t a i = [] := by
      unfold contrT
      dsimp only
      rw [if_neg (by rw [hl]; simp)]
    refine ⟨⟨hdec, fun h => by rw [hl] at h; cases h.2⟩, fun m hm => ?_, ?_, fun u => ?_, by rw [hT]; exact List.nodup_nil⟩
    · rw [hc, List.mem_singleton] at hm
      subst hm
      refine ⟨m1, ?_, ?_⟩
      · rw [m2, hq8]; exact Int.le_refl _
      · rw [m2, hq8]
        dsimp only
        rw [span_pow h3]
        have : (a * 8 + (i : Int) + 1) * pow8 L = (a * 8 + i) * pow8 L + pow8 L := by rw [Int.add_mul (a * 8 + i) 1, Int.one_mul]
        omega
    · rw [hc]; exact List.pairwise_singleton _ _
    · rw [hT]
      constructor
      · intro h; cases h
      · rintro ⟨x, e, hx, hx8, h1, h2, h3⟩
        exfalso
        have hxt : tabD s r x (3 - L) = some t := by
          rw [← hqt]
          refine tabD_prefix s r hx hq (3 - L) (by omega) ?_
          rw [show 4 - (3 - L) = L + 1 by omega]
          exact div_up (by omega) (hx8.trans hq8.symm)
        have hxi : index x L = i := by rw [index_div hx hq (hx8.trans hq8.symm)]; exact hix
        have hg : goB s x t (3 - (3 - L)) = false := by
          rw [e33]
          unfold goB eOf
          rw [hxi, hl]
          simp
        rw [tabD_none_mono (tabD_none hxt hg) e (by omega)] at h3
        cases h3
  · have hl' : (decE (wordV s t i) L).leaf = false := by simpa using hl
    by_cases hth : (decE (wordV s t i) L).there = true
    · -- a table
      have hg : goB s q t L = true := by
        refine goB_iff.2 ⟨(hw.at_ hq (show 3 - L ≤ 3 by omega) hqt).1, by rw [hix]; exact hdec, ?_, ?_⟩
        · unfold eOf; rw [hix]; exact hth
        · unfold eOf; rw [hix]; exact hl'
      cases L with
      | zero =>
        exfalso
        rcases dec0_leaf hdec with h | h
        · have h' : (decE (wordV s t i) (0 : Nat)).there = false := h
          rw [h'] at hth; cases hth
        · exact hl h
      | succ K =>
        have hv : tabD s r q (3 - K) = some (decE (wordV s t i) (K + 1 : Nat)).frame := by
          rw [show 3 - K = 3 - (K + 1) + 1 by omega]
          refine tabD_succ.2 ⟨t, hqt, by rw [e33]; exact hg, ?_⟩
          rw [e33]
          unfold eOf
          rw [hix]
        have hA := ih K rfl hq hv
        rw [hq8] at hA
        have hc : contr s (K + 1) t a i = mapsOf (eachV s K (decE (wordV s t i) (K + 1 : Nat)).frame (a * 8 + i)).vs := by
          unfold contr
          dsimp only
          rw [if_neg hl, if_pos hth]
          rfl
        have hT : contrT s (K + 1) t a i = (decE (wordV s t i) (K + 1 : Nat)).frame :: tabsOf (eachV s K (decE (wordV s t i) (K + 1 : Nat)).frame (a * 8 + i)).vs := by
          unfold contrT
          dsimp only
          rw [if_pos ⟨hth, hl'⟩]
          rfl
        refine ⟨⟨hdec, fun _ => hA.code⟩, fun m hm => ?_, by rw [hc]; exact hA.up, fun u => ?_, ?_⟩
        · rw [hc] at hm
          exact hA.maps m hm
        · rw [hT, List.mem_cons, hA.tabs u]
          constructor
          · rintro (rfl | ⟨x, e, hx, hx8, h1, h2, h3⟩)
            · exact ⟨q, 3 - K, hq, hq8, by omega, by omega, hv⟩
            · exact ⟨x, e, hx, hx8, by omega, h2, h3⟩
          · rintro ⟨x, e, hx, hx8, h1, h2, h3⟩
            by_cases he : e = 3 - K
            · subst he
              have : tabD s r x (3 - K) = tabD s r q (3 - K) := by
                refine tabD_prefix s r hx hq (3 - K) (by omega) ?_
                rw [show 4 - (3 - K) = K + 1 by omega]
                exact hx8.trans hq8.symm
              rw [h3, hv] at this
              injection this with this
              exact .inl this
            · exact .inr ⟨x, e, hx, hx8, by omega, h2, h3⟩
        · rw [hT, List.nodup_cons]
          refine ⟨fun hm => ?_, hA.nd⟩
          obtain ⟨x, e, hx, hx8, h1, h2, h3⟩ := (hA.tabs _).1 hm
          have := (hw.inj x q e (3 - K) _ hx hq h2 (by omega) h3 hv).1
          omega
    · -- nothing
      have hc : contr s L t a i = [] := by
        unfold contr
        dsimp only
        rw [if_neg hl, if_neg hth]
      have hT : contrT s L t a i = [] := by
        unfold contrT
        dsimp only
        rw [if_neg (fun h => hth h.1)]
      refine ⟨⟨hdec, fun h => absurd h.1 hth⟩, fun m hm => (by rw [hc] at hm; cases hm), (by rw [hc]; exact List.Pairwise.nil), fun u => ?_, (by rw [hT]; exact List.nodup_nil)⟩
      rw [hT]
      constructor
      · intro h; cases h
      · rintro ⟨x, e, hx, hx8, h1, h2, h3⟩
        exfalso
        have hxt : tabD s r x (3 - L) = some t := by
          rw [← hqt]
          refine tabD_prefix s r hx hq (3 - L) (by omega) ?_
          rw [show 4 - (3 - L) = L + 1 by omega]
          exact div_up (by omega) (hx8.trans hq8.symm)
        have hxi : index x L = i := by rw [index_div hx hq (hx8.trans hq8.symm)]; exact hix
        have hth' : (decE (wordV s t i) L).there = false := by simpa using hth
        have hg : goB s x t (3 - (3 - L)) = false := by
          rw [e33]
          unfold goB eOf
          rw [hxi, hth']
          simp
        rw [tabD_none_mono (tabD_none hxt hg) e (by omega)] at h3
        cases h3
theorem all_step (hw : Wf s r gone X) {L : Nat} (hL : L ≤ 3) {p t : Int} (hp : InP p) (ht : tabD s r p (3 - L) = some t)
    (ih : ∀ K, L = K + 1 → ∀ {q u : Int}, InP q → tabD s r q (3 - K) = some u → AllOk s r K u (q / pow8 (K + 1))) : AllOk s r L t (p / pow8 (L + 1)) := by
  have hone := fun i hi => one_ok hw hL hp ht rfl i hi ih
  generalize hpa : p / pow8 (L + 1) = a at *
  have hhas := (hw.at_ hp (show 3 - L ≤ 3 by omega) ht).1
  have hcode : (scanV s L t a (subV s L) (List.range 8)).code = 0 := scan_code s L t a _ fun i hi => (hone i (List.mem_range.1 hi)).code
  obtain ⟨_, hm, hT⟩ := scan_ok s L t a (List.range 8) hcode
  have ee : eachV s L t a = scanV s L t a (subV s L) (List.range 8) := by rw [eachV_eq, hhas]; rfl
  have h8 := pow8_pos L
  have hexp : a * pow8 (L + 1) = a * 8 * pow8 L := by rw [pow8_succ, Int.mul_assoc]
  have hexp1 : (a + 1) * pow8 (L + 1) = a * 8 * pow8 L + 8 * pow8 L := by rw [Int.add_mul, Int.one_mul, hexp, pow8_succ]
  have hrg : ∀ i : Nat, (a * 8 + (i : Int)) * pow8 L = a * 8 * pow8 L + i * pow8 L := fun i => Int.add_mul _ _ _
  have hrg1 : ∀ i : Nat, (a * 8 + (i : Int) + 1) * pow8 L = a * 8 * pow8 L + i * pow8 L + pow8 L := fun i => by rw [Int.add_mul, Int.add_mul, Int.one_mul]
  have hmul : ∀ i j : Nat, i ≤ j → (i : Int) * pow8 L ≤ j * pow8 L := fun i j h => Int.mul_le_mul_of_nonneg_right (by omega) (by omega)
  refine ⟨by rw [ee]; exact hcode, fun m hmm => ?_, ?_, fun u => ?_, ?_⟩
  · rw [ee, hm] at hmm
    obtain ⟨i, hi, hmi⟩ := List.mem_flatMap.1 hmm
    have hi8 := List.mem_range.1 hi
    obtain ⟨c1, c2, c3⟩ := (hone i hi8).maps m hmi
    rw [hrg] at c2
    rw [hrg1] at c3
    have a1 := hmul 0 i (by omega)
    have a2 := hmul (i + 1) 8 (by omega)
    refine ⟨c1, by rw [hexp]; simp at a1; omega, ?_⟩
    rw [hexp1]
    have e2 : ((i + 1 : Nat) : Int) * pow8 L = i * pow8 L + pow8 L := by rw [Int.natCast_add, Int.add_mul]; simp
    have e3 : ((8 : Nat) : Int) * pow8 L = 8 * pow8 L := rfl
    omega
  · rw [ee, hm, List.pairwise_flatMap]
    refine ⟨fun i hi => (hone i (List.mem_range.1 hi)).up, ?_⟩
    rw [List.pairwise_iff_getElem]
    intro i j hi hj hij x hx y hy
    simp only [List.length_range] at hi hj
    simp only [List.getElem_range] at hx hy
    obtain ⟨_, _, c3⟩ := (hone i hi).maps x hx
    obtain ⟨_, d2, _⟩ := (hone j hj).maps y hy
    rw [hrg1] at c3
    rw [hrg] at d2
    have a2 := hmul (i + 1) j (by omega)
    have e2 : ((i + 1 : Nat) : Int) * pow8 L = i * pow8 L + pow8 L := by rw [Int.natCast_add, Int.add_mul]; simp
    omega
  · rw [ee, hT, List.mem_flatMap]
    constructor
    · rintro ⟨i, hi, hu⟩
      obtain ⟨q, e, hq, hq8, h1, h2, h3⟩ := ((hone i (List.mem_range.1 hi)).tabs u).1 hu
      refine ⟨q, e, hq, ?_, h1, h2, h3⟩
      rw [pow8_succ, Int.mul_comm, ← Int.ediv_ediv_of_nonneg (by omega), hq8]
      have := List.mem_range.1 hi
      omega
    · rintro ⟨q, e, hq, hq8, h1, h2, h3⟩
      have hi := index_range hq hL
      refine ⟨(index q L).toNat, List.mem_range.2 (by omega), ((hone _ (by omega)).tabs u).2 ⟨q, e, hq, ?_, h1, h2, h3⟩⟩
      exact pre_at hq hL hq8 (by omega)
  · rw [ee, hT]
    unfold List.Nodup
    rw [List.pairwise_flatMap]
    refine ⟨fun i hi => (hone i (List.mem_range.1 hi)).nd, ?_⟩
    rw [List.pairwise_iff_getElem]
    intro i j hi hj hij x hx y hy hxy
    simp only [List.length_range] at hi hj
    simp only [List.getElem_range] at hx hy
    subst hxy
    obtain ⟨q, e, hq, hq8, h1, h2, h3⟩ := ((hone i hi).tabs x).1 hx
    obtain ⟨q', e', hq', hq8', h1', h2', h3'⟩ := ((hone j hj).tabs x).1 hy
    obtain ⟨rfl, hpre⟩ := hw.inj q q' e e' x hq hq' h2 h2' h3 h3'
    have := div_up (show 4 - e ≤ L by omega) hpre
    omega
theorem all_ok (hw : Wf s r gone X) : ∀ L, L ≤ 3 → ∀ {p t : Int}, InP p → tabD s r p (3 - L) = some t → AllOk s r L t (p / pow8 (L + 1)) := by
  intro L
  induction L with
  | zero => intro hL p t hp ht; exact all_step hw hL hp ht fun K hK => by omega
  | succ L ih =>
    intro hL p t hp ht
    refine all_step hw hL hp ht fun K hK => ?_
    obtain rfl : L = K := by omega
    exact ih (by omega)
/-- All that a root's tables map. -/
def allM (s : Ms) (r : Int) : List Mp := mapsOf (eachV s 3 r 0).vs
def allT (s : Ms) (r : Int) : List Int := r :: tabsOf (eachV s 3 r 0).vs
theorem list_link (hw : Wf s r gone X) : (eachV s 3 r 0).code = 0 ∧ Lk s r (allM s r) ∧ (allT s r).Nodup ∧ ∀ t, t ∈ allT s r ↔ InT s r t := by
  have hA : AllOk s r 3 r ((0 : Int) / pow8 (3 + 1)) := all_ok hw 3 (by omega) (show InP 0 from ⟨by omega, by omega⟩) rfl
  have e0 : (0 : Int) / pow8 (3 + 1) = 0 := by decide
  rw [e0] at hA
  have htop : ∀ q, InP q → q / pow8 (3 + 1) = 0 := fun q hq => by
    have h4 : pow8 (3 + 1) = 4096 := rfl
    rw [h4]
    have := hq.1; have := hq.2
    omega
  refine ⟨hA.code, ⟨⟨fun m hm => (hA.maps m hm).1, hA.up⟩, fun q hq => ?_⟩, ?_, fun t => ?_⟩
  · have hl := (list_way s q hq.1 hq.2 3 (by omega) r 0 [] hA.code (by omega) (by decide)).2 (htop q hq)
    have hwy : way s r q = wayA s q 3 r [] := by
      unfold way
      rw [if_pos (by unfold hasB; rw [decide_eq_true hq.1, decide_eq_true hq.2]; rfl)]
    show (mapsOf (eachV s 3 r 0).vs).find? (fun m => over m q) = mapAt s r q
    rw [← List.head?_filter, hl.2.1, ← hwy]
    unfold mapAt
    split <;> rfl
  · unfold allT
    rw [List.nodup_cons]
    refine ⟨fun hm => ?_, hA.nd⟩
    obtain ⟨q, e, hq, _, h1, h2, h3⟩ := (hA.tabs r).1 hm
    have := (hw.inj q q e 0 r hq hq h2 (by omega) h3 rfl).1
    omega
  · unfold allT
    rw [List.mem_cons, hA.tabs t]
    constructor
    · rintro (rfl | ⟨q, e, hq, _, h1, h2, h3⟩)
      · exact ⟨0, 0, ⟨by omega, by omega⟩, by omega, rfl⟩
      · exact ⟨q, e, hq, h2, h3⟩
    · rintro ⟨q, e, hq, h2, h3⟩
      cases e with
      | zero => injection h3 with h3; exact .inl h3.symm
      | succ e => exact .inr ⟨q, e + 1, hq, htop q hq, by omega, h2, h3⟩
end
end Go.Proofs.Ytegkimecdonfgaa
namespace Go.Proofs.Ytegkimecdonfgaa
open Go.RowKit
section
variable (f : Nat) (s : Ms) (gone : List Int) (X : Int → Prop) (hw : Wf s 0 gone X) (R : HProp) (w : World) (h : Has w (frA f s * R))
include hw h
theorem listW : Calls Try.prog 33 #[.pointer (some ⟨f, 0, none⟩), (Value.int .i64) 0] w fun e w' => ∃ A c, e = .returned (.tuple #[.slice A (allM s 0).length c, (Value.int .i64) 0]) ∧ Has w' (mrow (.slice A (allM s 0).length c) (allM s 0) * (frA f s * R)) ∧ Ext w w' := by
  refine (listA f s R w h 0).mono ?_
  have hc := (list_link hw).1
  have e1 : listM (eachV s 3 0 0) = allM s 0 := by unfold listM allM; rw [if_pos hc]
  rintro e w' ⟨A, c, he, h2, x2⟩
  rw [e1] at he h2
  rw [hc] at he
  exact ⟨A, c, he, h2, x2⟩
theorem tablesW : Calls Try.prog 38 #[.pointer (some ⟨f, 0, none⟩), (Value.int .i64) 0] w fun e w' => ∃ A c, e = .returned (.tuple #[.slice A (allT s 0).length c, (Value.int .i64) 0]) ∧ Has w' (irow (.slice A (allT s 0).length c) (allT s 0) * (frA f s * R)) ∧ Ext w w' := by
  refine (tablesA f s R w h 0).mono ?_
  have hc := (list_link hw).1
  have e1 : listTb (eachV s 3 0 0) 0 = allT s 0 := by unfold listTb allT; rw [if_pos hc]
  rintro e w' ⟨A, c, he, h2, x2⟩
  rw [e1] at he h2
  rw [hc] at he
  exact ⟨A, c, he, h2, x2⟩
end
end Go.Proofs.Ytegkimecdonfgaa
namespace Go.Proofs.Ytegkimecdonfgaa
open Go.RowKit
section
variable {s s' : Ms} {r : Int} {gone : List Int} {X : Int → Prop}
/-- Frames that are given back one after the other. -/
theorem giveL_use : ∀ (l : List Int) (s : Ms), s.Inv → (giveL s l).Inv ∧ (giveL s l).n = s.n ∧ (giveL s l).wd = s.wd ∧ ∀ a : Nat, (giveL s l).tk a = true ↔ s.tk a = true ∧ (a : Int) ∉ l := by
  intro l
  induction l with
  | nil => intro s hi; exact ⟨hi, rfl, rfl, fun a => by simp [giveL]⟩
  | cons k l ih =>
    intro s hi
    show (giveL (s.giveS k) l).Inv ∧ _
    cases hk : s.has k with
    | true =>
      have e : s.giveS k = s.give k.toNat := by unfold Ms.giveS; rw [if_pos hk]
      rw [show giveL s (k :: l) = giveL (s.give k.toNat) l by rw [← e]; rfl, e]
      obtain ⟨k0, k1, k2⟩ := Ms.has_iff.1 hk
      obtain ⟨i1, i2, i3, i4⟩ := ih (s.give k.toNat) (hi.give k2)
      refine ⟨i1, i2, i3, fun a => ?_⟩
      rw [i4 a]
      show fput s.tk k.toNat false a = true ∧ _ ↔ _
      by_cases h : a = k.toNat
      · subst h
        rw [fput_self]
        have : ((k.toNat : Nat) : Int) = k := by omega
        rw [this]
        simp
      · rw [fput_ne _ _ h]
        have : (a : Int) ≠ k := by omega
        simp [this]
    | false =>
      have e : s.giveS k = s := by unfold Ms.giveS; rw [if_neg (by rw [hk]; simp)]
      rw [e, show giveL s (k :: l) = giveL s l from (congrArg (fun x => giveL x l) e : giveL (s.giveS k) l = giveL s l)]
      obtain ⟨i1, i2, i3, i4⟩ := ih s hi
      refine ⟨i1, i2, i3, fun a => ?_⟩
      rw [i4 a]
      constructor
      · rintro ⟨a1, a2⟩
        refine ⟨a1, fun hm => ?_⟩
        rcases List.mem_cons.1 hm with h | h
        · have hl := hi.tkl a a1
          have hle := hi.le
          rw [← h] at hk
          rw [Ms.has_nat hi, a1] at hk
          cases hk
        · exact a2 h
      · rintro ⟨a1, a2⟩
        exact ⟨a1, fun hm => a2 (List.mem_cons_of_mem _ hm)⟩
/-- What goes was given back: ways are as they were. -/
theorem give_tab (hw : Wf s r gone X) (hi : s.Inv) {q : Int} (hq : InP q) : ∀ d, d ≤ 4 → tabD (giveL s gone) r q d = tabD s r q d := by
  obtain ⟨_, g2, g3, g4⟩ := giveL_use gone s hi
  intro d
  induction d with
  | zero => intro _; rfl
  | succ d ih =>
    intro hd
    show (tabD (giveL s gone) r q d).bind _ = (tabD s r q d).bind _
    rw [ih (by omega)]
    cases hu : tabD s r q d with
    | none => rfl
    | some u =>
      simp only [Option.bind_some]
      have hh : (giveL s gone).has u = s.has u := by
        rw [Bool.eq_iff_iff, Ms.has_iff, Ms.has_iff, g2, g4]
        constructor
        · rintro ⟨a, b, c, _⟩; exact ⟨a, b, c⟩
        · rintro ⟨a, b, c⟩
          refine ⟨a, b, c, fun hm => ?_⟩
          rw [Int.toNat_of_nonneg a] at hm
          exact hw.gt u hm ⟨q, d, hq, by omega, hu⟩
      unfold goB eOf wordV
      rw [hh, g3]
theorem give_ends (hw : Wf s r gone X) (hi : s.Inv) {q t : Int} {d : Nat} (hq : InP q) (he : Ends s r q d t) : Ends (giveL s gone) r q d t ∧ eOf (giveL s gone) q t (3 - d) = eOf s q t (3 - d) := by
  obtain ⟨_, g2, g3, g4⟩ := giveL_use gone s hi
  have hw' : ∀ i, wordV (giveL s gone) t i = wordV s t i := fun i => by unfold wordV; rw [g3]
  have hh : (giveL s gone).has t = true := by
    obtain ⟨a, b, c⟩ := Ms.has_iff.1 he.use
    refine Ms.has_iff.2 ⟨a, by rw [g2]; exact b, (g4 _).2 ⟨c, fun hm => ?_⟩⟩
    rw [Int.toNat_of_nonneg a] at hm
    exact hw.gt t hm ⟨q, d, hq, he.le, he.tab⟩
  refine ⟨⟨he.le, (give_tab hw hi hq d (by have := he.le; omega)).trans he.tab, hh, by rw [hw']; exact he.dec, ?_⟩, by unfold eOf; rw [hw']⟩
  have := he.no
  unfold goB eOf at this ⊢
  rw [hw', hh]
  rw [he.use] at this
  exact this
theorem give_way (hw : Wf s r gone X) (hi : s.Inv) {q : Int} (hq : InP q) : way (giveL s gone) r q = way s r q := by
  obtain ⟨d, t, he⟩ := hw.ends q hq
  obtain ⟨h1, h2⟩ := give_ends hw hi hq he
  rw [way_ends hq.1 hq.2 h1, way_ends hq.1 hq.2 he, h2]
  have : tabsD (giveL s gone) r q (d + 1) = tabsD s r q (d + 1) := by
    unfold tabsD
    refine List.map_congr_left fun x hx => ?_
    rw [give_tab hw hi hq x (by have := List.mem_range.1 hx; have := he.le; omega)]
  rw [this]
theorem give_inT (hw : Wf s r gone X) (hi : s.Inv) (t : Int) : InT (giveL s gone) r t ↔ InT s r t := by
  constructor
  · rintro ⟨q, d, hq, hd, h⟩; exact ⟨q, d, hq, hd, by rw [← give_tab hw hi hq d (by omega)]; exact h⟩
  · rintro ⟨q, d, hq, hd, h⟩; exact ⟨q, d, hq, hd, by rw [give_tab hw hi hq d (by omega)]; exact h⟩
theorem Wf.give (hw : Wf s r gone X) (hi : s.Inv) : Wf (giveL s gone) r [] X := by
  obtain ⟨_, g2, g3, g4⟩ := giveL_use gone s hi
  refine ⟨fun p hp => ?_, fun p q d e t hp hq hd he h1 h2 => ?_, fun p d t hp hd h => ?_, fun k => ?_, List.nodup_nil, fun g hg => (by cases hg), fun g hg => (by cases hg)⟩
  · obtain ⟨d, t, he⟩ := hw.ends p hp
    exact ⟨d, t, (give_ends hw hi hp he).1⟩
  · rw [give_tab hw hi hp d (by omega)] at h1
    rw [give_tab hw hi hq e (by omega)] at h2
    exact hw.inj p q d e t hp hq hd he h1 h2
  · rw [give_tab hw hi hp (d + 1) (by omega)] at h
    have := hw.full p d t hp hd h
    unfold wordV at this ⊢
    rw [g3]
    exact this
  · rw [g4 k, hw.use k, give_inT hw hi]
    constructor
    · rintro ⟨a | a, b⟩
      · exact .inl a
      · exact absurd a b
    · rintro (a | a)
      · exact ⟨.inl a, fun hm => hw.gt _ hm a⟩
      · cases a
end
end Go.Proofs.Ytegkimecdonfgaa
namespace Go.Proofs.Ytegkimecdonfgaa
open Go.RowKit
theorem Bk.find_iff {L : List Mp} (h : Bk.Ok L) {q : Int} {m : Mp} : Bk.find L q = some m ↔ m ∈ L ∧ over m q = true := by
  constructor
  · exact Bk.find_mem
  · rintro ⟨hm, ho⟩
    obtain ⟨k, hk, rfl⟩ := List.getElem_of_mem hm
    exact (Bk.over_at h hk ho).2
section
variable {s : Ms} {r : Int} {gone : List Int} {X : Int → Prop} {L : List Mp}
theorem lk_code (hw : Wf s r gone (fun _ => False)) (hL : Lk s r L) (p : Int) : findC s r p = Bk.dropC L p ∧ findM s r p = (Bk.dropR L p).getD Mp.zero := by
  unfold Bk.dropC Bk.dropR
  by_cases hp : InP p
  · have hB : hasB p = true := by unfold hasB; rw [decide_eq_true hp.1, decide_eq_true hp.2]; rfl
    rw [if_pos hB, if_pos hB, hL.same p hp]
    exact hw.find hp
  · have hB : ¬ hasB p = true := by
      unfold hasB
      rw [Bool.and_eq_true, decide_eq_true_eq, decide_eq_true_eq]
      exact hp
    rw [if_neg hB, if_neg hB]
    have := find_out (s := s) (r := r) hp
    have hc : findC s r p = 1 := by unfold findC; rw [this]; rfl
    refine ⟨hc, ?_⟩
    unfold findM
    rw [if_neg (by rw [hc]; decide)]
    rfl
theorem lk_ins (hw : Wf s r gone (fun _ => False)) (hi : s.Inv) (hn : s.n ≤ 128) (hL : Lk s r L) {x : Mp} (hc : insC s r x = 0) : Lk (insS s r x) r (Bk.add L x) ∧ Bk.addC L x = 0 := by
  have hac : Bk.addC L x = 0 := by
    rcases ins_code hw hL x with h | h
    · rw [hc] at h; cases h.1
    · rw [← h]; exact hc
  refine ⟨?_, hac⟩
  unfold Bk.addC at hac
  by_cases hk : check x = 0
  · rw [if_neg (by simpa using hk)] at hac
    have hx := mapOk_of hk
    have hb : Bk.bad L x = false := by
      cases hb : Bk.bad L x with
      | false => rfl
      | true => rw [hb, if_pos rfl] at hac; cases hac
    have hadd : Bk.add L x = Bk.ins L x := by unfold Bk.add; rw [if_pos ⟨hk, hb⟩]
    have hok : Bk.Ok (Bk.ins L x) := hL.ok.ins hx hb
    rw [hadd]
    obtain ⟨_, _, _, w4⟩ := ins_ok hw hi hn x
    refine ⟨hok, fun q hq => ?_⟩
    rw [(w4 q hq).1, ← hL.same q hq]
    refine Option.ext fun m => ?_
    rw [Bk.find_iff hok, Bk.mem_ins]
    by_cases ho : over x q = true
    · rw [if_pos ⟨hc, ho⟩]
      constructor
      · rintro ⟨rfl | hm, h2⟩
        · rfl
        · have := meet_of (hL.ok.chk m hm) hx h2 ho
          rw [Bk.bad_false hb m hm] at this
          cases this
      · intro h
        injection h with h
        subst h
        exact ⟨.inl rfl, ho⟩
    · rw [if_neg (fun h => ho h.2), Bk.find_iff hL.ok]
      constructor
      · rintro ⟨rfl | hm, h2⟩
        · exact absurd h2 ho
        · exact ⟨hm, h2⟩
      · rintro ⟨hm, h2⟩
        exact ⟨.inr hm, h2⟩
  · rw [if_pos hk] at hac
    exact absurd hac hk
theorem lk_found (hw : Wf s r gone (fun _ => False)) (hL : Lk s r L) {p : Int} (hf : findC s r p = 0) : InP p ∧ hasB p = true ∧ Bk.find L p = some (findM s r p) ∧ findM s r p ∈ L ∧ over (findM s r p) p = true := by
  have hp := find_zero hf
  have hB : hasB p = true := by unfold hasB; rw [decide_eq_true hp.1, decide_eq_true hp.2]; rfl
  obtain ⟨d, t, he, hl, hwe, hm, h3, ho⟩ := hw.found hf
  have := (hL.same p hp).trans hm
  exact ⟨hp, hB, this, Bk.find_mem this⟩
theorem lk_rem (hw : Wf s r gone (fun _ => False)) (hi : s.Inv) (hL : Lk s r L) {p : Int} (hf : findC s r p = 0) : Lk (remS s r p) r (Bk.dropL L p) := by
  obtain ⟨hp, hB, h1, h2, h3⟩ := lk_found hw hL hf
  have hd : Bk.dropL L p = Bk.del L p := by unfold Bk.dropL; rw [if_pos hB]
  have hok : Bk.Ok (Bk.del L p) := hL.ok.del p
  rw [hd]
  obtain ⟨_, _, _, _, _, w6⟩ := rem_ok hw hi hf
  generalize findM s r p = M at *
  refine ⟨hok, fun q hq => ?_⟩
  rw [(w6 q hq).1, ← hL.same q hq]
  refine Option.ext fun m => ?_
  have one : ∀ m, m ∈ L → over m p = true → m = M := fun m hm ho => by
    have := (Bk.find_iff hL.ok).2 ⟨hm, ho⟩
    rw [h1] at this
    injection this with this
    exact this.symm
  rw [Bk.find_iff hok]
  unfold Bk.del
  rw [List.mem_filter]
  by_cases ho : over M q = true
  · rw [if_pos ho]
    constructor
    · rintro ⟨⟨hm, hn⟩, hq'⟩
      have e1 := (Bk.find_iff hL.ok).2 ⟨hm, hq'⟩
      have e2 := (Bk.find_iff hL.ok).2 ⟨h2, ho⟩
      rw [e1] at e2
      injection e2 with e2
      subst e2
      rw [h3] at hn
      cases hn
    · intro h; cases h
  · rw [if_neg ho, Bk.find_iff hL.ok]
    constructor
    · rintro ⟨⟨hm, _⟩, hq'⟩; exact ⟨hm, hq'⟩
    · rintro ⟨hm, hq'⟩
      refine ⟨⟨hm, ?_⟩, hq'⟩
      cases hov : over m p with
      | false => rfl
      | true =>
        rw [one m hm hov] at hq'
        exact absurd hq' ho
theorem lk_pr (hw : Wf s r gone (fun _ => False)) (hi : s.Inv) (hL : Lk s r L) {p ri : Int} (hf : prC s r p ri = 0) : Lk (prS s r p ri) r (Bk.protL L p ri) := by
  have hr : 0 ≤ ri ∧ ri ≤ 7 := by
    unfold prC at hf
    split at hf
    · cases hf
    · omega
  have hf0 : findC s r p = 0 := by
    unfold prC at hf
    rw [if_neg (by omega)] at hf
    exact hf
  obtain ⟨hp, hB, h1, h2, h3⟩ := lk_found hw hL hf0
  have hd : Bk.protL L p ri = Bk.prot L p ri := by unfold Bk.protL; rw [if_pos (Bk.protB_iff.2 ⟨hp.1, hp.2, hr.1, hr.2⟩)]
  have hok : Bk.Ok (Bk.prot L p ri) := hL.ok.prot p hr.1 hr.2
  rw [hd]
  obtain ⟨_, _, _, _, _, w6⟩ := pr_ok hw hi hf
  generalize findM s r p = M at *
  refine ⟨hok, fun q hq => ?_⟩
  refine Option.ext fun m => ?_
  have one : ∀ m, m ∈ L → over m p = true → m = M := fun m hm ho => by
    have := (Bk.find_iff hL.ok).2 ⟨hm, ho⟩
    rw [h1] at this
    injection this with this
    exact this.symm
  have oneq : over M q = true → ∀ m, m ∈ L → over m q = true → m = M := fun hq' m hm ho => by
    have e1 := (Bk.find_iff hL.ok).2 ⟨hm, ho⟩
    have e2 := (Bk.find_iff hL.ok).2 ⟨h2, hq'⟩
    rw [e1] at e2
    injection e2
  rw [Bk.find_iff hok]
  unfold Bk.prot
  rw [List.mem_map]
  by_cases ho : over M q = true
  · rw [((w6 q hq).1 ho).2.1]
    constructor
    · rintro ⟨⟨y, hy, rfl⟩, hq'⟩
      have e : y = M := by
        by_cases hyp : over y p = true
        · exact one y hy hyp
        · rw [if_neg hyp] at hq'
          exact oneq ho y hy hq'
      subst e
      rw [if_pos h3]
    · intro h
      injection h with h
      subst h
      exact ⟨⟨M, h2, by rw [if_pos h3]⟩, ho⟩
  · have e := (w6 q hq).2 (by simpa using ho)
    rw [mapAt_way e, ← hL.same q hq, Bk.find_iff hL.ok]
    constructor
    · rintro ⟨⟨y, hy, rfl⟩, hq'⟩
      by_cases hyp : over y p = true
      · rw [if_pos hyp, one y hy hyp] at hq'
        exact absurd hq' ho
      · rw [if_neg hyp] at hq' ⊢
        exact ⟨hy, hq'⟩
    · rintro ⟨hm, hq'⟩
      have hn : ¬ over m p = true := fun hov => by
        rw [one m hm hov] at hq'
        exact ho hq'
      exact ⟨⟨m, hm, by rw [if_neg hn]⟩, hq'⟩
end
end Go.Proofs.Ytegkimecdonfgaa
namespace Go.Proofs.Ytegkimecdonfgaa
open Go.RowKit
/-- A walk stands in a table on its way. -/
def OnTree (s : Ms) (r : Int) (k : Ck) : Prop := ∃ d : Nat, d ≤ 3 ∧ k.level = ((3 - d : Nat) : Int) ∧ tabD s r k.a.page d = some k.t
/-- A walk stands in a table that goes, and nothing is mapped at its page. -/
def Lost (s : Ms) (r : Int) (gone : List Int) (k : Ck) : Prop := k.t ∈ gone ∧ mapAt s r k.a.page = none
/-- Marks alone may be others. -/
structure Marked (s s' : Ms) (r : Int) : Prop where
  n : s'.n = s.n
  tk : ∀ u, s'.tk u = s.tk u
  fr : s'.frees = s.frees
  tab : ∀ q, InP q → ∀ d, d ≤ 4 → tabD s' r q d = tabD s r q d
  map : ∀ q, InP q → mapAt s' r q = mapAt s r q
  lev : ∀ q, InP q → (way s' r q).lev = (way s r q).lev
  used : ∀ q, InP q → (way s r q).e.used = true → (way s' r q).e.used = true
  dirty : ∀ q, InP q → (way s r q).e.dirty = true → (way s' r q).e.dirty = true
theorem Marked.refl (s : Ms) (r : Int) : Marked s s r := ⟨rfl, fun _ => rfl, rfl, fun _ _ _ _ => rfl, fun _ _ => rfl, fun _ _ => rfl, fun _ _ h => h, fun _ _ h => h⟩
/-- A line that is kept says what is mapped. -/
structure Kept (s : Ms) (r : Int) (x : Ln) : Prop where
  inP : InP x.m.page
  map : mapAt s r x.m.page = some x.m
  used : (way s r x.m.page).e.used = true
  dirty : x.dirty = true → (way s r x.m.page).e.dirty = true
theorem Kept.mark {s s' : Ms} {r : Int} {x : Ln} (h : Kept s r x) (m : Marked s s' r) : Kept s' r x :=
  ⟨h.inP, (m.map _ h.inP).trans h.map, m.used _ h.inP h.used, fun d => m.dirty _ h.inP (h.dirty d)⟩
theorem OnTree.mark {s s' : Ms} {r : Int} {k : Ck} (hp : InP k.a.page) (h : OnTree s r k) (m : Marked s s' r) : OnTree s' r k := by
  obtain ⟨d, hd, hl, ht⟩ := h
  exact ⟨d, hd, hl, (m.tab _ hp d (by omega)).trans ht⟩
theorem Lost.mark {s s' : Ms} {r : Int} {gone : List Int} {k : Ck} (hp : InP k.a.page) (h : Lost s r gone k) (m : Marked s s' r) : Lost s' r gone k := ⟨h.1, (m.map _ hp).trans h.2⟩
section
variable {s : Ms} {r : Int} {gone : List Int} {X : Int → Prop}
/-- What marks do to a tree. -/
theorem mark_tree (hw : Wf s r gone (fun _ => False)) (hi : s.Inv) {p t : Int} {d : Nat} (hp : InP p) (he : Ends s r p d t) (hl : (eOf s p t (3 - d)).leaf = true) (a : Ac) :
    Wf (putAt s p t d (encW (markE (eOf s p t (3 - d)) a) (3 - d : Nat))) r gone (fun _ => False) ∧ (putAt s p t d (encW (markE (eOf s p t (3 - d)) a) (3 - d : Nat))).Inv ∧
      Marked s (putAt s p t d (encW (markE (eOf s p t (3 - d)) a) (3 - d : Nat))) r ∧ (way (putAt s p t d (encW (markE (eOf s p t (3 - d)) a) (3 - d : Nat))) r p).e = markE (eOf s p t (3 - d)) a := by
  have hef := (enc_dec he.dec).1
  have hef : entFault (eOf s p t (3 - d)) ((3 - d : Nat) : Int) = 0 := hef
  obtain ⟨hf', hl'⟩ := mark_ok a hef hl
  obtain ⟨w1, w2, w3⟩ := leaf_ok hw hi hp he hf' hl'
  obtain ⟨k1, k2, _⟩ := dec_enc hf'
  have hv : stopW (encW (markE (eOf s p t (3 - d)) a) (3 - d : Nat)) (3 - d) := ⟨k1, by rw [k2, hl']; simp⟩
  refine ⟨w1, w2, ⟨rfl, fun _ => rfl, rfl, fun q hq e hle => put_tab hw hp he.le he.tab he.no hv hq e hle, fun q hq => ?_, fun q hq => ?_, fun q hq => ?_, fun q hq => ?_⟩, ?_⟩
  · have := w3 q hq
    split at this
    · unfold mapAt
      rw [this.1, this.2]
      dsimp only
      rw [hl', hl, leafMap_mark a hef hl]
    · exact mapAt_way this
  · have := w3 q hq
    split at this
    · rw [this.1, this.2]
    · rw [this]
  · have := w3 q hq
    split at this
    · rw [this.1, this.2]
      intro _; rfl
    · rw [this]; exact id
  · have := w3 q hq
    split at this
    · rw [this.1, this.2]
      dsimp only
      intro h
      unfold markE
      dsimp only
      rw [h]; rfl
    · rw [this]; exact id
  · have := w3 p hp
    rw [if_pos rfl] at this
    rw [this.1]
end
section
variable {s : Ms} {r : Int} {gone : List Int} {X : Int → Prop}
theorem Wf.perm {g : List Int} (hw : Wf s r gone X) (h : ∀ t, t ∈ g ↔ t ∈ gone) (nd : g.Nodup) : Wf s r g X :=
  ⟨hw.ends, hw.inj, hw.full, fun k => by rw [hw.use k, h], nd, fun t ht => hw.gz t ((h t).1 ht), fun t ht => hw.gt t ((h t).1 ht)⟩
end
end Go.Proofs.Ytegkimecdonfgaa
namespace Go.Proofs.Ytegkimecdonfgaa
open Go.RowKit
theorem or_nat (W : Nat) (hz : W / 32 % 4 = 0) : W ||| 96 = W + 96 := by
  have hb : W % 32 < 2 ^ 5 := by omega
  have hb7 : W % 32 < 2 ^ 7 := by omega
  have e1 : 2 ^ 7 * (W / 128) + W % 32 = W := by omega
  have e2 : 2 ^ 5 * 3 + W % 32 = 96 + W % 32 := by omega
  have hc : 2 ^ 5 * 3 + W % 32 < 2 ^ 7 := by omega
  have o1 := Nat.two_pow_add_eq_or_of_lt hb7 (W / 128)
  have o2 := Nat.two_pow_add_eq_or_of_lt hb 3
  have o3 := Nat.two_pow_add_eq_or_of_lt hc (W / 128)
  have e3 : 2 ^ 7 * (W / 128) + (2 ^ 5 * 3 + W % 32) = W + 96 := by omega
  rw [e1] at o1
  rw [e3, o2] at o3
  rw [o3]
  conv => lhs; rw [o1]
  rw [Nat.or_assoc, Nat.or_comm (W % 32)]
theorem or_marks (W : Nat) (h : W < 18446744073709551616) (hs : W + 96 < 18446744073709551616) (hz : W / 32 % 4 = 0) : bits .or .u64 (W : Int) 96 = ((W + 96 : Nat) : Int) := by
  show IntKind.u64.wrap ((BitVec.ofInt 64 (W : Int) ||| BitVec.ofInt 64 ((96 : Nat) : Int)).toNat : Int) = _
  rw [BitVec.toNat_or, ofInt64 W h, ofInt64 96 (by decide), or_nat W hz]
  exact wrapU _ hs
theorem enc_or {e : En} {L p : Int} {us : Bool} (hf : entFault e L = 0) (hl : e.leaf = true) (hu : e.used = false) (hd : e.dirty = false) : bits .or .u64 (encW e L) 96 = encW (markE e ⟨p, 1, us⟩) L := by
  have ht : e.there = true := by
    cases h : e.there with
    | true => rfl
    | false => rw [entFault_not hf h] at hl; cases hl
  obtain ⟨hf', hl'⟩ := mark_ok ⟨p, 1, us⟩ hf hl
  have hk := entOk_of hf ht
  have h1 : encW e L = wordE e L := if_pos ⟨hf, ht⟩
  have h2 : encW (markE e ⟨p, 1, us⟩) L = wordE e L + 96 := by
    have : encW (markE e ⟨p, 1, us⟩) L = wordE (markE e ⟨p, 1, us⟩) L := if_pos ⟨hf', ht⟩
    rw [this]
    unfold wordE markE
    dsimp only
    rw [hu, hd]
    simp only [b2i]
    simp
    omega
  rw [h1, h2]
  obtain ⟨_, w0, w1⟩ := wordE_ne hk
  obtain ⟨W, hW⟩ := Int.eq_ofNat_of_zero_le w0
  rw [hW] at w1 ⊢
  have hz : W / 32 % 4 = 0 := by
    have h3 : wordE e L = e.frame * 4096 + e.rights * 2 + 1 + b2i (e.leaf && (L != 0)) 128 := by
      unfold wordE
      rw [hu, hd]
      simp [b2i]
    have hb : b2i (e.leaf && (L != 0)) 128 = 0 ∨ b2i (e.leaf && (L != 0)) 128 = 128 := by unfold b2i; split <;> simp
    rw [hW] at h3
    have := hk.r0; have := hk.r7; have := hk.f0
    rcases hb with hb | hb <;> rw [hb] at h3 <;> omega
  rw [or_marks W (by omega) (by omega) hz]
  omega
/-! ### Counting -/
theorem le_nodup : ∀ (n : Nat) (l : List Nat), l.Nodup → (∀ k, k < n → k ∈ l) → n ≤ l.length
  | 0, _, _, _ => Nat.zero_le _
  | n + 1, l, nd, h => by
    have hm := h n (by omega)
    have h1 := le_nodup n (l.erase n) (nd.erase n) (fun k hk => (List.Nodup.mem_erase_iff nd).2 ⟨by omega, h k (by omega)⟩)
    rw [List.length_erase_of_mem hm] at h1
    have := List.length_pos_of_mem hm
    omega
section
variable {s : Ms} {gone : List Int} {X : Int → Prop}
theorem tabs_nat (hw : Wf s 0 gone X) {t : Int} (h : InT s 0 t) : 0 ≤ t ∧ t < s.n ∧ s.tk t.toNat = true := by
  obtain ⟨p, d, hp, hd, ht⟩ := h
  exact hw.nat hp hd ht
/-- So many frames are of the root's tables, go, or are free. -/
theorem tabs_count (hw : Wf s 0 gone X) (hi : s.Inv) : (allT s 0).length + gone.length + s.frees.length = s.n := by
  obtain ⟨_, _, nd, hm⟩ := list_link hw
  have h0 : ∀ t ∈ allT s 0, 0 ≤ t ∧ t < s.n ∧ s.tk t.toNat = true := fun t ht => tabs_nat hw ((hm t).1 ht)
  have hg : ∀ t ∈ gone, 0 ≤ t ∧ t < s.n ∧ s.tk t.toNat = true := fun t ht => by
    have a := (hw.gz t ht).1
    have b : s.tk t.toNat = true := (hw.use _).2 (.inr (by rw [Int.toNat_of_nonneg a]; exact ht))
    have := hi.tkl _ b
    have := hi.le
    exact ⟨a, by omega, b⟩
  have inj : ∀ l : List Int, l.Nodup → (∀ t ∈ l, 0 ≤ t) → (l.map Int.toNat).Nodup := by
    intro l
    induction l with
    | nil => intro _ _; exact List.nodup_nil
    | cons x l ih =>
      intro nd h
      rw [List.nodup_cons] at nd
      rw [List.map_cons, List.nodup_cons]
      refine ⟨fun hx => ?_, ih nd.2 fun t ht => h t (List.mem_cons_of_mem _ ht)⟩
      obtain ⟨y, hy, he⟩ := List.mem_map.1 hx
      have h1 := h x (List.mem_cons_self ..)
      have h2 := h y (List.mem_cons_of_mem _ hy)
      have : y = x := by omega
      exact nd.1 (this ▸ hy)
  have hnd : ((allT s 0).map Int.toNat ++ (gone.map Int.toNat ++ s.frees)).Nodup := by
    rw [List.nodup_append, List.nodup_append]
    refine ⟨inj _ nd fun t ht => (h0 t ht).1, ⟨inj _ hw.nd fun t ht => (hg t ht).1, Ms.frees_nodup hi, ?_⟩, ?_⟩
    · intro a ha b hb
      obtain ⟨t, ht, rfl⟩ := List.mem_map.1 ha
      rintro rfl
      have := ((Ms.frees_mem hi _).1 hb).2
      rw [(hg t ht).2.2] at this; cases this
    · intro a ha b hb
      obtain ⟨t, ht, rfl⟩ := List.mem_map.1 ha
      rintro rfl
      rcases List.mem_append.1 hb with hb | hb
      · obtain ⟨u, hu, he⟩ := List.mem_map.1 hb
        have h1 := (h0 t ht).1
        have h2 := (hg u hu).1
        have : u = t := by omega
        subst this
        exact hw.gt u hu ((hm u).1 ht)
      · have := ((Ms.frees_mem hi _).1 hb).2
        rw [(h0 t ht).2.2] at this; cases this
  have hall : ∀ k, k ∈ (allT s 0).map Int.toNat ++ (gone.map Int.toNat ++ s.frees) ↔ k < s.n := by
    intro k
    rw [List.mem_append, List.mem_append]
    constructor
    · rintro (h | h | h)
      · obtain ⟨t, ht, rfl⟩ := List.mem_map.1 h
        have := h0 t ht
        omega
      · obtain ⟨t, ht, rfl⟩ := List.mem_map.1 h
        have := hg t ht
        omega
      · exact ((Ms.frees_mem hi _).1 h).1
    · intro hk
      cases ht : s.tk k with
      | false => exact .inr (.inr ((Ms.frees_mem hi _).2 ⟨hk, ht⟩))
      | true =>
        rcases (hw.use k).1 ht with h | h
        · exact .inl (List.mem_map.2 ⟨k, (hm _).2 h, by simp⟩)
        · exact .inr (.inl (List.mem_map.2 ⟨k, h, by simp⟩))
  have h1 := nodup_le s.n _ hnd fun x hx => (hall x).1 hx
  have h2 := le_nodup s.n _ hnd fun k hk => (hall k).2 hk
  rw [List.length_append, List.length_append, List.length_map, List.length_map] at h1 h2
  omega
end
/-! ### The first memory -/
theorem first_eq {n : Nat} (h : 1 ≤ n) : (Ms.new n).takeS = { n := n, tk := fput (fun _ => false) 0 true, wd := fun a _ => if a = 0 then 0 else 0, next := 1, back := [] } := by
  have ht : (Ms.new n).top = some 0 := by
    show (if 0 < n then some 0 else none) = some 0
    rw [if_pos (by omega)]
  unfold Ms.takeS
  rw [ht]
  rfl
theorem first_wf {n : Nat} (h : 1 ≤ n) : Wf (Ms.new n).takeS 0 [] (fun _ => False) := by
  rw [first_eq h]
  generalize hs : ({ n := n, tk := fput (fun _ => false) 0 true, wd := fun a _ => if a = 0 then 0 else 0, next := 1, back := [] } : Ms) = s
  have hz : ∀ t i, wordV s t i = 0 := fun t i => by
    subst hs
    show (if t.toNat = 0 then (0 : Int) else 0) = 0
    split <;> rfl
  have hn : s.n = n := by subst hs; rfl
  have htk : ∀ k : Nat, s.tk k = true ↔ k = 0 := fun k => by
    subst hs
    show fput (fun _ => false) 0 true k = true ↔ k = 0
    unfold fput
    split <;> simp_all
  have hhas : s.has 0 = true := Ms.has_iff.2 ⟨by omega, by omega, (htk _).2 rfl⟩
  have hno : ∀ p d, d ≤ 3 → tabD s 0 p (d + 1) = none := by
    intro p d hd
    cases hh : tabD s 0 p d with
    | none => exact tabD_none_mono hh _ (by omega)
    | some u => exact tabD_none hh (goB_zero (by omega) (hz _ _))
  have h0 : ∀ p d t, d ≤ 3 → tabD s 0 p d = some t → d = 0 ∧ t = 0 := by
    intro p d t hd ht
    cases d with
    | zero => injection ht with ht; exact ⟨rfl, ht.symm⟩
    | succ d => rw [hno p d (by omega)] at ht; cases ht
  refine ⟨fun p hp => ⟨0, 0, by omega, rfl, hhas, ?_, goB_zero (by omega) (hz _ _)⟩, fun p q d e t hp hq hd he h1 h2 => ?_, fun p d t hp hd ht => ?_, fun k => ?_, List.nodup_nil, fun g hg => (by cases hg), fun g hg => (by cases hg)⟩
  · rw [hz]; exact (dec_zero (by omega)).1
  · obtain ⟨rfl, _⟩ := h0 p d t hd h1
    obtain ⟨rfl, _⟩ := h0 q e t he h2
    exact ⟨rfl, div_top hp hq⟩
  · rw [hno p d (by omega)] at ht; cases ht
  · rw [htk]
    constructor
    · rintro rfl
      exact .inl ⟨0, 0, ⟨by omega, by omega⟩, by omega, rfl⟩
    · rintro (⟨p, d, _, hd, ht⟩ | h)
      · have := (h0 p d _ hd ht).2
        omega
      · cases h
theorem first_mem {n : Int} (h : 1 ≤ n) : memS n 1 [] = (Ms.new n.toNat).takeS := by
  unfold memS
  have : min (1 : Int).toNat n.toNat = 1 := by
    have : (1 : Int).toNat = 1 := rfl
    omega
  rw [this]
  rfl
theorem first_lk {n : Nat} (h : 1 ≤ n) : Lk (Ms.new n).takeS 0 [] := by
  have hw := first_wf h
  refine ⟨Bk.Ok.nil, fun q hq => ?_⟩
  have hz : ∀ t i, wordV (Ms.new n).takeS t i = 0 := fun t i => by
    rw [first_eq h]
    show (if t.toNat = 0 then (0 : Int) else 0) = 0
    split <;> rfl
  obtain ⟨d, t, he⟩ := hw.ends q hq
  rw [mapAt_ends hq he, eOf_zero (by omega) (hz _ _)]
  rfl
/-! ### What goes, and is given back -/
def remGive (s : Ms) (p : Int) : Ms := giveL (remS s 0 p) (remG s 0 p)
section
variable {s : Ms} {L : List Mp}
theorem rem_give (hw : Wf s 0 [] (fun _ => False)) (hi : s.Inv) {p : Int} (hf : findC s 0 p = 0) :
    Wf (remGive s p) 0 [] (fun _ => False) ∧ (remGive s p).Inv ∧ (remGive s p).n = s.n ∧ ∀ q, InP q → way (remGive s p) 0 q = way (remS s 0 p) 0 q := by
  obtain ⟨w1, w2, w3, _⟩ := rem_ok hw hi hf
  have hgn : (remG s 0 p).Nodup := by
    have := w1.nd
    rw [List.append_nil] at this
    exact (List.pairwise_reverse.1 this).imp fun h => h.symm
  have hw' : Wf (remS s 0 p) 0 (remG s 0 p) (fun _ => False) := w1.perm (fun t => by simp) hgn
  obtain ⟨g1, g2, _⟩ := giveL_use (remG s 0 p) (remS s 0 p) w2
  exact ⟨hw'.give w2, g1, g2.trans w3, fun q hq => give_way hw' w2 hq⟩
theorem rem_none {p : Int} (hf : findC s 0 p ≠ 0) : remGive s p = s ∧ remG s 0 p = [] ∧ remS s 0 p = s := by
  unfold remGive remS remG
  rw [if_neg hf, if_neg hf]
  exact ⟨rfl, rfl, rfl⟩
theorem lk_give (hw : Wf s 0 [] (fun _ => False)) (hi : s.Inv) (hL : Lk s 0 L) {p : Int} (hf : findC s 0 p = 0) : Lk (remGive s p) 0 (Bk.dropL L p) := by
  have h := lk_rem hw hi hL hf
  obtain ⟨_, _, _, w4⟩ := rem_give hw hi hf
  exact ⟨h.ok, fun q hq => (h.same q hq).trans (mapAt_way (w4 q hq)).symm⟩
theorem drop_head {x : Mp} (h : Bk.Ok (x :: L)) : Bk.dropL (x :: L) x.page = L ∧ Bk.dropC (x :: L) x.page = 0 := by
  have hx := h.chk x (List.mem_cons_self ..)
  have hp := hx.inP
  have hB : hasB x.page = true := by unfold hasB; rw [decide_eq_true hp.1, decide_eq_true hp.2]; rfl
  have ho : over x x.page = true := over_iff.2 ⟨by omega, by have := hx.sp; omega⟩
  unfold Bk.dropL Bk.dropC
  rw [if_pos hB, if_pos hB]
  constructor
  · unfold Bk.del
    rw [List.filter_cons, ho]
    simp only [Bool.not_true, Bool.false_eq_true, if_false]
    refine List.filter_eq_self.2 fun y hy => ?_
    have h1 := (List.pairwise_cons.1 h.up).1 y hy
    have := hx.sp
    have : over y x.page = false := over_false.2 (.inl (by omega))
    rw [this]; rfl
  · unfold Bk.find
    rw [List.find?_cons_of_pos (by exact ho)]
    rfl
end
/-! ### What is marked -/
structure MkAt (s : Ms) (p : Int) : Prop where
  inP : InP p
  map : (mapAt s 0 p).isSome = true
  used : (way s 0 p).e.used = true
  dirty : (way s 0 p).e.dirty = true
structure TK (s : Ms) (mk : Int) : Prop where
  ok : s.Ok
  wf : Wf s 0 [] (fun _ => False)
  at_ : mk = -1 ∨ MkAt s mk
section
variable {s s' : Ms} {mk p : Int}
theorem MkAt.way (h : MkAt s p) (e : Go.Proofs.Ytegkimecdonfgaa.way s' 0 p = Go.Proofs.Ytegkimecdonfgaa.way s 0 p) : MkAt s' p := ⟨h.inP, by rw [mapAt_way e]; exact h.map, by rw [e]; exact h.used, by rw [e]; exact h.dirty⟩
theorem MkAt.ne (h : MkAt s p) : mapAt s 0 p ≠ none := fun e => by have := h.map; rw [e] at this; cases this
theorem MkAt.found (h : MkAt s p) (hw : Wf s 0 [] (fun _ => False)) : findC s 0 p = 0 ∧ (findE s 0 p).used = true ∧ (findE s 0 p).dirty = true := by
  have hf := (hw.find h.inP).1
  rw [if_pos h.map] at hf
  unfold findE
  rw [if_pos hf]
  exact ⟨hf, h.used, h.dirty⟩
theorem TK.first {n : Int} (h : 1 ≤ n) (h1 : n ≤ 128) : TK (memS n 1 []) (-1) := ⟨memS_ok (by omega) h1 (fun x hx => by cases hx), by rw [first_mem h]; exact first_wf (by omega), .inl rfl⟩
theorem TK.ins (h : TK s mk) (x : Mp) : TK (insS s 0 x) mk := by
  obtain ⟨w1, w2, w3, w4⟩ := ins_ok h.wf h.ok.inv h.ok.small x
  refine ⟨⟨w2, by rw [w3]; exact h.ok.small⟩, w1, h.at_.imp id fun m => m.way ((w4 _ m.inP).2.1 m.ne)⟩
theorem TK.rem (h : TK s mk) {p : Int} (hf : findC s 0 p = 0) {mk' : Int} (hm : mk' = -1 ∨ (mk' = mk ∧ over (findM s 0 p) mk = false)) : TK (remGive s p) mk' := by
  obtain ⟨w1, w2, w3, w4⟩ := rem_give h.wf h.ok.inv hf
  obtain ⟨_, _, _, _, _, v6⟩ := rem_ok h.wf h.ok.inv hf
  refine ⟨⟨w2, by rw [w3]; exact h.ok.small⟩, w1, ?_⟩
  rcases hm with hm | ⟨rfl, ho⟩
  · exact .inl hm
  · exact h.at_.imp id fun m => m.way ((w4 _ m.inP).trans ((v6 _ m.inP).2 ho m.ne))
theorem TK.pr (h : TK s mk) (p ri : Int) : TK (prS s 0 p ri) mk := by
  by_cases hf : prC s 0 p ri = 0
  · obtain ⟨w1, w2, w3, _, _, w6⟩ := pr_ok h.wf h.ok.inv hf
    refine ⟨⟨w2, by rw [w3]; exact h.ok.small⟩, w1, h.at_.imp id fun m => ?_⟩
    by_cases ho : over (findM s 0 p) mk = true
    · obtain ⟨_, a2, a3⟩ := (w6 _ m.inP).1 ho
      exact ⟨m.inP, by rw [a2]; rfl, by rw [a3]; exact m.used, by rw [a3]; exact m.dirty⟩
    · exact m.way ((w6 _ m.inP).2 (by simpa using ho))
  · have e : prS s 0 p ri = s := by unfold prS; rw [if_neg hf]
    rw [e]; exact h
/-- A mapping is new: its leaf is marked. -/
theorem TK.mark (h : TK s mk) {x : Mp} (hc : insC s 0 x = 0) : ∃ (d : Nat) (t : Int), d ≤ 3 ∧ (way (insS s 0 x) 0 x.page).code = 0 ∧ (way (insS s 0 x) 0 x.page).tabs.length = d + 1 ∧ (way (insS s 0 x) 0 x.page).tabs[d]? = some t ∧
    (insS s 0 x).hasW t (index x.page (3 - (d : Int))) = true ∧ InP x.page ∧
    TK (storeS (insS s 0 x) t (index x.page (3 - (d : Int))) (bits .or .u64 (loadV (insS s 0 x) t (index x.page (3 - (d : Int)))) 96)) x.page := by
  obtain ⟨w1, w2, w3, w4⟩ := ins_ok h.wf h.ok.inv h.ok.small x
  have hk : check x = 0 := by
    unfold insC at hc
    by_cases hk : check x = 0
    · exact hk
    · rw [if_pos hk] at hc; exact absurd hc hk
  have hx := mapOk_of hk
  have hp := hx.inP
  have ho : over x x.page = true := over_iff.2 ⟨by omega, by have := hx.sp; omega⟩
  have he := ((w4 _ hp).2.2 ⟨hc, ho⟩).2
  have hmap := (w4 _ hp).1
  rw [if_pos ⟨hc, ho⟩] at hmap
  obtain ⟨d, t, hE⟩ := w1.ends _ hp
  have hle := hE.le
  have hwe := way_ends hp.1 hp.2 hE
  rw [hwe] at he
  have he : eOf (insS s 0 x) x.page t (3 - d) = leafE x := he
  have hl : (eOf (insS s 0 x) x.page t (3 - d)).leaf = true := by rw [he]; rfl
  have hi3 : (3 - (d : Int)) = ((3 - d : Nat) : Int) := by omega
  refine ⟨d, t, ?_⟩
  rw [hi3]
  have hix := index_range hp (show 3 - d ≤ 3 by omega)
  have hhas := hE.use
  have hW : (insS s 0 x).hasW t (index x.page ((3 - d : Nat) : Int)) = true := by
    unfold Ms.hasW
    rw [hhas, decide_eq_true hix.1, decide_eq_true hix.2]; rfl
  have hef : entFault (eOf (insS s 0 x) x.page t (3 - d)) ((3 - d : Nat) : Int) = 0 := (enc_dec hE.dec).1
  have hld : loadV (insS s 0 x) t (index x.page ((3 - d : Nat) : Int)) = encW (eOf (insS s 0 x) x.page t (3 - d)) ((3 - d : Nat) : Int) := by
    unfold loadV
    rw [if_pos hW]
    exact (enc_dec hE.dec).2.symm
  have hor : bits .or .u64 (loadV (insS s 0 x) t (index x.page ((3 - d : Nat) : Int))) 96 = encW (markE (eOf (insS s 0 x) x.page t (3 - d)) ⟨x.page, 1, false⟩) ((3 - d : Nat) : Int) := by
    rw [hld]
    exact enc_or hef hl (by rw [he]; rfl) (by rw [he]; rfl)
  obtain ⟨m1, m2, m3, m4⟩ := mark_tree w1 w2 hp hE hl ⟨x.page, 1, false⟩
  refine ⟨hle, by rw [hwe], by rw [hwe]; exact tabsD_len _ _ _ _, ?_, hW, hp, ?_⟩
  · rw [hwe]
    show (tabsD _ _ _ _)[d]? = _
    unfold tabsD
    rw [List.getElem?_map, List.getElem?_range (by omega)]
    simp [hE.tab]
  · have es : storeS (insS s 0 x) t (index x.page ((3 - d : Nat) : Int)) (bits .or .u64 (loadV (insS s 0 x) t (index x.page ((3 - d : Nat) : Int))) 96) = putAt (insS s 0 x) x.page t d (encW (markE (eOf (insS s 0 x) x.page t (3 - d)) ⟨x.page, 1, false⟩) ((3 - d : Nat) : Int)) := by
      unfold storeS
      rw [if_pos hW, hor]
    rw [es]
    refine ⟨⟨m2, ?_⟩, m1, .inr ⟨hp, ?_, ?_, ?_⟩⟩
    · rw [m3.n, w3]; exact h.ok.small
    · rw [m3.map _ hp, hmap]; rfl
    · rw [m4]; rfl
    · rw [m4, he]; rfl
end
end Go.Proofs.Ytegkimecdonfgaa
namespace Go.Proofs.Ytegkimecdonfgaa
open Go.RowKit
def keyAt (p : Int) (L : Nat) : Int := p / pow8 L * 4 + L
def addK (l : List Int) (k : Int) : List Int := if k ∈ l then l else l ++ [k]
/-- The keys of levels from 3 down, so many. -/
def keysDown (p : Int) : Nat → List Int → List Int
  | 0, l => l
  | n + 1, l => addK (keysDown p n l) (keyAt p (3 - n))
def seenM (l : List Int) (m : Mp) : List Int := keysDown m.page (3 - m.size).toNat l
def seenL (l : List Mp) : List Int := l.foldl seenM []
theorem seenL_snoc (l : List Mp) (m : Mp) : seenL (l ++ [m]) = seenM (seenL l) m := by unfold seenL; rw [List.foldl_append]; rfl
theorem addK_nodup {l : List Int} (h : l.Nodup) (k : Int) : (addK l k).Nodup := by
  unfold addK
  split
  · exact h
  · rename_i hk
    rw [List.nodup_append]
    exact ⟨h, by simp, fun a ha b hb => by simp at hb; rintro rfl; exact hk (hb ▸ ha)⟩
theorem addK_mem {l : List Int} {k x : Int} : x ∈ addK l k ↔ x ∈ l ∨ x = k := by
  unfold addK
  split
  · rename_i hk
    constructor
    · exact .inl
    · rintro (h | rfl)
      · exact h
      · exact hk
  · simp
theorem down_nodup {p : Int} {l : List Int} (h : l.Nodup) : ∀ n, (keysDown p n l).Nodup
  | 0 => h
  | n + 1 => addK_nodup (down_nodup h n) _
theorem down_mem {p x : Int} {l : List Int} : ∀ n, x ∈ keysDown p n l ↔ x ∈ l ∨ ∃ i, i < n ∧ x = keyAt p (3 - i)
  | 0 => by simp [keysDown]
  | n + 1 => by
    show x ∈ addK _ _ ↔ _
    rw [addK_mem, down_mem n]
    constructor
    · rintro ((h | ⟨i, hi, he⟩) | he)
      · exact .inl h
      · exact .inr ⟨i, by omega, he⟩
      · exact .inr ⟨n, by omega, he⟩
    · rintro (h | ⟨i, hi, he⟩)
      · exact .inl (.inl h)
      · by_cases hn : i = n
        · subst hn; exact .inr he
        · exact .inl (.inr ⟨i, by omega, he⟩)
theorem seenL_nodup (l : List Mp) : (seenL l).Nodup := by
  have : ∀ (l : List Mp) (s : List Int), s.Nodup → (l.foldl seenM s).Nodup := by
    intro l
    induction l with
    | nil => intro s h; exact h
    | cons m l ih => intro s h; exact ih _ (down_nodup h _)
  exact this l [] List.nodup_nil
theorem seenL_mem (l : List Mp) (x : Int) : x ∈ seenL l ↔ ∃ m ∈ l, ∃ i, i < (3 - m.size).toNat ∧ x = keyAt m.page (3 - i) := by
  have : ∀ (l : List Mp) (s : List Int), x ∈ l.foldl seenM s ↔ x ∈ s ∨ ∃ m ∈ l, ∃ i, i < (3 - m.size).toNat ∧ x = keyAt m.page (3 - i) := by
    intro l
    induction l with
    | nil => intro s; simp
    | cons m l ih =>
      intro s
      rw [List.foldl_cons, ih]
      unfold seenM
      rw [down_mem]
      constructor
      · rintro ((h | h) | ⟨m', hm, h⟩)
        · exact .inl h
        · exact .inr ⟨m, List.mem_cons_self .., h⟩
        · exact .inr ⟨m', List.mem_cons_of_mem _ hm, h⟩
      · rintro (h | ⟨m', hm, h⟩)
        · exact .inl (.inl h)
        · rcases List.mem_cons.1 hm with rfl | hm
          · exact .inl (.inr h)
          · exact .inr ⟨m', hm, h⟩
  have := this l []
  simpa [seenL] using this
theorem nodup_sub {α : Type} [BEq α] [LawfulBEq α] : ∀ (a b : List α), a.Nodup → (∀ x, x ∈ a → x ∈ b) → a.length ≤ b.length
  | [], _, _, _ => Nat.zero_le _
  | x :: a, b, nd, h => by
    rw [List.nodup_cons] at nd
    have hx := h x (List.mem_cons_self ..)
    have h1 := nodup_sub a (b.erase x) nd.2 (fun y hy => (List.mem_erase_of_ne (by rintro rfl; exact nd.1 hy)).2 (h y (List.mem_cons_of_mem _ hy)))
    rw [List.length_erase_of_mem hx] at h1
    have := List.length_pos_of_mem hx
    simp only [List.length_cons]
    omega
section
variable {s : Ms} {gone : List Int} {L : List Mp}
/-- A mapping and its leaf's place. -/
theorem map_at (hw : Wf s 0 gone (fun _ => False)) {q : Int} {m : Mp} (hq : InP q) (hm : mapAt s 0 q = some m) : ∃ (d : Nat) (t : Int), Ends s 0 q d t ∧ 1 ≤ d ∧ m.size = ((3 - d : Nat) : Int) ∧ m.page = q / pow8 (3 - d) * pow8 (3 - d) := by
  obtain ⟨d, t, he⟩ := hw.ends q hq
  rw [mapAt_ends hq he] at hm
  split at hm
  · rename_i hl
    injection hm with hm
    obtain ⟨h3, _, _⟩ := he.map hq hl
    have hef : entFault (eOf s q t (3 - d)) ((3 - d : Nat) : Int) = 0 := (enc_dec he.dec).1
    rw [leafMap_eq hq hef hl (span_pow h3)] at hm
    exact ⟨d, t, he, by omega, by rw [← hm], by rw [← hm]⟩
  · cases hm
theorem div_mul_up {q : Int} {a b : Nat} (h : a ≤ b) : q / pow8 a * pow8 a / pow8 b = q / pow8 b := by
  have e : (q / pow8 a * pow8 a) / pow8 a = q / pow8 a := Int.mul_ediv_cancel _ (by have := pow8_pos' a; omega)
  exact div_up h e
def tabOfKey (s : Ms) (k : Int) : Int := (tabD s 0 (k / 4 * pow8 (k % 4).toNat) (4 - (k % 4).toNat)).getD 0
theorem key_parts (p : Int) {l : Nat} (h : l < 4) : keyAt p l / 4 = p / pow8 l ∧ (keyAt p l % 4).toNat = l := by
  unfold keyAt
  generalize p / pow8 l = x
  omega
theorem key_tab (hw : Wf s 0 gone (fun _ => False)) (hL : Lk s 0 L) {k : Int} (hk : k ∈ seenL L) : ∃ (p : Int) (l : Nat), InP p ∧ 1 ≤ l ∧ l ≤ 3 ∧ k = keyAt p l ∧ tabD s 0 p (4 - l) = some (tabOfKey s k) := by
  obtain ⟨m, hm, i, hi, rfl⟩ := (seenL_mem L k).1 hk
  have hp := (hL.ok.chk m hm).inP
  obtain ⟨d, t, he, hd1, hsz, hpg⟩ := map_at hw hp (hL.mem hm)
  have hle := he.le
  have hi' : i < d := by omega
  obtain ⟨u, hu⟩ := tabD_some_mono he.tab (show i + 1 ≤ d by omega)
  refine ⟨m.page, 3 - i, hp, by omega, by omega, rfl, ?_⟩
  have e4 : 4 - (3 - i) = i + 1 := by omega
  rw [e4, hu]
  obtain ⟨k1, k2⟩ := key_parts m.page (show 3 - i < 4 by omega)
  unfold tabOfKey
  rw [k1, k2, e4]
  have h8 := pow8_pos' (3 - i)
  have hq : InP (m.page / pow8 (3 - i) * pow8 (3 - i)) := by
    have h1 := Int.ediv_mul_le m.page (show pow8 (3 - i) ≠ 0 by omega)
    have h2 : 0 ≤ m.page / pow8 (3 - i) * pow8 (3 - i) := Int.mul_nonneg (Int.ediv_nonneg hp.1 (by omega)) (by omega)
    exact ⟨h2, by have := hp.2; omega⟩
  have := tabD_prefix s 0 hq hp (i + 1) (by omega) (by rw [show 4 - (i + 1) = 3 - i by omega]; exact div_mul_up (Nat.le_refl _))
  rw [this, hu]
  rfl
/-- There are just as many tables as the mappings need. -/
theorem needed_tabs (hw : Wf s 0 gone (fun _ => False)) (hL : Lk s 0 L) : (allT s 0).length = (seenL L).length + 1 := by
  obtain ⟨_, _, nd, hm⟩ := list_link hw
  have h0 : ∀ t d p, InP p → d ≤ 3 → 1 ≤ d → tabD s 0 p d = some t → t ≠ 0 := by
    rintro t d p hp hd h1 ht rfl
    have := (hw.inj p p d 0 0 hp hp hd (by omega) ht rfl).1
    omega
  have hin : ∀ k k', k ∈ seenL L → k' ∈ seenL L → tabOfKey s k = tabOfKey s k' → k = k' := by
    intro k k' hk hk' he
    obtain ⟨p, l, hp, hl1, hl3, rfl, ht⟩ := key_tab hw hL hk
    obtain ⟨p', l', hp', hl1', hl3', rfl, ht'⟩ := key_tab hw hL hk'
    rw [he] at ht
    obtain ⟨e1, e2⟩ := hw.inj p p' (4 - l) (4 - l') _ hp hp' (by omega) (by omega) ht ht'
    have : l = l' := by omega
    subst this
    rw [show 4 - (4 - l) = l by omega] at e2
    unfold keyAt
    rw [e2]
  have hnd : (0 :: (seenL L).map (tabOfKey s)).Nodup := by
    rw [List.nodup_cons]
    constructor
    · intro h
      obtain ⟨k, hk, he⟩ := List.mem_map.1 h
      obtain ⟨p, l, hp, hl1, hl3, _, ht⟩ := key_tab hw hL hk
      exact h0 _ (4 - l) p hp (by omega) (by omega) ht he
    · have : ∀ l : List Int, l.Nodup → (∀ k ∈ l, k ∈ seenL L) → (l.map (tabOfKey s)).Nodup := by
        intro l
        induction l with
        | nil => intro _ _; exact List.nodup_nil
        | cons x l ih =>
          intro nd h
          rw [List.nodup_cons] at nd
          rw [List.map_cons, List.nodup_cons]
          refine ⟨fun hx => ?_, ih nd.2 fun k hk => h k (List.mem_cons_of_mem _ hk)⟩
          obtain ⟨y, hy, he⟩ := List.mem_map.1 hx
          have := hin y x (h y (List.mem_cons_of_mem _ hy)) (h x (List.mem_cons_self ..)) he
          exact nd.1 (this ▸ hy)
      exact this _ (seenL_nodup L) fun k hk => hk
  have hmem : ∀ t, t ∈ 0 :: (seenL L).map (tabOfKey s) ↔ t ∈ allT s 0 := by
    intro t
    rw [hm]
    constructor
    · intro h
      rcases List.mem_cons.1 h with rfl | h
      · exact ⟨0, 0, ⟨by omega, by omega⟩, by omega, rfl⟩
      · obtain ⟨k, hk, rfl⟩ := List.mem_map.1 h
        obtain ⟨p, l, hp, hl1, hl3, _, ht⟩ := key_tab hw hL hk
        exact ⟨p, 4 - l, hp, by omega, ht⟩
    · rintro ⟨p, d, hp, hd, ht⟩
      cases d with
      | zero => injection ht with ht; rw [← ht]; exact List.mem_cons_self ..
      | succ d =>
        obtain ⟨q, hq, hpre, hne⟩ := hw.some_map (2 - d) d (by omega) hp ht
        have hqt : tabD s 0 q (d + 1) = some t := by
          rw [← ht]
          exact tabD_prefix s 0 hq hp (d + 1) (by omega) (by rw [show 4 - (d + 1) = 3 - d by omega]; exact hpre)
        cases hmq : mapAt s 0 q with
        | none => exact absurd hmq hne
        | some m =>
          obtain ⟨e, u, he, he1, hsz, hpg⟩ := map_at hw hq hmq
          have hle := he.le
          have hde : d + 1 ≤ e := by
            rcases Nat.lt_or_ge e (d + 1) with h | h
            · have := tabD_none_mono (tabD_none he.tab he.no) (d + 1) h
              rw [hqt] at this; cases this
            · exact h
          have hmL : m ∈ L := by
            have := hL.same q hq
            rw [hmq] at this
            exact (Bk.find_mem this).1
          have hk : keyAt m.page (3 - d) ∈ seenL L := (seenL_mem L _).2 ⟨m, hmL, d, by omega, rfl⟩
          refine List.mem_cons_of_mem _ (List.mem_map.2 ⟨_, hk, ?_⟩)
          obtain ⟨p', l, hp', hl1, hl3, hke, ht'⟩ := key_tab hw hL hk
          obtain ⟨a1, a2⟩ := key_parts m.page (show 3 - d < 4 by omega)
          obtain ⟨b1, b2⟩ := key_parts p' (show l < 4 by omega)
          rw [hke] at a1 a2
          rw [b2] at a2
          subst a2
          have e4 : 4 - (3 - d) = d + 1 := by omega
          rw [e4] at ht'
          have hpp : p' / pow8 (3 - d) = q / pow8 (3 - d) := by
            rw [← b1, a1, hpg]
            exact div_mul_up (by omega)
          have := tabD_prefix s 0 hp' hq (d + 1) (by omega) (by rw [show 4 - (d + 1) = 3 - d by omega]; exact hpp)
          rw [this, hqt] at ht'
          injection ht' with ht'
          exact ht'.symm
  have h1 := nodup_sub _ _ hnd fun x hx => (hmem x).1 hx
  have h2 := nodup_sub _ _ nd fun x hx => (hmem x).2 hx
  simp only [List.length_cons, List.length_map] at h1 h2
  omega
end
end Go.Proofs.Ytegkimecdonfgaa
