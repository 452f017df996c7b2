/- The contracts of walk.List and walk.Tables. -/
import Derived.Test.YtacnjjjdkpbeaaaEach
import Derived.Test.YtacnjjjdkpbeaaaEntMap
namespace Go.Proofs.Ytacnjjjdkpbeaaa
open Go.RowKit
set_option maxRecDepth 100000

def mpZero : Value := .agg #[(Value.int .i64) 0, (Value.int .i64) 0, (Value.int .i64) 0, (Value.int .i64) 0]
theorem elemMp : Elem Try.prog 34 mpZero 4 32 := ⟨by kernel_rfl, rfl, by omega⟩
theorem mp_len (x : Mp) : x.cells.length = 4 := rfl
/-- Cells of many mappings. -/
def mcells (l : List Mp) : List Value := flat Mp.cells l
theorem mcells_len (l : List Mp) : (mcells l).length = l.length * 4 := flat_len mp_len l
theorem mcells_snoc (l : List Mp) (m : Mp) : mcells (l ++ [m]) = mcells l ++ m.cells := by unfold mcells; rw [flat_append]; simp [flat]
/-- A row of mappings. -/
def mrow (v : Value) (l : List Mp) : HProp := row 34 4 v l.length (mcells l)
theorem oneMp (x : Mp) : ∀ u ∈ x.cells, u.oneCell' = true := by
  intro u hx
  simp [Mp.cells] at hx
  rcases hx with rfl | rfl | rfl | rfl <;> rfl
/-- What List has gathered, at block O. -/
def gathM (O : Nat) (vs : List Vis) : HProp := ex fun A => ex fun c => blk O #[.slice A (mapsOf vs).length c] 71 * mrow (.slice A (mapsOf vs).length c) (mapsOf vs)
theorem gathM_open {O : Nat} {vs : List Vis} {P : HProp} {w : World} (h : Has w (gathM O vs * P)) : ∃ A c, Has w (blk O #[.slice A (mapsOf vs).length c] 71 * (mrow (.slice A (mapsOf vs).length c) (mapsOf vs) * P)) := by
  unfold gathM at h
  obtain ⟨A, h⟩ := has_ex_star.1 h
  obtain ⟨c, h⟩ := has_ex_star.1 h
  exact ⟨A, c, h.a1⟩
theorem gathM_shut {O c : Nat} {A : Option Addr} {vs : List Vis} {P : HProp} {w : World} (h : Has w (blk O #[.slice A (mapsOf vs).length c] 71 * (mrow (.slice A (mapsOf vs).length c) (mapsOf vs) * P))) : Has w (gathM O vs * P) := by
  unfold gathM
  exact has_ex_star.2 ⟨A, has_ex_star.2 ⟨c, h.a2⟩⟩
theorem mapsOf_len (vs : List Vis) : (mapsOf vs).length ≤ vs.length := List.length_filterMap_le _ _
theorem tabsOf_len (vs : List Vis) : (tabsOf vs).length ≤ vs.length := List.length_filterMap_le _ _

theorem pow8_mono {i j : Nat} (h : i ≤ j) : pow8 i ≤ pow8 j := by
  induction h with
  | refl => exact Int.le_refl _
  | step _ ih => rw [pow8_succ]; have := pow8_pos' i; omega
set_option maxHeartbeats 2000000 in
theorem seeM (O : Nat) (P : HProp) (vs : List Vis) (v : Vis) (W : World) (hv : VOk v) (hl : vs.length < 5000) (h : Has W (gathM O vs * P)) :
    Calls Try.prog 95 #[(Value.int .i64) v.t, (Value.int .i64) v.lev, (Value.int .i64) v.at_, .agg #[Value.bool v.e.there, Value.bool v.e.leaf, (Value.int .i64) v.e.rights, Value.bool v.e.used, Value.bool v.e.dirty, (Value.int .i64) v.e.frame], .pointer (some ⟨O, 0, none⟩)] W (Res (.tuple #[]) (gathM O (vs ++ [v]) * P) W) := by
  obtain ⟨A, c, h⟩ := gathM_open h
  have hml := mapsOf_len vs
  obtain ⟨t, lev, at_, ⟨th, lf, rg, us, di, fr⟩⟩ := v
  obtain ⟨l0, l3, ha0, ha4⟩ := hv
  dsimp only at *
  have h1 := h.new #[Value.bool th, Value.bool lf, (Value.int .i64) rg, Value.bool us, Value.bool di, (Value.int .i64) fr] 59
  have x1 := (Ext.refl W).alloc (.cells #[Value.bool th, Value.bool lf, (Value.int .i64) rg, Value.bool us, Value.bool di, (Value.int .i64) fr] 59)
  obtain ⟨e0, e1, e2, e3, e4, e5⟩ := h1.cells6
  have el := h1.lt
  cases lf with
  | false =>
    have hm : mapsOf (vs ++ [⟨t, lev, at_, ⟨th, false, rg, us, di, fr⟩⟩]) = mapsOf vs := by rw [mapsOf_append]; simp [mapsOf]
    have hfin : Has (W.alloc (.cells #[Value.bool th, Value.bool false, (Value.int .i64) rg, Value.bool us, Value.bool di, (Value.int .i64) fr] 59)) (gathM O (vs ++ [⟨t, lev, at_, ⟨th, false, rg, us, di, fr⟩⟩]) * P) := by
      refine gathM_shut (A := A) (c := c) ?_
      rw [hm]
      exact h1.right
    go_enter Try.func95, Try.ntmps95
    go_wp2_with fail
    exact bodyPost_ret (v := .tuple #[]) (by simp [results, Try.results95]) rfl ⟨rfl, hfin, x1⟩
  | true =>
    obtain ⟨k, rfl⟩ := Int.eq_ofNat_of_zero_le l0
    have hk3 : k ≤ 3 := by omega
    rw [Int.toNat_natCast] at ha4
    have hm := Lib.hid (show mapsOf (vs ++ [⟨t, k, at_, ⟨th, true, rg, us, di, fr⟩⟩]) = mapsOf vs ++ [leafMap ⟨th, true, rg, us, di, fr⟩ k (at_ * pow8 k)] by rw [mapsOf_append]; simp [mapsOf])
    have HE := Lib.hid (entMap_any ⟨th, true, rg, us, di, fr⟩ k (at_ * pow8 k))
    generalize leafMap ⟨th, true, rg, us, di, fr⟩ k (at_ * pow8 k) = m at *
    go_enter Try.func95, Try.ntmps95
    go_wp2_with fail
    go_loopw [9, 14] (fun s9 s14 wr => ∃ j : Nat, j ≤ k ∧ s14 = (Value.int .i64) j ∧ s9 = (Value.int .i64) (at_ * pow8 j) ∧ (W.alloc (.cells #[Value.bool th, Value.bool true, (Value.int .i64) rg, Value.bool us, Value.bool di, (Value.int .i64) fr] 59)) = wr) (fun _ s14 _ => k - (intOf s14).toNat)
    case atStart => exact ⟨0, Nat.zero_le _, rfl, by simp [pow8], rfl⟩
    case round =>
      obtain ⟨j, hj, rfl, rfl, rfl⟩ := hrel
      by_cases hlt : j < k
      · have hpw : at_ * pow8 j * 8 = at_ * pow8 (j + 1) := by rw [pow8_succ, Int.mul_assoc, Int.mul_comm (pow8 j) 8]
        have hle : at_ * pow8 (j + 1) ≤ at_ * pow8 k := Int.mul_le_mul_of_nonneg_left (pow8_mono (by omega)) ha0
        have hge : 0 ≤ at_ * pow8 (j + 1) := Int.mul_nonneg ha0 (Int.le_of_lt (pow8_pos' _))
        have hwr : IntKind.i64.wrap (at_ * pow8 j * 8) = at_ * pow8 (j + 1) := by rw [hpw, IntKind.wrap_i64]; omega
        clear hpw hle hge
        go_wp2_with fail
        go_roundw
        case rel => exact ⟨j + 1, by omega, by go_num, rfl, trivial⟩
        case measure => simp [intOf]; omega
      · obtain rfl : j = k := by omega
        have c0 : (W.alloc (.cells #[Value.bool th, Value.bool true, (Value.int .i64) rg, Value.bool us, Value.bool di, (Value.int .i64) fr] 59)).cell? ⟨O, 0, none⟩ = some (.slice A (mapsOf vs).length c) := h1.right.cell 0
        generalize at_ * pow8 j = pg at *
        generalize W.alloc (.cells #[Value.bool th, Value.bool true, (Value.int .i64) rg, Value.bool us, Value.bool di, (Value.int .i64) fr] 59) = w4 at *
        generalize W.heap.size = E at *
        go_wp2_with fail
        refine region_L (S := fun L w' => Till 6 0 (fun w' => w'.cell? ⟨O, 0, none⟩ = some (.slice A (mapsOf vs).length c)) L w' ∧ Till 4 1 (fun w' => w'.cell? ⟨E, 0, none⟩ = some (Value.bool th) ∧ w'.cell? ⟨E, 1, none⟩ = some (Value.bool true) ∧ w'.cell? ⟨E, 2, none⟩ = some ((Value.int .i64) rg) ∧ w'.cell? ⟨E, 3, none⟩ = some (Value.bool us) ∧ w'.cell? ⟨E, 4, none⟩ = some (Value.bool di) ∧ w'.cell? ⟨E, 5, none⟩ = some ((Value.int .i64) fr)) L w') (by kernel_rfl) ⟨Till.start c0, Till.start ⟨e0, e1, e2, e3, e4, e5⟩⟩ (fun hHeld => ?_)
        refine anyL_take (i := 0) (v := ?_) rfl (by kernel_rfl) (by kernel_rfl) (by kernel_rfl) (fun _ _ _ h => h) (Good.and (Good.till (by decide) ⟨_, ⟨0, .data⟩, rfl, by simp, rfl, rfl⟩) (Good.till (by decide) ⟨_, ⟨1, .data⟩, rfl, by simp, rfl, rfl⟩)) (Or.inl ⟨by kernel_rfl, ?_⟩) hHeld (fun hHeld => ?_)
        rotate_left
        focus (intro wS hSw; obtain ⟨Lx, hLx, hs1, hs2⟩ := hSw; have cS := hs1.still hLx; go_simp; first | done | with_reducible rfl)
        try go_simp
        refine anyL_take (i := 1) (v := ?_) rfl (by kernel_rfl) (by kernel_rfl) (by kernel_rfl) (fun _ _ _ h => h) (Good.and (Good.till (by decide) ⟨_, ⟨0, .data⟩, rfl, by simp, rfl, rfl⟩) (Good.till (by decide) ⟨_, ⟨1, .data⟩, rfl, by simp, rfl, rfl⟩)) (Or.inl ⟨by kernel_rfl, ?_⟩) hHeld (fun hHeld => ?_)
        rotate_left
        focus (intro wS hSw; obtain ⟨Lx, hLx, hs1, hs2⟩ := hSw; obtain ⟨s0, s1, s2, s3, s4, s5⟩ := hs2.still hLx; go_simp; first | done | with_reducible rfl)
        try go_simp
        refine anyL_take (i := 2) (v := ?_) rfl (by kernel_rfl) (by kernel_rfl) (by kernel_rfl) (fun _ _ _ h => h) (Good.and (Good.till (by decide) ⟨_, ⟨0, .data⟩, rfl, by simp, rfl, rfl⟩) (Good.till (by decide) ⟨_, ⟨1, .data⟩, rfl, by simp, rfl, rfl⟩)) (Or.inl ⟨by kernel_rfl, ?_⟩) hHeld (fun hHeld => ?_)
        rotate_left
        focus (intro wS hSw; obtain ⟨Lx, hLx, hs1, hs2⟩ := hSw; skip; go_simp; first | done | with_reducible rfl)
        try go_simp
        refine anyL_take (i := 3) (v := ?_) rfl (by kernel_rfl) (by kernel_rfl) (by kernel_rfl) (fun _ _ _ h => h) (Good.and (Good.till (by decide) ⟨_, ⟨0, .data⟩, rfl, by simp, rfl, rfl⟩) (Good.till (by decide) ⟨_, ⟨1, .data⟩, rfl, by simp, rfl, rfl⟩)) (Or.inl ⟨by kernel_rfl, ?_⟩) hHeld (fun hHeld => ?_)
        rotate_left
        focus (intro wS hSw; obtain ⟨Lx, hLx, hs1, hs2⟩ := hSw; skip; go_simp; first | done | with_reducible rfl)
        try go_simp
        refine anyL_ready (rs := [4]) (by kernel_rfl) (by simp) ?_
        refine OneOf.cons rfl (fun K hK => ?_) OneOf.nil
        go_simp
        go_wp2_with (refine (HE.out _).mono ?_; rintro e2 w5 ⟨rfl, b5⟩)
        have h5 := (h1.drew.right.below b5)
        have x5 := x1.drew.below b5
        refine hK.out _ _ ⟨⟨fun _ => by kernel_rfl, fun _ => h5.cell 0⟩, ⟨fun _ => by kernel_rfl, fun h => till_gone (by kernel_rfl) h⟩⟩ (fun hHeld => ?_)
        clear hK K
        refine anyL_ready (rs := [5]) (by kernel_rfl) (by simp) ?_
        refine OneOf.cons rfl (fun K hK => ?_) OneOf.nil
        go_simp
        have h6 := (h5.p2).alloc (.cells #[(Value.int .i64) m.page, (Value.int .i64) m.size, (Value.int .i64) m.frame, (Value.int .i64) m.rights] 34)
        refine hK.out _ _ ⟨⟨fun _ => by kernel_rfl, fun _ => h6.right.cell 0⟩, ⟨fun _ => by kernel_rfl, fun h => till_gone (by kernel_rfl) h⟩⟩ (fun hHeld => ?_)
        clear hK K
        refine anyL_ready (rs := [6]) (by kernel_rfl) (by simp) ?_
        refine OneOf.cons rfl (fun K hK => ?_) OneOf.nil
        refine step_append_has rfl (.tmp 19) (.tmp 24) 71 rfl Try.underlying71 elemMp _ _ _ (by simp [Act.eval]) h6 ⟨w5.heap.size, 0, none⟩ 1 1 m.cells (by simp [Act.eval]) rfl (news_many w5 m.cells 34) (oneMp m) (by unfold maxLen; omega) (by omega) ?_
        intro A' c' w7 h7 x7
        try go_simp
        refine hK.out _ _ ⟨⟨fun _ => by kernel_rfl, fun h => till_gone (by kernel_rfl) h⟩, ⟨fun _ => by kernel_rfl, fun h => till_gone (by kernel_rfl) h⟩⟩ (fun hHeld => ?_)
        clear hK K
        have y0 := h7.right.cell 0
        have y1 := h7.right.free 0
        have yl := h7.right.lt
        refine anyL_ready (rs := [7]) (by kernel_rfl) (by simp) ?_
        refine OneOf.cons rfl (fun K hK => ?_) OneOf.nil
        go_simp
        refine hK.out _ _ ⟨⟨fun _ => by kernel_rfl, fun h => till_gone (by kernel_rfl) h⟩, ⟨fun _ => by kernel_rfl, fun h => till_gone (by kernel_rfl) h⟩⟩ (fun hHeld => ?_)
        clear hK K
        refine anyL_done (by kernel_rfl) ?_
        have hfin : Has (w7.setCell ⟨O, 0, none⟩ (.slice A' ((mapsOf vs).length + 1) c')) (gathM O (vs ++ [⟨t, j, at_, ⟨th, true, rg, us, di, fr⟩⟩]) * P) := by
          refine gathM_shut (A := A') (c := c') ?_
          unfold mrow
          rw [hm.out, mcells_snoc, List.length_append, List.length_singleton]
          exact h7.p2.set 0 _
        go_wp2_with fail
        exact bodyPost_ret (v := .tuple #[]) (by simp [results, Try.results95]) rfl ⟨rfl, hfin, ((x5.alloc _).trans x7).set _ _⟩

/-- What List hands back. -/
def listM (y : Vs) : List Mp := if y.code = 0 then mapsOf y.vs else []
def ListedM (y : Vs) (R : HProp) (w : World) (e : Ending) (w' : World) : Prop :=
  ∃ A c, e = .returned (.tuple #[.slice A (listM y).length c, (Value.int .i64) y.code]) ∧ Has w' (mrow (.slice A (listM y).length c) (listM y) * R) ∧ Ext w w'
theorem list_any (f : Nat) (s : Ms) (root : Int) (R : HProp) (w : World) (hs : s.Ok) (h : Has w (framesAt f s * R)) :
    Calls Try.prog 34 #[.pointer (some ⟨f, 0, none⟩), (Value.int .i64) root] w (ListedM (eachV s 3 root 0) (framesAt f s * R) w) := by
  have hmf : ∀ (fn : Fn) (first cap : Array Value) (w : World), (Instr.makeFunc fn first cap).run Try.prog w = .ok (.func fn first cap) w := fun _ _ _ _ => rfl
  have h1 := h.new #[.slice none 0 0] 71
  have h2 : Has (w.alloc (.cells #[.slice none 0 0] 71)) (gathM w.heap.size [] * (framesAt f s * R)) := gathM_shut (A := none) (c := 0) (Has.p2 (Has.rowNil h1))
  have x1 := (Ext.refl w).alloc (.cells #[.slice none 0 0] 71)
  have hE := each_any f s hs 95 #[.pointer (some ⟨w.heap.size, 0, none⟩)] (enters_of Try.func95 (by kernel_rfl) rfl) (gathM w.heap.size) 5000
    (fun P vs v W hv hl h => seeM w.heap.size P vs v W hv hl h) 3 (by omega) R root 0 [] _ (by omega) (by decide) (by decide) h2
  rw [List.nil_append] at hE
  have hln := Lib.hid (show (listM (eachV s 3 root 0)) = if (eachV s 3 root 0).code = 0 then mapsOf (eachV s 3 root 0).vs else [] from rfl)
  generalize eachV s 3 root 0 = y at *
  by_cases hc : y.code = 0
  · have hm : listM y = mapsOf y.vs := by rw [hln.out, if_pos hc]
    have HM := Lib.hid hm
    clear hm
    go_enter Try.func34, Try.ntmps34
    go_wp2_with (refine hE.mono ?_; rintro e w2 ⟨rfl, h3, x3⟩; obtain ⟨A, c, h4⟩ := gathM_open h3; have c0 := h4.cell 0; have cl := h4.lt)
    exact bodyPost_ret (v := .tuple #[.slice A (mapsOf y.vs).length c, (Value.int .i64) 0]) (by simp [results, Try.results34]) rfl ⟨A, c, by rw [HM.out, hc], by rw [HM.out]; exact h4.right, x1.trans x3⟩
  · have hm : listM y = [] := by rw [hln.out, if_neg hc]
    have HM := Lib.hid hm
    have hn : (y.code != 0) = true := by simpa using hc
    clear hm
    go_enter Try.func34, Try.ntmps34
    go_wp2_with (refine hE.mono ?_; rintro e w2 ⟨rfl, h3, x3⟩)
    exact bodyPost_ret (v := .tuple #[.slice none 0 0, (Value.int .i64) y.code]) (by simp [results, Try.results34]) rfl ⟨none, 0, by rw [HM.out]; rfl, by rw [HM.out]; exact Has.rowNil h3.right, x1.trans x3⟩

/-- What Tables has gathered, at block O. -/
def gathT (O : Nat) (root : Int) (vs : List Vis) : HProp := ex fun A => ex fun c => blk O #[.slice A (root :: tabsOf vs).length c] 60 * irow (.slice A (root :: tabsOf vs).length c) (root :: tabsOf vs)
theorem gathT_open {O : Nat} {root : Int} {vs : List Vis} {P : HProp} {w : World} (h : Has w (gathT O root vs * P)) : ∃ A c, Has w (blk O #[.slice A (root :: tabsOf vs).length c] 60 * (irow (.slice A (root :: tabsOf vs).length c) (root :: tabsOf vs) * P)) := by
  unfold gathT at h
  obtain ⟨A, h⟩ := has_ex_star.1 h
  obtain ⟨c, h⟩ := has_ex_star.1 h
  exact ⟨A, c, h.a1⟩
theorem gathT_shut {O c : Nat} {root : Int} {A : Option Addr} {vs : List Vis} {P : HProp} {w : World} (h : Has w (blk O #[.slice A (root :: tabsOf vs).length c] 60 * (irow (.slice A (root :: tabsOf vs).length c) (root :: tabsOf vs) * P))) : Has w (gathT O root vs * P) := by
  unfold gathT
  exact has_ex_star.2 ⟨A, has_ex_star.2 ⟨c, h.a2⟩⟩
theorem seeT (O : Nat) (root : Int) (P : HProp) (vs : List Vis) (v : Vis) (W : World) (_ : VOk v) (hl : vs.length < 5000) (h : Has W (gathT O root vs * P)) :
    Calls Try.prog 97 #[(Value.int .i64) v.t, (Value.int .i64) v.lev, (Value.int .i64) v.at_, .agg #[Value.bool v.e.there, Value.bool v.e.leaf, (Value.int .i64) v.e.rights, Value.bool v.e.used, Value.bool v.e.dirty, (Value.int .i64) v.e.frame], .pointer (some ⟨O, 0, none⟩)] W (Res (.tuple #[]) (gathT O root (vs ++ [v]) * P) W) := by
  obtain ⟨A, c, h⟩ := gathT_open h
  have hml := tabsOf_len vs
  obtain ⟨t, lev, at_, ⟨th, lf, rg, us, di, fr⟩⟩ := v
  dsimp only at *
  have h1 := h.new #[Value.bool th, Value.bool lf, (Value.int .i64) rg, Value.bool us, Value.bool di, (Value.int .i64) fr] 59
  have x1 := (Ext.refl W).alloc (.cells #[Value.bool th, Value.bool lf, (Value.int .i64) rg, Value.bool us, Value.bool di, (Value.int .i64) fr] 59)
  obtain ⟨e0, e1, e2, e3, e4, e5⟩ := h1.cells6
  have el := h1.lt
  by_cases hn : th = true ∧ lf = false
  · obtain ⟨rfl, rfl⟩ := hn
    have hm := Lib.hid (show root :: tabsOf (vs ++ [⟨t, lev, at_, ⟨true, false, rg, us, di, fr⟩⟩]) = (root :: tabsOf vs) ++ [fr] by rw [tabsOf_append]; simp [tabsOf])
    have c0 := h1.right.cell 0
    have f0 := h1.right.free 0
    have cl := h1.right.lt
    have hrow : Has ((W.alloc (.cells #[Value.bool true, Value.bool false, (Value.int .i64) rg, Value.bool us, Value.bool di, (Value.int .i64) fr] 59)).alloc (.cells #[(Value.int .i64) fr] 3)) (row 3 1 (.slice A ((tabsOf vs).length + 1) c) ((tabsOf vs).length + 1) ((root :: tabsOf vs).map (Value.int .i64)) * (blk O #[.slice A (root :: tabsOf vs).length c] 60 * P)) := h1.right.p2.alloc (.cells #[(Value.int .i64) fr] 3)
    have hnw := news_one (W.alloc (.cells #[Value.bool true, Value.bool false, (Value.int .i64) rg, Value.bool us, Value.bool di, (Value.int .i64) fr] 59)) ((Value.int .i64) fr) 3
    simp only [World.size_alloc] at hnw
    have HNW := Lib.hid hnw
    clear hnw
    go_enter Try.func97, Try.ntmps97
    go_wp2_with (at_builtin; (refine wpList_append_has rfl _ _ 60 rfl Try.underlying60 elemI _ _ _ rfl hrow ⟨W.heap.size + 1, 0, none⟩ 1 1 [(Value.int .i64) fr] rfl rfl HNW.out ?k1 ?k2 ?k3 ?_))
    case k1 => exact one_int fr
    case k2 => unfold maxLen; omega
    case k3 => omega
    intro v' w7 h7 x7
    obtain ⟨A', c', rfl⟩ := h7.rowForm
    have y0 := h7.right.cell 0
    have y1 := h7.right.free 0
    have yl := h7.right.lt
    have hfin : Has (w7.setCell ⟨O, 0, none⟩ (.slice A' ((tabsOf vs).length + 1 + 1) c')) (gathT O root (vs ++ [⟨t, lev, at_, ⟨true, false, rg, us, di, fr⟩⟩]) * P) := by
      refine gathT_shut (A := A') (c := c') ?_
      unfold irow
      rw [hm.out, List.length_append, List.length_singleton, List.map_append]
      exact h7.p2.set 0 _
    go_wp2_with fail
    exact bodyPost_ret (v := .tuple #[]) (by simp [results, Try.results97]) rfl ⟨rfl, hfin, ((x1.alloc _).trans x7).set _ _⟩
  · have hm : tabsOf (vs ++ [⟨t, lev, at_, ⟨th, lf, rg, us, di, fr⟩⟩]) = tabsOf vs := by
      rw [tabsOf_append]
      unfold tabsOf
      rw [List.filterMap_cons]
      dsimp only
      rw [if_neg hn]
      simp
    have hfin : Has (W.alloc (.cells #[Value.bool th, Value.bool lf, (Value.int .i64) rg, Value.bool us, Value.bool di, (Value.int .i64) fr] 59)) (gathT O root (vs ++ [⟨t, lev, at_, ⟨th, lf, rg, us, di, fr⟩⟩]) * P) := by
      refine gathT_shut (A := A) (c := c) ?_
      rw [hm]
      exact h1.right
    cases th with
    | false =>
      go_enter Try.func97, Try.ntmps97
      go_wp2_with fail
      exact bodyPost_ret (v := .tuple #[]) (by simp [results, Try.results97]) rfl ⟨rfl, hfin, x1⟩
    | true =>
      cases lf with
      | false => exact absurd ⟨rfl, rfl⟩ hn
      | true =>
        go_enter Try.func97, Try.ntmps97
        go_wp2_with fail
        exact bodyPost_ret (v := .tuple #[]) (by simp [results, Try.results97]) rfl ⟨rfl, hfin, x1⟩
def listT (y : Vs) (root : Int) : List Int := if y.code = 0 then root :: tabsOf y.vs else []
def ListedT (y : Vs) (root : Int) (R : HProp) (w : World) (e : Ending) (w' : World) : Prop :=
  ∃ A c, e = .returned (.tuple #[.slice A (listT y root).length c, (Value.int .i64) y.code]) ∧ Has w' (irow (.slice A (listT y root).length c) (listT y root) * R) ∧ Ext w w'
theorem tables_any (f : Nat) (s : Ms) (root : Int) (R : HProp) (w : World) (hs : s.Ok) (h : Has w (framesAt f s * R)) :
    Calls Try.prog 35 #[.pointer (some ⟨f, 0, none⟩), (Value.int .i64) root] w (ListedT (eachV s 3 root 0) root (framesAt f s * R) w) := by
  have hmf : ∀ (fn : Fn) (first cap : Array Value) (w : World), (Instr.makeFunc fn first cap).run Try.prog w = .ok (.func fn first cap) w := fun _ _ _ _ => rfl
  have h0 := h.new #[(Value.int .i64) root] 3
  have h1 := h0.new #[.slice (some ⟨w.heap.size, 0, none⟩) 1 1] 60
  simp only [World.size_alloc] at h1
  have h2 : Has ((w.alloc (.cells #[(Value.int .i64) root] 3)).alloc (.cells #[.slice (some ⟨w.heap.size, 0, none⟩) 1 1] 60)) (gathT (w.heap.size + 1) root [] * (framesAt f s * R)) :=
    gathT_shut (A := some ⟨w.heap.size, 0, none⟩) (c := 1) (Has.p2 (Has.rowOf (xs := [(Value.int .i64) root]) (n := 1) (size := 1) (Has.p2 h1) rfl (Nat.le_refl 1) (by unfold maxLen; omega) rfl rfl))
  have x1 := ((Ext.refl w).alloc (.cells #[(Value.int .i64) root] 3)).alloc (.cells #[.slice (some ⟨w.heap.size, 0, none⟩) 1 1] 60)
  have hE := each_any f s hs 97 #[.pointer (some ⟨w.heap.size + 1, 0, none⟩)] (enters_of Try.func97 (by kernel_rfl) rfl) (gathT (w.heap.size + 1) root) 5000
    (fun P vs v W hv hl h => seeT (w.heap.size + 1) root P vs v W hv hl h) 3 (by omega) R root 0 [] _ (by omega) (by decide) (by decide) h2
  rw [List.nil_append] at hE
  have hln := Lib.hid (show listT (eachV s 3 root 0) root = if (eachV s 3 root 0).code = 0 then root :: tabsOf (eachV s 3 root 0).vs else [] from rfl)
  generalize eachV s 3 root 0 = y at *
  by_cases hc : y.code = 0
  · have hm : listT y root = root :: tabsOf y.vs := by rw [hln.out, if_pos hc]
    have HM := Lib.hid hm
    clear hm
    go_enter Try.func35, Try.ntmps35
    go_wp2_with (refine hE.mono ?_; rintro e w2 ⟨rfl, h3, x3⟩; obtain ⟨A, c, h4⟩ := gathT_open h3; have c0 := h4.cell 0; have cl := h4.lt)
    exact bodyPost_ret (v := .tuple #[.slice A (root :: tabsOf y.vs).length c, (Value.int .i64) 0]) (by simp [results, Try.results35]) rfl ⟨A, c, by rw [HM.out, hc], by rw [HM.out]; exact h4.right, x1.trans x3⟩
  · have hm : listT y root = [] := by rw [hln.out, if_neg hc]
    have HM := Lib.hid hm
    have hn : (y.code != 0) = true := by simpa using hc
    clear hm
    go_enter Try.func35, Try.ntmps35
    go_wp2_with (refine hE.mono ?_; rintro e w2 ⟨rfl, h3, x3⟩)
    exact bodyPost_ret (v := .tuple #[.slice none 0 0, (Value.int .i64) y.code]) (by simp [results, Try.results35]) rfl ⟨none, 0, by rw [HM.out]; rfl, by rw [HM.out]; exact Has.rowNil h3.right, x1.trans x3⟩
end Go.Proofs.Ytacnjjjdkpbeaaa
