/- Rows of mappings; append of a row onto a row; SameMaps. -/
import Derived.Test.YtegkimecdonfgaaFrames2
import Derived.Test.YtegkimecdonfgaaSep
import Derived.Test.YtegkimecdonfgaaTblM3
import Derived.Lib.Hide
import Derived.Lib.SliceRun
import Derived.Laws.OwnMore
import Derived.Outline
import Derived.BigQuiet
import Derived.Deep.LoopGhost
import Derived.Shelf.Abstract
import Derived.Test.YtegkimecdonfgaaTabL
import Derived.Test.YtegkimecdonfgaaWkFind
import Derived.Test.YtegkimecdonfgaaTake
import Derived.Test.YtegkimecdonfgaaWkr4
import Derived.Test.YtegkimecdonfgaaEntry2
namespace Go.Proofs.Ytegkimecdonfgaa
open Go.RowKit
set_option maxRecDepth 100000
def mpZero : Value := .agg #[(Value.int .i64) 0, (Value.int .i64) 0, (Value.int .i64) 0, (Value.int .i64) 0]
theorem elemMp : Elem Try.prog 24 mpZero 4 32 := ⟨by kernel_rfl, rfl, by omega⟩
theorem mp_len (x : Mp) : x.cells.length = 4 := rfl
/-- Cells of many mappings. -/
def mcells (l : List Mp) : List Value := flat Mp.cells l
theorem mcells_snoc (l : List Mp) (m : Mp) : mcells (l ++ [m]) = mcells l ++ m.cells := by unfold mcells; rw [flat_append]; simp [flat]
/-- A row of mappings. -/
def mrow (v : Value) (l : List Mp) : HProp := row 24 4 v l.length (mcells l)
theorem oneMp (x : Mp) : ∀ u ∈ x.cells, u.oneCell' = true := by
  intro u hx
  simp [Mp.cells] at hx
  rcases hx with rfl | rfl | rfl | rfl <;> rfl
theorem mrow_len {w : World} {R : HProp} {A : Option Addr} {n c : Nat} {l : List Mp} (h : Has w (mrow (.slice A n c) l * R)) : n = l.length := by
  rcases (Has.rowCases (e := 24) (size := 4) h) with ⟨hv, h0, _⟩ | ⟨g, cap, cur, hv, _⟩
  · injection hv with a b
    omega
  · injection hv
theorem mrow_small {w : World} {R : HProp} {A : Option Addr} {n c : Nat} {l : List Mp} (h : Has w (mrow (.slice A n c) l * R)) : n ≤ 9223372036854775807 := by
  obtain rfl := mrow_len h
  exact (Has.rowLens (e := 24) (size := 4) h).2
theorem mrow_at {w : World} {R : HProp} {A : Option Addr} {n c : Nat} {l : List Mp} (h : Has w (mrow (.slice A n c) l * R)) {k : Nat} (hk : k < l.length) :
    ∃ b, A = some ⟨b, 0, none⟩ ∧ b < w.heap.size ∧
      (w.cell? ⟨b, k * 4, none⟩ = some ((Value.int .i64) l[k].page) ∧ w.cell? ⟨b, k * 4 + 1, none⟩ = some ((Value.int .i64) l[k].size) ∧ w.cell? ⟨b, k * 4 + 2, none⟩ = some ((Value.int .i64) l[k].frame) ∧ w.cell? ⟨b, k * 4 + 3, none⟩ = some ((Value.int .i64) l[k].rights)) := by
  obtain rfl := mrow_len h
  have g := fun t (ht : t < 4) => Has.rowGet (e := 24) (size := 4) h (i := k * 4 + t) (u := (l[k].cells[t]'(by rw [mp_len]; exact ht))) (by
    have := flat_get (cells := Mp.cells) mp_len hk ht
    rw [List.getElem?_eq_getElem (l := l[k].cells) (by rw [mp_len]; exact ht)] at this
    exact this)
  obtain ⟨b, rfl, hb, c0, _⟩ := g 0 (by omega)
  obtain ⟨b1, e1, _, c1, _⟩ := g 1 (by omega)
  obtain ⟨b2, e2, _, c2, _⟩ := g 2 (by omega)
  obtain ⟨b3, e3, _, c3, _⟩ := g 3 (by omega)
  injection e1 with e1; injection e1 with e1; subst e1
  injection e2 with e2; injection e2 with e2; subst e2
  injection e3 with e3; injection e3 with e3; subst e3
  exact ⟨b, rfl, hb, c0, c1, c2, c3⟩
end Go.Proofs.Ytegkimecdonfgaa
namespace Go.Proofs.Ytegkimecdonfgaa
open Go.RowKit
set_option maxRecDepth 100000
/-- What List has gathered, at block O. -/
def gathM (O : Nat) (vs : List Vis) : HProp := ex fun A => ex fun c => blk O #[.slice A (mapsOf vs).length c] 64 * mrow (.slice A (mapsOf vs).length c) (mapsOf vs)
theorem gathM_open {O : Nat} {vs : List Vis} {P : HProp} {w : World} (h : Has w (gathM O vs * P)) : ∃ A c, Has w (blk O #[.slice A (mapsOf vs).length c] 64 * (mrow (.slice A (mapsOf vs).length c) (mapsOf vs) * P)) := by
  unfold gathM at h
  obtain ⟨A, h⟩ := has_ex_star.1 h
  obtain ⟨c, h⟩ := has_ex_star.1 h
  exact ⟨A, c, h.a1⟩
theorem gathM_shut {O c : Nat} {A : Option Addr} {vs : List Vis} {P : HProp} {w : World} (h : Has w (blk O #[.slice A (mapsOf vs).length c] 64 * (mrow (.slice A (mapsOf vs).length c) (mapsOf vs) * P))) : Has w (gathM O vs * P) := by
  unfold gathM
  exact has_ex_star.2 ⟨A, has_ex_star.2 ⟨c, h.a2⟩⟩
theorem mapsOf_len (vs : List Vis) : (mapsOf vs).length ≤ vs.length := List.length_filterMap_le _ _
theorem tabsOf_len (vs : List Vis) : (tabsOf vs).length ≤ vs.length := List.length_filterMap_le _ _
theorem pow8_mono {i j : Nat} (h : i ≤ j) : pow8 i ≤ pow8 j := by
  induction h with
  | refl => exact Int.le_refl _
  | step _ ih => rw [pow8_succ]; have := pow8_pos' i; omega
set_option maxHeartbeats 2000000 in
theorem seeM (O : Nat) (P : HProp) (vs : List Vis) (v : Vis) (W : World) (hv : VOk v) (hl : vs.length < 5000) (h : Has W (gathM O vs * P)) :
    Calls Try.prog 77 #[(Value.int .i64) v.t, (Value.int .i64) v.lev, (Value.int .i64) v.at_, .agg #[Value.bool v.e.there, Value.bool v.e.leaf, (Value.int .i64) v.e.rights, Value.bool v.e.used, Value.bool v.e.dirty, (Value.int .i64) v.e.frame], .pointer (some ⟨O, 0, none⟩)] W (Res (.tuple #[]) (gathM O (vs ++ [v]) * P) W) := by
  obtain ⟨A, c, h⟩ := gathM_open h
  have hml := mapsOf_len vs
  obtain ⟨t, lev, at_, ⟨th, lf, rg, us, di, fr⟩⟩ := v
  obtain ⟨l0, l3, ha0, ha4⟩ := hv
  dsimp only at *
  have h1 := h.new #[Value.bool th, Value.bool lf, (Value.int .i64) rg, Value.bool us, Value.bool di, (Value.int .i64) fr] 50
  have x1 := (Ext.refl W).alloc (.cells #[Value.bool th, Value.bool lf, (Value.int .i64) rg, Value.bool us, Value.bool di, (Value.int .i64) fr] 50)
  obtain ⟨e0, e1, e2, e3, e4, e5⟩ := h1.cells6
  have el := h1.lt
  cases lf with
  | false =>
    have hm : mapsOf (vs ++ [⟨t, lev, at_, ⟨th, false, rg, us, di, fr⟩⟩]) = mapsOf vs := by rw [mapsOf_append]; simp [mapsOf]
    have hfin : Has (W.alloc (.cells #[Value.bool th, Value.bool false, (Value.int .i64) rg, Value.bool us, Value.bool di, (Value.int .i64) fr] 50)) (gathM O (vs ++ [⟨t, lev, at_, ⟨th, false, rg, us, di, fr⟩⟩]) * P) := by
      refine gathM_shut (A := A) (c := c) ?_
      rw [hm]
      exact h1.right
    go_enter Try.func77, Try.ntmps77
    go_wp2_with fail
    exact bodyPost_ret (v := .tuple #[]) (by simp [results, Try.results77]) rfl ⟨rfl, hfin, x1⟩
  | true =>
    obtain ⟨k, rfl⟩ := Int.eq_ofNat_of_zero_le l0
    have hk3 : k ≤ 3 := by omega
    rw [Int.toNat_natCast] at ha4
    have hm := Lib.hid (show mapsOf (vs ++ [⟨t, k, at_, ⟨th, true, rg, us, di, fr⟩⟩]) = mapsOf vs ++ [leafMap ⟨th, true, rg, us, di, fr⟩ k (at_ * pow8 k)] by rw [mapsOf_append]; simp [mapsOf])
    have HE := Lib.hid (entMap_any ⟨th, true, rg, us, di, fr⟩ k (at_ * pow8 k))
    generalize leafMap ⟨th, true, rg, us, di, fr⟩ k (at_ * pow8 k) = m at *
    go_enter Try.func77, Try.ntmps77
    go_wp2_with fail
    go_loopw [9, 14] (fun s9 s14 wr => ∃ j : Nat, j ≤ k ∧ s14 = (Value.int .i64) j ∧ s9 = (Value.int .i64) (at_ * pow8 j) ∧ (W.alloc (.cells #[Value.bool th, Value.bool true, (Value.int .i64) rg, Value.bool us, Value.bool di, (Value.int .i64) fr] 50)) = wr) (fun _ s14 _ => k - (intOf s14).toNat)
    case atStart => exact ⟨0, Nat.zero_le _, rfl, by simp [pow8], rfl⟩
    case round =>
      obtain ⟨j, hj, rfl, rfl, rfl⟩ := hrel
      by_cases hlt : j < k
      · have hpw : at_ * pow8 j * 8 = at_ * pow8 (j + 1) := by rw [pow8_succ, Int.mul_assoc, Int.mul_comm (pow8 j) 8]
        have hle : at_ * pow8 (j + 1) ≤ at_ * pow8 k := Int.mul_le_mul_of_nonneg_left (pow8_mono (by omega)) ha0
        have hge : 0 ≤ at_ * pow8 (j + 1) := Int.mul_nonneg ha0 (Int.le_of_lt (pow8_pos' _))
        have hwr : IntKind.i64.wrap (at_ * pow8 j * 8) = at_ * pow8 (j + 1) := by rw [hpw, IntKind.wrap_i64]; omega
        clear hpw hle hge
        go_wp2_with fail
        go_roundw
        case rel => exact ⟨j + 1, by omega, by go_num, rfl, trivial⟩
        case measure => simp [intOf]; omega
      · obtain rfl : j = k := by omega
        have c0 : (W.alloc (.cells #[Value.bool th, Value.bool true, (Value.int .i64) rg, Value.bool us, Value.bool di, (Value.int .i64) fr] 50)).cell? ⟨O, 0, none⟩ = some (.slice A (mapsOf vs).length c) := h1.right.cell 0
        generalize at_ * pow8 j = pg at *
        generalize W.alloc (.cells #[Value.bool th, Value.bool true, (Value.int .i64) rg, Value.bool us, Value.bool di, (Value.int .i64) fr] 50) = w4 at *
        generalize W.heap.size = E at *
        go_wp2_with fail
        refine region_L (S := fun L w' => Till 6 0 (fun w' => w'.cell? ⟨O, 0, none⟩ = some (.slice A (mapsOf vs).length c)) L w' ∧ Till 4 1 (fun w' => w'.cell? ⟨E, 0, none⟩ = some (Value.bool th) ∧ w'.cell? ⟨E, 1, none⟩ = some (Value.bool true) ∧ w'.cell? ⟨E, 2, none⟩ = some ((Value.int .i64) rg) ∧ w'.cell? ⟨E, 3, none⟩ = some (Value.bool us) ∧ w'.cell? ⟨E, 4, none⟩ = some (Value.bool di) ∧ w'.cell? ⟨E, 5, none⟩ = some ((Value.int .i64) fr)) L w') (by kernel_rfl) ⟨Till.start c0, Till.start ⟨e0, e1, e2, e3, e4, e5⟩⟩ (fun hHeld => ?_)
        refine anyL_take (i := 0) (v := ?_) rfl (by kernel_rfl) (by kernel_rfl) (by kernel_rfl) (fun _ _ _ h => h) (Good.and (Good.till (by decide) ⟨_, ⟨0, .data⟩, rfl, by simp, rfl, rfl⟩) (Good.till (by decide) ⟨_, ⟨1, .data⟩, rfl, by simp, rfl, rfl⟩)) (Or.inl ⟨by kernel_rfl, ?_⟩) hHeld (fun hHeld => ?_)
        rotate_left
        focus (intro wS hSw; obtain ⟨Lx, hLx, hs1, hs2⟩ := hSw; have cS := hs1.still hLx; go_simp; first | done | with_reducible rfl)
        try go_simp
        refine anyL_take (i := 1) (v := ?_) rfl (by kernel_rfl) (by kernel_rfl) (by kernel_rfl) (fun _ _ _ h => h) (Good.and (Good.till (by decide) ⟨_, ⟨0, .data⟩, rfl, by simp, rfl, rfl⟩) (Good.till (by decide) ⟨_, ⟨1, .data⟩, rfl, by simp, rfl, rfl⟩)) (Or.inl ⟨by kernel_rfl, ?_⟩) hHeld (fun hHeld => ?_)
        rotate_left
        focus (intro wS hSw; obtain ⟨Lx, hLx, hs1, hs2⟩ := hSw; obtain ⟨s0, s1, s2, s3, s4, s5⟩ := hs2.still hLx; go_simp; first | done | with_reducible rfl)
        try go_simp
        refine anyL_take (i := 2) (v := ?_) rfl (by kernel_rfl) (by kernel_rfl) (by kernel_rfl) (fun _ _ _ h => h) (Good.and (Good.till (by decide) ⟨_, ⟨0, .data⟩, rfl, by simp, rfl, rfl⟩) (Good.till (by decide) ⟨_, ⟨1, .data⟩, rfl, by simp, rfl, rfl⟩)) (Or.inl ⟨by kernel_rfl, ?_⟩) hHeld (fun hHeld => ?_)
        rotate_left
        focus (intro wS hSw; obtain ⟨Lx, hLx, hs1, hs2⟩ := hSw; skip; go_simp; first | done | with_reducible rfl)
        try go_simp
        refine anyL_take (i := 3) (v := ?_) rfl (by kernel_rfl) (by kernel_rfl) (by kernel_rfl) (fun _ _ _ h => h) (Good.and (Good.till (by decide) ⟨_, ⟨0, .data⟩, rfl, by simp, rfl, rfl⟩) (Good.till (by decide) ⟨_, ⟨1, .data⟩, rfl, by simp, rfl, rfl⟩)) (Or.inl ⟨by kernel_rfl, ?_⟩) hHeld (fun hHeld => ?_)
        rotate_left
        focus (intro wS hSw; obtain ⟨Lx, hLx, hs1, hs2⟩ := hSw; skip; go_simp; first | done | with_reducible rfl)
        try go_simp
        refine anyL_ready (rs := [4]) (by kernel_rfl) (by simp) ?_
        refine OneOf.cons rfl (fun K hK => ?_) OneOf.nil
        go_simp
        go_wp2_with (refine (HE.out _).mono ?_; rintro e2 w5 ⟨rfl, b5⟩)
        have h5 := (h1.drew.right.below b5)
        have x5 := x1.drew.below b5
        refine hK.out _ _ ⟨⟨fun _ => by kernel_rfl, fun _ => h5.cell 0⟩, ⟨fun _ => by kernel_rfl, fun h => till_gone (by kernel_rfl) h⟩⟩ (fun hHeld => ?_)
        clear hK K
        refine anyL_ready (rs := [5]) (by kernel_rfl) (by simp) ?_
        refine OneOf.cons rfl (fun K hK => ?_) OneOf.nil
        go_simp
        have h6 := (h5.p2).alloc (.cells #[(Value.int .i64) m.page, (Value.int .i64) m.size, (Value.int .i64) m.frame, (Value.int .i64) m.rights] 24)
        refine hK.out _ _ ⟨⟨fun _ => by kernel_rfl, fun _ => h6.right.cell 0⟩, ⟨fun _ => by kernel_rfl, fun h => till_gone (by kernel_rfl) h⟩⟩ (fun hHeld => ?_)
        clear hK K
        refine anyL_ready (rs := [6]) (by kernel_rfl) (by simp) ?_
        refine OneOf.cons rfl (fun K hK => ?_) OneOf.nil
        refine step_append_has rfl (.tmp 19) (.tmp 24) 64 rfl Try.underlying64 elemMp _ _ _ (by simp [Act.eval]) h6 ⟨w5.heap.size, 0, none⟩ 1 1 m.cells (by simp [Act.eval]) rfl (news_many w5 m.cells 24) (oneMp m) (by unfold maxLen; omega) (by omega) ?_
        intro A' c' w7 h7 x7
        try go_simp
        refine hK.out _ _ ⟨⟨fun _ => by kernel_rfl, fun h => till_gone (by kernel_rfl) h⟩, ⟨fun _ => by kernel_rfl, fun h => till_gone (by kernel_rfl) h⟩⟩ (fun hHeld => ?_)
        clear hK K
        have y0 := h7.right.cell 0
        have y1 := h7.right.free 0
        have yl := h7.right.lt
        refine anyL_ready (rs := [7]) (by kernel_rfl) (by simp) ?_
        refine OneOf.cons rfl (fun K hK => ?_) OneOf.nil
        go_simp
        refine hK.out _ _ ⟨⟨fun _ => by kernel_rfl, fun h => till_gone (by kernel_rfl) h⟩, ⟨fun _ => by kernel_rfl, fun h => till_gone (by kernel_rfl) h⟩⟩ (fun hHeld => ?_)
        clear hK K
        refine anyL_done (by kernel_rfl) ?_
        have hfin : Has (w7.setCell ⟨O, 0, none⟩ (.slice A' ((mapsOf vs).length + 1) c')) (gathM O (vs ++ [⟨t, j, at_, ⟨th, true, rg, us, di, fr⟩⟩]) * P) := by
          refine gathM_shut (A := A') (c := c') ?_
          unfold mrow
          rw [hm.out, mcells_snoc, List.length_append, List.length_singleton]
          exact h7.p2.set 0 _
        go_wp2_with fail
        exact bodyPost_ret (v := .tuple #[]) (by simp [results, Try.results77]) rfl ⟨rfl, hfin, ((x5.alloc _).trans x7).set _ _⟩
/-- What List hands back. -/
def listM (y : Vs) : List Mp := if y.code = 0 then mapsOf y.vs else []
def ListedM (y : Vs) (R : HProp) (w : World) (e : Ending) (w' : World) : Prop :=
  ∃ A c, e = .returned (.tuple #[.slice A (listM y).length c, (Value.int .i64) y.code]) ∧ Has w' (mrow (.slice A (listM y).length c) (listM y) * R) ∧ Ext w w'
theorem list_any (f : Nat) (s : Ms) (root : Int) (R : HProp) (w : World) (hs : s.Ok) (h : Has w (framesAt f s * R)) :
    Calls Try.prog 33 #[.pointer (some ⟨f, 0, none⟩), (Value.int .i64) root] w (ListedM (eachV s 3 root 0) (framesAt f s * R) w) := by
  have hmf : ∀ (fn : Fn) (first cap : Array Value) (w : World), (Instr.makeFunc fn first cap).run Try.prog w = .ok (.func fn first cap) w := fun _ _ _ _ => rfl
  have h1 := h.new #[.slice none 0 0] 64
  have h2 : Has (w.alloc (.cells #[.slice none 0 0] 64)) (gathM w.heap.size [] * (framesAt f s * R)) := gathM_shut (A := none) (c := 0) (Has.p2 (Has.rowNil h1))
  have x1 := (Ext.refl w).alloc (.cells #[.slice none 0 0] 64)
  have hE := each_any f s hs 77 #[.pointer (some ⟨w.heap.size, 0, none⟩)] (enters_of Try.func77 (by kernel_rfl) rfl) (gathM w.heap.size) 5000
    (fun P vs v W hv hl h => seeM w.heap.size P vs v W hv hl h) 3 (by omega) R root 0 [] _ (by omega) (by decide) (by decide) h2
  rw [List.nil_append] at hE
  have hln := Lib.hid (show (listM (eachV s 3 root 0)) = if (eachV s 3 root 0).code = 0 then mapsOf (eachV s 3 root 0).vs else [] from rfl)
  generalize eachV s 3 root 0 = y at *
  by_cases hc : y.code = 0
  · have hm : listM y = mapsOf y.vs := by rw [hln.out, if_pos hc]
    have HM := Lib.hid hm
    clear hm
    go_enter Try.func33, Try.ntmps33
    go_wp2_with (refine hE.mono ?_; rintro e w2 ⟨rfl, h3, x3⟩; obtain ⟨A, c, h4⟩ := gathM_open h3; have c0 := h4.cell 0; have cl := h4.lt)
    exact bodyPost_ret (v := .tuple #[.slice A (mapsOf y.vs).length c, (Value.int .i64) 0]) (by simp [results, Try.results33]) rfl ⟨A, c, by rw [HM.out, hc], by rw [HM.out]; exact h4.right, x1.trans x3⟩
  · have hm : listM y = [] := by rw [hln.out, if_neg hc]
    have HM := Lib.hid hm
    have hn : (y.code != 0) = true := by simpa using hc
    clear hm
    go_enter Try.func33, Try.ntmps33
    go_wp2_with (refine hE.mono ?_; rintro e w2 ⟨rfl, h3, x3⟩)
    exact bodyPost_ret (v := .tuple #[.slice none 0 0, (Value.int .i64) y.code]) (by simp [results, Try.results33]) rfl ⟨none, 0, by rw [HM.out]; rfl, by rw [HM.out]; exact Has.rowNil h3.right, x1.trans x3⟩
/-- What Tables has gathered, at block O. -/
def gathT (O : Nat) (root : Int) (vs : List Vis) : HProp := ex fun A => ex fun c => blk O #[.slice A (root :: tabsOf vs).length c] 36 * irow (.slice A (root :: tabsOf vs).length c) (root :: tabsOf vs)
theorem gathT_open {O : Nat} {root : Int} {vs : List Vis} {P : HProp} {w : World} (h : Has w (gathT O root vs * P)) : ∃ A c, Has w (blk O #[.slice A (root :: tabsOf vs).length c] 36 * (irow (.slice A (root :: tabsOf vs).length c) (root :: tabsOf vs) * P)) := by
  unfold gathT at h
  obtain ⟨A, h⟩ := has_ex_star.1 h
  obtain ⟨c, h⟩ := has_ex_star.1 h
  exact ⟨A, c, h.a1⟩
theorem gathT_shut {O c : Nat} {root : Int} {A : Option Addr} {vs : List Vis} {P : HProp} {w : World} (h : Has w (blk O #[.slice A (root :: tabsOf vs).length c] 36 * (irow (.slice A (root :: tabsOf vs).length c) (root :: tabsOf vs) * P))) : Has w (gathT O root vs * P) := by
  unfold gathT
  exact has_ex_star.2 ⟨A, has_ex_star.2 ⟨c, h.a2⟩⟩
theorem seeT (O : Nat) (root : Int) (P : HProp) (vs : List Vis) (v : Vis) (W : World) (_ : VOk v) (hl : vs.length < 5000) (h : Has W (gathT O root vs * P)) :
    Calls Try.prog 83 #[(Value.int .i64) v.t, (Value.int .i64) v.lev, (Value.int .i64) v.at_, .agg #[Value.bool v.e.there, Value.bool v.e.leaf, (Value.int .i64) v.e.rights, Value.bool v.e.used, Value.bool v.e.dirty, (Value.int .i64) v.e.frame], .pointer (some ⟨O, 0, none⟩)] W (Res (.tuple #[]) (gathT O root (vs ++ [v]) * P) W) := by
  obtain ⟨A, c, h⟩ := gathT_open h
  have hml := tabsOf_len vs
  obtain ⟨t, lev, at_, ⟨th, lf, rg, us, di, fr⟩⟩ := v
  dsimp only at *
  have h1 := h.new #[Value.bool th, Value.bool lf, (Value.int .i64) rg, Value.bool us, Value.bool di, (Value.int .i64) fr] 50
  have x1 := (Ext.refl W).alloc (.cells #[Value.bool th, Value.bool lf, (Value.int .i64) rg, Value.bool us, Value.bool di, (Value.int .i64) fr] 50)
  obtain ⟨e0, e1, e2, e3, e4, e5⟩ := h1.cells6
  have el := h1.lt
  by_cases hn : th = true ∧ lf = false
  · obtain ⟨rfl, rfl⟩ := hn
    have hm := Lib.hid (show root :: tabsOf (vs ++ [⟨t, lev, at_, ⟨true, false, rg, us, di, fr⟩⟩]) = (root :: tabsOf vs) ++ [fr] by rw [tabsOf_append]; simp [tabsOf])
    have c0 := h1.right.cell 0
    have f0 := h1.right.free 0
    have cl := h1.right.lt
    have hrow : Has ((W.alloc (.cells #[Value.bool true, Value.bool false, (Value.int .i64) rg, Value.bool us, Value.bool di, (Value.int .i64) fr] 50)).alloc (.cells #[(Value.int .i64) fr] 3)) (row 3 1 (.slice A ((tabsOf vs).length + 1) c) ((tabsOf vs).length + 1) ((root :: tabsOf vs).map (Value.int .i64)) * (blk O #[.slice A (root :: tabsOf vs).length c] 36 * P)) := h1.right.p2.alloc (.cells #[(Value.int .i64) fr] 3)
    have hnw := news_one (W.alloc (.cells #[Value.bool true, Value.bool false, (Value.int .i64) rg, Value.bool us, Value.bool di, (Value.int .i64) fr] 50)) ((Value.int .i64) fr) 3
    simp only [World.size_alloc] at hnw
    have HNW := Lib.hid hnw
    clear hnw
    go_enter Try.func83, Try.ntmps83
    go_wp2_with (at_builtin; (refine wpList_append_has rfl _ _ 36 rfl Try.underlying36 elemI _ _ _ rfl hrow ⟨W.heap.size + 1, 0, none⟩ 1 1 [(Value.int .i64) fr] rfl rfl HNW.out ?k1 ?k2 ?k3 ?_))
    case k1 => exact one_int fr
    case k2 => unfold maxLen; omega
    case k3 => omega
    intro v' w7 h7 x7
    obtain ⟨A', c', rfl⟩ := h7.rowForm
    have y0 := h7.right.cell 0
    have y1 := h7.right.free 0
    have yl := h7.right.lt
    have hfin : Has (w7.setCell ⟨O, 0, none⟩ (.slice A' ((tabsOf vs).length + 1 + 1) c')) (gathT O root (vs ++ [⟨t, lev, at_, ⟨true, false, rg, us, di, fr⟩⟩]) * P) := by
      refine gathT_shut (A := A') (c := c') ?_
      unfold irow
      rw [hm.out, List.length_append, List.length_singleton, List.map_append]
      exact h7.p2.set 0 _
    go_wp2_with fail
    exact bodyPost_ret (v := .tuple #[]) (by simp [results, Try.results83]) rfl ⟨rfl, hfin, ((x1.alloc _).trans x7).set _ _⟩
  · have hm : tabsOf (vs ++ [⟨t, lev, at_, ⟨th, lf, rg, us, di, fr⟩⟩]) = tabsOf vs := by
      rw [tabsOf_append]
      unfold tabsOf
      rw [List.filterMap_cons]
      dsimp only
      rw [if_neg hn]
      simp
    have hfin : Has (W.alloc (.cells #[Value.bool th, Value.bool lf, (Value.int .i64) rg, Value.bool us, Value.bool di, (Value.int .i64) fr] 50)) (gathT O root (vs ++ [⟨t, lev, at_, ⟨th, lf, rg, us, di, fr⟩⟩]) * P) := by
      refine gathT_shut (A := A) (c := c) ?_
      rw [hm]
      exact h1.right
    cases th with
    | false =>
      go_enter Try.func83, Try.ntmps83
      go_wp2_with fail
      exact bodyPost_ret (v := .tuple #[]) (by simp [results, Try.results83]) rfl ⟨rfl, hfin, x1⟩
    | true =>
      cases lf with
      | false => exact absurd ⟨rfl, rfl⟩ hn
      | true =>
        go_enter Try.func83, Try.ntmps83
        go_wp2_with fail
        exact bodyPost_ret (v := .tuple #[]) (by simp [results, Try.results83]) rfl ⟨rfl, hfin, x1⟩
def listTb (y : Vs) (root : Int) : List Int := if y.code = 0 then root :: tabsOf y.vs else []
def ListedT (y : Vs) (root : Int) (R : HProp) (w : World) (e : Ending) (w' : World) : Prop :=
  ∃ A c, e = .returned (.tuple #[.slice A (listTb y root).length c, (Value.int .i64) y.code]) ∧ Has w' (irow (.slice A (listTb y root).length c) (listTb y root) * R) ∧ Ext w w'
theorem tables_any (f : Nat) (s : Ms) (root : Int) (R : HProp) (w : World) (hs : s.Ok) (h : Has w (framesAt f s * R)) :
    Calls Try.prog 38 #[.pointer (some ⟨f, 0, none⟩), (Value.int .i64) root] w (ListedT (eachV s 3 root 0) root (framesAt f s * R) w) := by
  have hmf : ∀ (fn : Fn) (first cap : Array Value) (w : World), (Instr.makeFunc fn first cap).run Try.prog w = .ok (.func fn first cap) w := fun _ _ _ _ => rfl
  have h0 := h.new #[(Value.int .i64) root] 3
  have h1 := h0.new #[.slice (some ⟨w.heap.size, 0, none⟩) 1 1] 36
  simp only [World.size_alloc] at h1
  have h2 : Has ((w.alloc (.cells #[(Value.int .i64) root] 3)).alloc (.cells #[.slice (some ⟨w.heap.size, 0, none⟩) 1 1] 36)) (gathT (w.heap.size + 1) root [] * (framesAt f s * R)) :=
    gathT_shut (A := some ⟨w.heap.size, 0, none⟩) (c := 1) (Has.p2 (Has.rowOf (xs := [(Value.int .i64) root]) (n := 1) (size := 1) (Has.p2 h1) rfl (Nat.le_refl 1) (by unfold maxLen; omega) rfl rfl))
  have x1 := ((Ext.refl w).alloc (.cells #[(Value.int .i64) root] 3)).alloc (.cells #[.slice (some ⟨w.heap.size, 0, none⟩) 1 1] 36)
  have hE := each_any f s hs 83 #[.pointer (some ⟨w.heap.size + 1, 0, none⟩)] (enters_of Try.func83 (by kernel_rfl) rfl) (gathT (w.heap.size + 1) root) 5000
    (fun P vs v W hv hl h => seeT (w.heap.size + 1) root P vs v W hv hl h) 3 (by omega) R root 0 [] _ (by omega) (by decide) (by decide) h2
  rw [List.nil_append] at hE
  have hln := Lib.hid (show listTb (eachV s 3 root 0) root = if (eachV s 3 root 0).code = 0 then root :: tabsOf (eachV s 3 root 0).vs else [] from rfl)
  generalize eachV s 3 root 0 = y at *
  by_cases hc : y.code = 0
  · have hm : listTb y root = root :: tabsOf y.vs := by rw [hln.out, if_pos hc]
    have HM := Lib.hid hm
    clear hm
    go_enter Try.func38, Try.ntmps38
    go_wp2_with (refine hE.mono ?_; rintro e w2 ⟨rfl, h3, x3⟩; obtain ⟨A, c, h4⟩ := gathT_open h3; have c0 := h4.cell 0; have cl := h4.lt)
    exact bodyPost_ret (v := .tuple #[.slice A (root :: tabsOf y.vs).length c, (Value.int .i64) 0]) (by simp [results, Try.results38]) rfl ⟨A, c, by rw [HM.out, hc], by rw [HM.out]; exact h4.right, x1.trans x3⟩
  · have hm : listTb y root = [] := by rw [hln.out, if_neg hc]
    have HM := Lib.hid hm
    have hn : (y.code != 0) = true := by simpa using hc
    clear hm
    go_enter Try.func38, Try.ntmps38
    go_wp2_with (refine hE.mono ?_; rintro e w2 ⟨rfl, h3, x3⟩)
    exact bodyPost_ret (v := .tuple #[.slice none 0 0, (Value.int .i64) y.code]) (by simp [results, Try.results38]) rfl ⟨none, 0, by rw [HM.out]; rfl, by rw [HM.out]; exact Has.rowNil h3.right, x1.trans x3⟩
end Go.Proofs.Ytegkimecdonfgaa
namespace Go.Proofs.Ytegkimecdonfgaa
open Go.RowKit
def frA (f : Nat) (s : Ms) : HProp := ex fun s' => lift (s'.Ok ∧ Agree s' s) * framesAt f s'
section
variable {f : Nat} {s : Ms} {R : HProp} {w : World}
theorem frA_open (h : Has w (frA f s * R)) : ∃ s', s'.Ok ∧ Agree s' s ∧ Has w (framesAt f s' * R) := by
  unfold frA at h
  obtain ⟨s', h⟩ := has_ex_star.1 h
  rw [star_assoc] at h
  obtain ⟨⟨a, b⟩, h⟩ := has_lift.1 h
  exact ⟨s', a, b, h⟩
theorem frA_shut {s' : Ms} (h : Has w (framesAt f s' * R)) (ho : s'.Ok) (ha : Agree s' s) : Has w (frA f s * R) := by
  unfold frA
  refine has_ex_star.2 ⟨s', ?_⟩
  rw [star_assoc]
  exact has_lift.2 ⟨⟨ho, ha⟩, h⟩
end
section
variable (f : Nat) (s : Ms) (R : HProp) (w : World) (h : Has w (frA f s * R))
include h
theorem insA (root : Int) (x : Mp) : Calls Try.prog 13 #[.pointer (some ⟨f, 0, none⟩), (Value.int .i64) root, .agg #[(Value.int .i64) x.page, (Value.int .i64) x.size, (Value.int .i64) x.frame, (Value.int .i64) x.rights]] w (Res ((Value.int .i64) (insC s root x)) (frA f (insS s root x) * R) w) := by
  obtain ⟨s', ho, ha, h'⟩ := frA_open h
  refine (insT f s' root x R w ho h').mono ?_
  rintro e w' ⟨s2, ho2, ha2, he, h2, x2⟩
  rw [ha.insC] at he
  exact ⟨he, frA_shut h2 ho2 (ha2.trans (ha.insS root x)), x2⟩
omit h in
/-- What Remove comes to. -/
def RemovedA (f : Nat) (s : Ms) (r p : Int) (R : HProp) (w : World) (e : Ending) (w' : World) : Prop :=
  ∃ A n c, Res (.tuple #[(findM s r p).val, .slice A n c, (Value.int .i64) (findC s r p)]) (irow (.slice A n c) (remG s r p) * (frA f (remS s r p) * R)) w e w'
theorem remA (root p : Int) : Calls Try.prog 15 #[.pointer (some ⟨f, 0, none⟩), (Value.int .i64) root, (Value.int .i64) p] w (RemovedA f s root p R w) := by
  obtain ⟨s', ho, ha, h'⟩ := frA_open h
  refine (remT f s' root p R w ho h').mono ?_
  rintro e w' ⟨A, n, c, he, h2, x2⟩
  obtain ⟨ag, eg⟩ := ha.rem root p
  rw [ha.findC, ha.findM] at he
  rw [eg] at h2
  exact ⟨A, n, c, he, (frA_shut h2.p2 (remS_ok ho root p) ag).p2, x2⟩
theorem prA (root p ri : Int) : Calls Try.prog 19 #[.pointer (some ⟨f, 0, none⟩), (Value.int .i64) root, (Value.int .i64) p, (Value.int .i64) ri] w (Res (.tuple #[(prM s root p ri).val, (Value.int .i64) (prC s root p ri)]) (frA f (prS s root p ri) * R) w) := by
  obtain ⟨s', ho, ha, h'⟩ := frA_open h
  refine (prT f s' root p ri R w ho h').mono ?_
  rintro e w' ⟨he, h2, x2⟩
  obtain ⟨ag, ec, em⟩ := ha.pr root p ri
  rw [ec, em] at he
  exact ⟨he, frA_shut h2 (prS_ok ho root p ri) ag, x2⟩
theorem giveA (k : Int) : Calls Try.prog 17 #[.pointer (some ⟨f, 0, none⟩), .int .i64 k] w (Res (Value.bool (s.has k)) (frA f (s.giveS k) * R) w) := by
  obtain ⟨s', ho, ha, h'⟩ := frA_open h
  refine (giveF f s' k R w h' ho).mono ?_
  rintro e w' ⟨he, h2, x2⟩
  rw [ha.has] at he
  exact ⟨he, frA_shut h2 (ho.giveS k) (ha.giveS k), x2⟩
theorem takeA : Calls Try.prog 21 #[.pointer (some ⟨f, 0, none⟩)] w (Res ((Value.int .i64) s.topV) (frA f s.takeS * R) w) := by
  obtain ⟨s', ho, ha, h'⟩ := frA_open h
  refine (takeF f s' R w h' ho).mono ?_
  rintro e w' ⟨he, h2, x2⟩
  have : s'.topV = s.topV := by unfold Ms.topV; rw [ha.top]
  rw [this] at he
  exact ⟨he, frA_shut h2 ho.takeS ha.takeS, x2⟩
theorem freeA : Calls Try.prog 25 #[.pointer (some ⟨f, 0, none⟩)] w (Same ((Value.int .i64) (s.frees.length : Nat)) w) := by
  obtain ⟨s', ho, ha, h'⟩ := frA_open h
  have := freeF f s' R w h'
  rw [ha.fr] at this
  exact this
theorem listA (root : Int) : Calls Try.prog 33 #[.pointer (some ⟨f, 0, none⟩), (Value.int .i64) root] w (ListedM (eachV s 3 root 0) (frA f s * R) w) := by
  obtain ⟨s', ho, ha, h'⟩ := frA_open h
  have := list_any f s' root R w ho h'
  rw [ha.eachV] at this
  refine this.mono ?_
  rintro e w' ⟨A, c, he, h2, x2⟩
  exact ⟨A, c, he, (frA_shut h2.p2 ho ha).p2, x2⟩
theorem tablesA (root : Int) : Calls Try.prog 38 #[.pointer (some ⟨f, 0, none⟩), (Value.int .i64) root] w (ListedT (eachV s 3 root 0) root (frA f s * R) w) := by
  obtain ⟨s', ho, ha, h'⟩ := frA_open h
  have := tables_any f s' root R w ho h'
  rw [ha.eachV] at this
  refine this.mono ?_
  rintro e w' ⟨A, c, he, h2, x2⟩
  exact ⟨A, c, he, (frA_shut h2.p2 ho ha).p2, x2⟩
end
end Go.Proofs.Ytegkimecdonfgaa
namespace Go.Proofs.Ytegkimecdonfgaa
open Go.RowKit
section
variable {s : Ms} {r : Int} {gone : List Int} {X : Int → Prop}
theorem scan_code (s : Ms) (L : Nat) (t a : Int) : ∀ is : List Nat, (∀ i ∈ is, decC (wordV s t i) L = 0 ∧ ((decE (wordV s t i) L).there = true ∧ (decE (wordV s t i) L).leaf = false → (subV s L (decE (wordV s t i) L).frame (a * 8 + i)).code = 0)) → (scanV s L t a (subV s L) is).code = 0
  | [], _ => rfl
  | i :: is, h => by
    obtain ⟨h1, h2⟩ := h i (List.mem_cons_self ..)
    have ih := scan_code s L t a is fun j hj => h j (List.mem_cons_of_mem _ hj)
    unfold scanV
    rw [if_neg (by rw [h1]; simp)]
    dsimp only
    by_cases he : (decE (wordV s t i) L).there = true ∧ (decE (wordV s t i) L).leaf = false
    · rw [if_pos he, if_neg (by rw [h2 he]; simp)]
      exact ih
    · rw [if_neg he, if_neg (by simp)]
      exact ih
/-- What a look over all entries below a table comes to. -/
structure AllOk (s : Ms) (r : Int) (L : Nat) (t a : Int) : Prop where
  code : (eachV s L t a).code = 0
  maps : ∀ m ∈ mapsOf (eachV s L t a).vs, MapOk m ∧ a * pow8 (L + 1) ≤ m.page ∧ m.page + span m.size ≤ (a + 1) * pow8 (L + 1)
  up : (mapsOf (eachV s L t a).vs).Pairwise fun x y => x.page + span x.size ≤ y.page
  tabs : ∀ u, u ∈ tabsOf (eachV s L t a).vs ↔ ∃ q e, InP q ∧ q / pow8 (L + 1) = a ∧ 3 - L < e ∧ e ≤ 3 ∧ tabD s r q e = some u
  nd : (tabsOf (eachV s L t a).vs).Nodup
theorem pre_at {q a : Int} {L i : Nat} (hq : InP q) (hL : L ≤ 3) (h : q / pow8 (L + 1) = a) (hi : index q L = i) : q / pow8 L = a * 8 + i := by
  have h0 := pow8_pos L
  rw [pow8_succ, Int.mul_comm, ← Int.ediv_ediv_of_nonneg (by omega)] at h
  unfold index at hi
  rw [if_pos ⟨hq.1, hq.2, by omega, by omega⟩, Int.toNat_natCast] at hi
  omega
/-- What one entry gives. -/
structure OneOk (s : Ms) (r : Int) (L : Nat) (t a : Int) (i : Nat) : Prop where
  code : decC (wordV s t i) L = 0 ∧ ((decE (wordV s t i) L).there = true ∧ (decE (wordV s t i) L).leaf = false → (subV s L (decE (wordV s t i) L).frame (a * 8 + i)).code = 0)
  maps : ∀ m ∈ contr s L t a i, MapOk m ∧ (a * 8 + i) * pow8 L ≤ m.page ∧ m.page + span m.size ≤ (a * 8 + i + 1) * pow8 L
  up : (contr s L t a i).Pairwise fun x y => x.page + span x.size ≤ y.page
  tabs : ∀ u, u ∈ contrT s L t a i ↔ ∃ q e, InP q ∧ q / pow8 L = a * 8 + i ∧ 3 - L < e ∧ e ≤ 3 ∧ tabD s r q e = some u
  nd : (contrT s L t a i).Nodup
theorem leaf_mapOk {w : Int} {L : Nat} {p : Int} (hp : InP p) (hc : decC w L = 0) (hl : (decE w L).leaf = true) : MapOk (leafMap (decE w L) L p) ∧ leafMap (decE w L) L p = ⟨p / pow8 L * pow8 L, L, (decE w L).frame, (decE w L).rights⟩ ∧ L < 3 := by
  obtain ⟨ht, _, h3, _, hf⟩ := dec_leaf hc hl
  have h3' : L < 3 := by omega
  have hs := span_pow h3'
  have e1 := leafMap_eq hp hf hl hs
  have hk := entOk_of hf ht
  have hL := (hk.leaf hl).2
  rw [hs] at hL
  have k1 := hk.r0; have k2 := hk.r7; have k3 := hk.f0; have k4 := hk.f1
  have hp' : 0 ≤ p ∧ p < 4096 := hp
  refine ⟨?_, e1, h3'⟩
  rw [e1]
  refine mapOk_of ?_
  unfold check
  dsimp only
  rw [hs]
  have h8 := pow8_pos L
  have hd : L = 0 ∨ L = 1 ∨ L = 2 := by omega
  rw [if_neg (by omega), if_neg, if_neg]
  · rw [Int.mul_emod_left]; omega
  · generalize (decE w L).rights = ri at *
    generalize (decE w L).frame = fr at *
    clear e1 ht hl hf hk hL hs h8 hc
    rcases hd with h | h | h <;> rw [h] <;> simp only [pow8] <;> omega
theorem one_ok (hw : Wf s r gone X) {L : Nat} (hL : L ≤ 3) {p t a : Int} (hp : InP p) (ht : tabD s r p (3 - L) = some t) (ha : p / pow8 (L + 1) = a) (i : Nat) (hi : i < 8)
    (ih : ∀ K, L = K + 1 → ∀ {q u : Int}, InP q → tabD s r q (3 - K) = some u → AllOk s r K u (q / pow8 (K + 1))) : OneOk s r L t a i := by
  obtain ⟨q, hq, hpre, hix, hmod⟩ := page_at hp hL i hi
  rw [ha] at hpre
  have hq8 := pre_at hq hL hpre hix
  have e33 : 3 - (3 - L) = L := by omega
  have hqt : tabD s r q (3 - L) = some t := by
    rw [← ht]
    refine tabD_prefix s r hq hp (3 - L) (by omega) ?_
    rw [show 4 - (3 - L) = L + 1 by omega, hpre, ha]
  have hdec : decC (wordV s t i) L = 0 := by
    have := hw.dec hq (show 3 - L ≤ 3 by omega) hqt i hi
    rw [e33] at this
    exact this
  have h0 := pow8_pos L
  have hqe : q = (a * 8 + i) * pow8 L := by
    have := Int.mul_ediv_add_emod q (pow8 L)
    rw [hq8, hmod] at this
    rw [Int.mul_comm]
    omega
  by_cases hl : (decE (wordV s t i) L).leaf = true
  · obtain ⟨m1, m2, h3⟩ := leaf_mapOk hq hdec hl
    have hc : contr s L t a i = [leafMap (decE (wordV s t i) L) L q] := by
      unfold contr
      dsimp only
      rw [if_pos hl, hqe]
    have hT : contrT s L t a i = [] := by
      unfold contrT
      dsimp only
      rw [if_neg (by rw [hl]; simp)]
    refine ⟨⟨hdec, fun h => by rw [hl] at h; cases h.2⟩, fun m hm => ?_, ?_, fun u => ?_, by rw [hT]; exact List.nodup_nil⟩
    · rw [hc, List.mem_singleton] at hm
      subst hm
      refine ⟨m1, ?_, ?_⟩
      · rw [m2, hq8]; exact Int.le_refl _
      · rw [m2, hq8]
        dsimp only
        rw [span_pow h3]
        have : (a * 8 + (i : Int) + 1) * pow8 L = (a * 8 + i) * pow8 L + pow8 L := by rw [Int.add_mul (a * 8 + i) 1, Int.one_mul]
        omega
    · rw [hc]; exact List.pairwise_singleton _ _
    · rw [hT]
      constructor
      · intro h; cases h
      · rintro ⟨x, e, hx, hx8, h1, h2, h3⟩
        exfalso
        have hxt : tabD s r x (3 - L) = some t := by
          rw [← hqt]
          refine tabD_prefix s r hx hq (3 - L) (by omega) ?_
          rw [show 4 - (3 - L) = L + 1 by omega]
          exact div_up (by omega) (hx8.trans hq8.symm)
        have hxi : index x L = i := by rw [index_div hx hq (hx8.trans hq8.symm)]; exact hix
        have hg : goB s x t (3 - (3 - L)) = false := by
          rw [e33]
          unfold goB eOf
          rw [hxi, hl]
          simp
        rw [tabD_none_mono (tabD_none hxt hg) e (by omega)] at h3
        cases h3
  · have hl' : (decE (wordV s t i) L).leaf = false := by simpa using hl
    by_cases hth : (decE (wordV s t i) L).there = true
    · -- a table
      have hg : goB s q t L = true := by
        refine goB_iff.2 ⟨(hw.at_ hq (show 3 - L ≤ 3 by omega) hqt).1, by rw [hix]; exact hdec, ?_, ?_⟩
        · unfold eOf; rw [hix]; exact hth
        · unfold eOf; rw [hix]; exact hl'
      cases L with
      | zero =>
        exfalso
        rcases dec0_leaf hdec with h | h
        · have h' : (decE (wordV s t i) (0 : Nat)).there = false := h
          rw [h'] at hth; cases hth
        · exact hl h
      | succ K =>
        have hv : tabD s r q (3 - K) = some (decE (wordV s t i) (K + 1 : Nat)).frame := by
          rw [show 3 - K = 3 - (K + 1) + 1 by omega]
          refine tabD_succ.2 ⟨t, hqt, by rw [e33]; exact hg, ?_⟩
          rw [e33]
          unfold eOf
          rw [hix]
        have hA := ih K rfl hq hv
        rw [hq8] at hA
        have hc : contr s (K + 1) t a i = mapsOf (eachV s K (decE (wordV s t i) (K + 1 : Nat)).frame (a * 8 + i)).vs := by
          unfold contr
          dsimp only
          rw [if_neg hl, if_pos hth]
          rfl
        have hT : contrT s (K + 1) t a i = (decE (wordV s t i) (K + 1 : Nat)).frame :: tabsOf (eachV s K (decE (wordV s t i) (K + 1 : Nat)).frame (a * 8 + i)).vs := by
          unfold contrT
          dsimp only
          rw [if_pos ⟨hth, hl'⟩]
          rfl
        refine ⟨⟨hdec, fun _ => hA.code⟩, fun m hm => ?_, by rw [hc]; exact hA.up, fun u => ?_, ?_⟩
        · rw [hc] at hm
          exact hA.maps m hm
        · rw [hT, List.mem_cons, hA.tabs u]
          constructor
          · rintro (rfl | ⟨x, e, hx, hx8, h1, h2, h3⟩)
            · exact ⟨q, 3 - K, hq, hq8, by omega, by omega, hv⟩
            · exact ⟨x, e, hx, hx8, by omega, h2, h3⟩
          · rintro ⟨x, e, hx, hx8, h1, h2, h3⟩
            by_cases he : e = 3 - K
            · subst he
              have : tabD s r x (3 - K) = tabD s r q (3 - K) := by
                refine tabD_prefix s r hx hq (3 - K) (by omega) ?_
                rw [show 4 - (3 - K) = K + 1 by omega]
                exact hx8.trans hq8.symm
              rw [h3, hv] at this
              injection this with this
              exact .inl this
            · exact .inr ⟨x, e, hx, hx8, by omega, h2, h3⟩
        · rw [hT, List.nodup_cons]
          refine ⟨fun hm => ?_, hA.nd⟩
          obtain ⟨x, e, hx, hx8, h1, h2, h3⟩ := (hA.tabs _).1 hm
          have := (hw.inj x q e (3 - K) _ hx hq h2 (by omega) h3 hv).1
          omega
    · -- nothing
      have hc : contr s L t a i = [] := by
        unfold contr
        dsimp only
        rw [if_neg hl, if_neg hth]
      have hT : contrT s L t a i = [] := by
        unfold contrT
        dsimp only
        rw [if_neg (fun h => hth h.1)]
      refine ⟨⟨hdec, fun h => absurd h.1 hth⟩, fun m hm => (by rw [hc] at hm; cases hm), (by rw [hc]; exact List.Pairwise.nil), fun u => ?_, (by rw [hT]; exact List.nodup_nil)⟩
      rw [hT]
      constructor
      · intro h; cases h
      · rintro ⟨x, e, hx, hx8, h1, h2, h3⟩
        exfalso
        have hxt : tabD s r x (3 - L) = some t := by
          rw [← hqt]
          refine tabD_prefix s r hx hq (3 - L) (by omega) ?_
          rw [show 4 - (3 - L) = L + 1 by omega]
          exact div_up (by omega) (hx8.trans hq8.symm)
        have hxi : index x L = i := by rw [index_div hx hq (hx8.trans hq8.symm)]; exact hix
        have hth' : (decE (wordV s t i) L).there = false := by simpa using hth
        have hg : goB s x t (3 - (3 - L)) = false := by
          rw [e33]
          unfold goB eOf
          rw [hxi, hth']
          simp
        rw [tabD_none_mono (tabD_none hxt hg) e (by omega)] at h3
        cases h3
theorem all_step (hw : Wf s r gone X) {L : Nat} (hL : L ≤ 3) {p t : Int} (hp : InP p) (ht : tabD s r p (3 - L) = some t)
    (ih : ∀ K, L = K + 1 → ∀ {q u : Int}, InP q → tabD s r q (3 - K) = some u → AllOk s r K u (q / pow8 (K + 1))) : AllOk s r L t (p / pow8 (L + 1)) := by
  have hone := fun i hi => one_ok hw hL hp ht rfl i hi ih
  generalize hpa : p / pow8 (L + 1) = a at *
  have hhas := (hw.at_ hp (show 3 - L ≤ 3 by omega) ht).1
  have hcode : (scanV s L t a (subV s L) (List.range 8)).code = 0 := scan_code s L t a _ fun i hi => (hone i (List.mem_range.1 hi)).code
  obtain ⟨_, hm, hT⟩ := scan_ok s L t a (List.range 8) hcode
  have ee : eachV s L t a = scanV s L t a (subV s L) (List.range 8) := by rw [eachV_eq, hhas]; rfl
  have h8 := pow8_pos L
  have hexp : a * pow8 (L + 1) = a * 8 * pow8 L := by rw [pow8_succ, Int.mul_assoc]
  have hexp1 : (a + 1) * pow8 (L + 1) = a * 8 * pow8 L + 8 * pow8 L := by rw [Int.add_mul, Int.one_mul, hexp, pow8_succ]
  have hrg : ∀ i : Nat, (a * 8 + (i : Int)) * pow8 L = a * 8 * pow8 L + i * pow8 L := fun i => Int.add_mul _ _ _
  have hrg1 : ∀ i : Nat, (a * 8 + (i : Int) + 1) * pow8 L = a * 8 * pow8 L + i * pow8 L + pow8 L := fun i => by rw [Int.add_mul, Int.add_mul, Int.one_mul]
  have hmul : ∀ i j : Nat, i ≤ j → (i : Int) * pow8 L ≤ j * pow8 L := fun i j h => Int.mul_le_mul_of_nonneg_right (by omega) (by omega)
  refine ⟨by rw [ee]; exact hcode, fun m hmm => ?_, ?_, fun u => ?_, ?_⟩
  · rw [ee, hm] at hmm
    obtain ⟨i, hi, hmi⟩ := List.mem_flatMap.1 hmm
    have hi8 := List.mem_range.1 hi
    obtain ⟨c1, c2, c3⟩ := (hone i hi8).maps m hmi
    rw [hrg] at c2
    rw [hrg1] at c3
    have a1 := hmul 0 i (by omega)
    have a2 := hmul (i + 1) 8 (by omega)
    refine ⟨c1, by rw [hexp]; simp at a1; omega, ?_⟩
    rw [hexp1]
    have e2 : ((i + 1 : Nat) : Int) * pow8 L = i * pow8 L + pow8 L := by rw [Int.natCast_add, Int.add_mul]; simp
    have e3 : ((8 : Nat) : Int) * pow8 L = 8 * pow8 L := rfl
    omega
  · rw [ee, hm, List.pairwise_flatMap]
    refine ⟨fun i hi => (hone i (List.mem_range.1 hi)).up, ?_⟩
    rw [List.pairwise_iff_getElem]
    intro i j hi hj hij x hx y hy
    simp only [List.length_range] at hi hj
    simp only [List.getElem_range] at hx hy
    obtain ⟨_, _, c3⟩ := (hone i hi).maps x hx
    obtain ⟨_, d2, _⟩ := (hone j hj).maps y hy
    rw [hrg1] at c3
    rw [hrg] at d2
    have a2 := hmul (i + 1) j (by omega)
    have e2 : ((i + 1 : Nat) : Int) * pow8 L = i * pow8 L + pow8 L := by rw [Int.natCast_add, Int.add_mul]; simp
    omega
  · rw [ee, hT, List.mem_flatMap]
    constructor
    · rintro ⟨i, hi, hu⟩
      obtain ⟨q, e, hq, hq8, h1, h2, h3⟩ := ((hone i (List.mem_range.1 hi)).tabs u).1 hu
      refine ⟨q, e, hq, ?_, h1, h2, h3⟩
      rw [pow8_succ, Int.mul_comm, ← Int.ediv_ediv_of_nonneg (by omega), hq8]
      have := List.mem_range.1 hi
      omega
    · rintro ⟨q, e, hq, hq8, h1, h2, h3⟩
      have hi := index_range hq hL
      refine ⟨(index q L).toNat, List.mem_range.2 (by omega), ((hone _ (by omega)).tabs u).2 ⟨q, e, hq, ?_, h1, h2, h3⟩⟩
      exact pre_at hq hL hq8 (by omega)
  · rw [ee, hT]
    unfold List.Nodup
    rw [List.pairwise_flatMap]
    refine ⟨fun i hi => (hone i (List.mem_range.1 hi)).nd, ?_⟩
    rw [List.pairwise_iff_getElem]
    intro i j hi hj hij x hx y hy hxy
    simp only [List.length_range] at hi hj
    simp only [List.getElem_range] at hx hy
    subst hxy
    obtain ⟨q, e, hq, hq8, h1, h2, h3⟩ := ((hone i hi).tabs x).1 hx
    obtain ⟨q', e', hq', hq8', h1', h2', h3'⟩ := ((hone j hj).tabs x).1 hy
    obtain ⟨rfl, hpre⟩ := hw.inj q q' e e' x hq hq' h2 h2' h3 h3'
    have := div_up (show 4 - e ≤ L by omega) hpre
    omega
theorem all_ok (hw : Wf s r gone X) : ∀ L, L ≤ 3 → ∀ {p t : Int}, InP p → tabD s r p (3 - L) = some t → AllOk s r L t (p / pow8 (L + 1)) := by
  intro L
  induction L with
  | zero => intro hL p t hp ht; exact all_step hw hL hp ht fun K hK => by omega
  | succ L ih =>
    intro hL p t hp ht
    refine all_step hw hL hp ht fun K hK => ?_
    obtain rfl : L = K := by omega
    exact ih (by omega)
/-- All that a root's tables map. -/
def allM (s : Ms) (r : Int) : List Mp := mapsOf (eachV s 3 r 0).vs
def allT (s : Ms) (r : Int) : List Int := r :: tabsOf (eachV s 3 r 0).vs
theorem list_link (hw : Wf s r gone X) : (eachV s 3 r 0).code = 0 ∧ Lk s r (allM s r) ∧ (allT s r).Nodup ∧ ∀ t, t ∈ allT s r ↔ InT s r t := by
  have hA : AllOk s r 3 r ((0 : Int) / pow8 (3 + 1)) := all_ok hw 3 (by omega) (show InP 0 from ⟨by omega, by omega⟩) rfl
  have e0 : (0 : Int) / pow8 (3 + 1) = 0 := by decide
  rw [e0] at hA
  have htop : ∀ q, InP q → q / pow8 (3 + 1) = 0 := fun q hq => by
    have h4 : pow8 (3 + 1) = 4096 := rfl
    rw [h4]
    have := hq.1; have := hq.2
    omega
  refine ⟨hA.code, ⟨⟨fun m hm => (hA.maps m hm).1, hA.up⟩, fun q hq => ?_⟩, ?_, fun t => ?_⟩
  · have hl := (list_way s q hq.1 hq.2 3 (by omega) r 0 [] hA.code (by omega) (by decide)).2 (htop q hq)
    have hwy : way s r q = wayA s q 3 r [] := by
      unfold way
      rw [if_pos (by unfold hasB; rw [decide_eq_true hq.1, decide_eq_true hq.2]; rfl)]
    show (mapsOf (eachV s 3 r 0).vs).find? (fun m => over m q) = mapAt s r q
    rw [← List.head?_filter, hl.2.1, ← hwy]
    unfold mapAt
    split <;> rfl
  · unfold allT
    rw [List.nodup_cons]
    refine ⟨fun hm => ?_, hA.nd⟩
    obtain ⟨q, e, hq, _, h1, h2, h3⟩ := (hA.tabs r).1 hm
    have := (hw.inj q q e 0 r hq hq h2 (by omega) h3 rfl).1
    omega
  · unfold allT
    rw [List.mem_cons, hA.tabs t]
    constructor
    · rintro (rfl | ⟨q, e, hq, _, h1, h2, h3⟩)
      · exact ⟨0, 0, ⟨by omega, by omega⟩, by omega, rfl⟩
      · exact ⟨q, e, hq, h2, h3⟩
    · rintro ⟨q, e, hq, h2, h3⟩
      cases e with
      | zero => injection h3 with h3; exact .inl h3.symm
      | succ e => exact .inr ⟨q, e + 1, hq, htop q hq, by omega, h2, h3⟩
end
end Go.Proofs.Ytegkimecdonfgaa
namespace Go.Proofs.Ytegkimecdonfgaa
open Go.RowKit
section
variable (f : Nat) (s : Ms) (gone : List Int) (X : Int → Prop) (hw : Wf s 0 gone X) (R : HProp) (w : World) (h : Has w (frA f s * R))
include hw h
theorem listW : Calls Try.prog 33 #[.pointer (some ⟨f, 0, none⟩), (Value.int .i64) 0] w fun e w' => ∃ A c, e = .returned (.tuple #[.slice A (allM s 0).length c, (Value.int .i64) 0]) ∧ Has w' (mrow (.slice A (allM s 0).length c) (allM s 0) * (frA f s * R)) ∧ Ext w w' := by
  refine (listA f s R w h 0).mono ?_
  have hc := (list_link hw).1
  have e1 : listM (eachV s 3 0 0) = allM s 0 := by unfold listM allM; rw [if_pos hc]
  rintro e w' ⟨A, c, he, h2, x2⟩
  rw [e1] at he h2
  rw [hc] at he
  exact ⟨A, c, he, h2, x2⟩
theorem tablesW : Calls Try.prog 38 #[.pointer (some ⟨f, 0, none⟩), (Value.int .i64) 0] w fun e w' => ∃ A c, e = .returned (.tuple #[.slice A (allT s 0).length c, (Value.int .i64) 0]) ∧ Has w' (irow (.slice A (allT s 0).length c) (allT s 0) * (frA f s * R)) ∧ Ext w w' := by
  refine (tablesA f s R w h 0).mono ?_
  have hc := (list_link hw).1
  have e1 : listTb (eachV s 3 0 0) 0 = allT s 0 := by unfold listTb allT; rw [if_pos hc]
  rintro e w' ⟨A, c, he, h2, x2⟩
  rw [e1] at he h2
  rw [hc] at he
  exact ⟨A, c, he, h2, x2⟩
end
end Go.Proofs.Ytegkimecdonfgaa
namespace Go.Proofs.Ytegkimecdonfgaa
open Go.RowKit
set_option maxRecDepth 100000
@[go_sem] def Ln.val (x : Ln) : Value := .agg #[(Value.int .i64) x.m.page, (Value.int .i64) x.m.size, (Value.int .i64) x.m.frame, (Value.int .i64) x.m.rights, Value.bool x.dirty]
def lnZero : Value := .agg #[(Value.int .i64) 0, (Value.int .i64) 0, (Value.int .i64) 0, (Value.int .i64) 0, Value.bool false]
theorem elemLn : Elem Try.prog 174 lnZero 5 40 := ⟨by kernel_rfl, rfl, by omega⟩
theorem ln_len (x : Ln) : x.cells.length = 5 := rfl
/-- A row of lines at value v. -/
def lrow (v : Value) (l : List Ln) : HProp := row 174 5 v l.length (lcells l)
section
variable {w : World} {R : HProp} {A : Option Addr} {n c : Nat} {l : List Ln}
theorem lrow_len (h : Has w (lrow (.slice A n c) l * R)) : n = l.length := by
  rcases Has.rowCases (e := 174) (size := 5) h with ⟨hv, h0, _⟩ | ⟨g, cap, cur, hv, _⟩
  · injection hv with a b
    omega
  · injection hv
theorem lrow_small (h : Has w (lrow (.slice A n c) l * R)) : n ≤ 9223372036854775807 ∧ n ≤ c := by
  obtain rfl := lrow_len h
  refine ⟨(Has.rowLens (e := 174) (size := 5) h).2, ?_⟩
  rcases Has.rowCases (e := 174) (size := 5) h with ⟨hv, h0, _⟩ | ⟨g, cap, cur, hv, h1, _⟩
  · injection hv with a b
    omega
  · injection hv with a b d
    omega
/-- The cells of one of them. -/
theorem lrow_at (h : Has w (lrow (.slice A n c) l * R)) {k : Nat} (hk : k < l.length) :
    ∃ b, A = some ⟨b, 0, none⟩ ∧ b < w.heap.size ∧
      (w.cell? ⟨b, k * 5, none⟩ = some ((Value.int .i64) l[k].m.page) ∧ w.cell? ⟨b, k * 5 + 1, none⟩ = some ((Value.int .i64) l[k].m.size) ∧ w.cell? ⟨b, k * 5 + 2, none⟩ = some ((Value.int .i64) l[k].m.frame) ∧ w.cell? ⟨b, k * 5 + 3, none⟩ = some ((Value.int .i64) l[k].m.rights) ∧ w.cell? ⟨b, k * 5 + 4, none⟩ = some (Value.bool l[k].dirty)) ∧
      (w.frozen? ⟨b, k * 5, none⟩ = false ∧ w.frozen? ⟨b, k * 5 + 1, none⟩ = false ∧ w.frozen? ⟨b, k * 5 + 2, none⟩ = false ∧ w.frozen? ⟨b, k * 5 + 3, none⟩ = false ∧ w.frozen? ⟨b, k * 5 + 4, none⟩ = false) := by
  obtain rfl := lrow_len h
  have g := fun t (ht : t < 5) => Has.rowGet (e := 174) (size := 5) h (i := k * 5 + t) (u := (l[k].cells[t]'(by rw [ln_len]; exact ht))) (by
    have := flat_get (cells := Ln.cells) ln_len hk ht
    rw [List.getElem?_eq_getElem (l := l[k].cells) (by rw [ln_len]; exact ht)] at this
    exact this)
  obtain ⟨b, rfl, hb, c0, f0⟩ := g 0 (by omega)
  obtain ⟨b1, e1, _, c1, f1⟩ := g 1 (by omega)
  obtain ⟨b2, e2, _, c2, f2⟩ := g 2 (by omega)
  obtain ⟨b3, e3, _, c3, f3⟩ := g 3 (by omega)
  obtain ⟨b4, e4, _, c4, f4⟩ := g 4 (by omega)
  injection e1 with e1; injection e1 with e1; subst e1
  injection e2 with e2; injection e2 with e2; subst e2
  injection e3 with e3; injection e3 with e3; subst e3
  injection e4 with e4; injection e4 with e4; subst e4
  exact ⟨b, rfl, hb, ⟨c0, c1, c2, c3, c4⟩, f0, f1, f2, f3, f4⟩
/-- One of them is written. -/
theorem lrow_set {g : Nat} (h : Has w (lrow (.slice (some ⟨g, 0, none⟩) n c) l * R)) {k : Nat} (hk : k < l.length) (x : Ln) :
    Has (((((w.setCell ⟨g, k * 5, none⟩ ((Value.int .i64) x.m.page)).setCell ⟨g, k * 5 + 1, none⟩ ((Value.int .i64) x.m.size)).setCell ⟨g, k * 5 + 2, none⟩ ((Value.int .i64) x.m.frame)).setCell ⟨g, k * 5 + 3, none⟩ ((Value.int .i64) x.m.rights)).setCell ⟨g, k * 5 + 4, none⟩ (Value.bool x.dirty))
      (lrow (.slice (some ⟨g, 0, none⟩) n c) (l.set k x) * R) := by
  obtain rfl := lrow_len h
  have h1 := Has.rowSetCells (e := 174) (size := 5) x.cells (k * 5) h (by rw [ln_len]; omega)
  rw [ln_len] at h1
  have e1 := flat_set (cells := Ln.cells) ln_len hk x
  have e2 : (lcells l).take (k * 5) ++ (x.cells ++ (lcells l).drop (k * 5 + 5)) = lcells (l.set k x) := e1
  rw [e2] at h1
  unfold lrow
  rw [List.length_set]
  exact h1
end
/-- Where the first line is that something holds of. -/
def fidx (p : Ln → Bool) (l : List Ln) : Int := match l.findIdx? p with | some k => (k : Int) | none => -1
theorem fidx_hit {p : Ln → Bool} {l : List Ln} {k : Nat} (hk : k < l.length) (h : p l[k] = true) (ha : ∀ j (hj : j < l.length), j < k → p l[j] = false) : fidx p l = k := by
  unfold fidx
  rw [List.findIdx?_eq_some_iff_getElem.2 ⟨hk, h, fun j hj => by rw [ha j (by omega) hj]; decide⟩]
theorem fidx_miss {p : Ln → Bool} {l : List Ln} (ha : ∀ j (hj : j < l.length), p l[j] = false) : fidx p l = -1 := by
  unfold fidx
  rw [List.findIdx?_eq_none_iff.2 fun x hx => by
    obtain ⟨j, hj, rfl⟩ := List.getElem_of_mem hx
    exact ha j hj]
theorem fidx_cases (p : Ln → Bool) (l : List Ln) : (fidx p l = -1 ∧ ∀ j (hj : j < l.length), p l[j] = false) ∨ ∃ (k : Nat) (h : k < l.length), fidx p l = k ∧ p l[k] = true ∧ ∀ j (hj : j < l.length), j < k → p l[j] = false := by
  cases hf : l.findIdx? p with
  | none =>
    have ha : ∀ j (hj : j < l.length), p l[j] = false := fun j hj => by simpa using List.findIdx?_eq_none_iff.1 hf _ (List.getElem_mem hj)
    exact .inl ⟨fidx_miss ha, ha⟩
  | some k =>
    obtain ⟨hk, h1, h2⟩ := List.findIdx?_eq_some_iff_getElem.1 hf
    have ha : ∀ j (hj : j < l.length), j < k → p l[j] = false := fun j hj hjk => by simpa using h2 j hjk
    exact .inr ⟨k, hk, fidx_hit hk h1 ha, h1, ha⟩
theorem indexFunc_ln (l : List Ln) (p : Ln → Bool) (g : Nat) (cap : Array Value) (A : Option Addr) (n c : Nat) (R : HProp) (w : World) (h : Has w (lrow (.slice A n c) l * R))
    (eg : ∀ args w, (callFunc g args).run Try.prog w = .ok (.enter g args) w)
    (hp : ∀ x ∈ l, ∀ W, Has W R → Calls Try.prog g (#[x.val] ++ cap) W (Pure (Value.bool (p x)) W)) :
    Calls Try.prog 131 #[.slice A n c, .func (.func g) #[] cap] w (Pure ((Value.int .i64) (fidx p l)) w) := by
  obtain rfl := lrow_len h
  obtain ⟨hbig, _⟩ := lrow_small h
  have HP := Lib.hid hp
  clear hp
  go_enter Try.func131, Try.ntmps131
  go_wp2_with fail
  go_loopw [5, 8] (fun _ s8 wr => ∃ k : Nat, k ≤ l.length ∧ s8 = (Value.int .i64) k ∧ Below w.heap.size w wr ∧ Hid (∀ j (hj : j < l.length), j < k → p l[j] = false)) (fun _ s8 _ => l.length - (intOf s8).toNat)
  case atStart => exact ⟨0, Nat.zero_le _, rfl, Below.refl _ _, Lib.hid fun j _ h => absurd h (Nat.not_lt_zero _)⟩
  case round =>
    obtain ⟨k, hk, rfl, BW, HA⟩ := hrel
    by_cases hlt : k < l.length
    · have h' := h.below BW
      obtain ⟨b, rfl, hb, ⟨c0, c1, c2, c3, c4⟩, _⟩ := lrow_at h' hlt
      have hc := HP.out l[k] (List.getElem_mem hlt) wr h'.right
      have hz := Lib.hid (show (l[k] = l[k]) from rfl)
      generalize hx : l[k] = x at c0 c1 c2 c3 c4 hc
      have HX := Lib.hid hx
      clear hx hz h'
      have BW' := Lib.hid BW
      clear BW h
      cases hq : p x with
      | true =>
        rw [hq] at hc
        go_wp2_with (go_at_fn g; refine hc.mono ?_; rintro e w' ⟨rfl, hb'⟩)
        go_ret
        exact ⟨by rw [fidx_hit hlt (by rw [HX.out]; exact hq) HA.out]; rfl, BW'.out.trans (hb'.mono BW'.out.size)⟩
      | false =>
        rw [hq] at hc
        go_wp2_with (go_at_fn g; refine hc.mono ?_; rintro e w' ⟨rfl, hb'⟩)
        go_roundw
        case rel =>
          refine ⟨k + 1, by omega, by go_num, BW'.out.trans (hb'.mono BW'.out.size), Lib.hid fun j hj hjk => ?_⟩
          by_cases e : j = k
          · subst e; rw [HX.out]; exact hq
          · exact HA.out j hj (by omega)
        case measure => simp [intOf]; omega
    · have : k = l.length := by omega
      subst this
      go_wp2_with fail
      go_ret
      exact ⟨by rw [fidx_miss fun j hj => HA.out j hj hj]; rfl, BW⟩
end Go.Proofs.Ytegkimecdonfgaa
namespace Go.Proofs.Ytegkimecdonfgaa
open Go.RowKit
set_option maxRecDepth 100000
theorem lzero_v : ∀ w, (zeroValue 174).run Try.prog w = .ok lnZero w := Try.zeroValue174
section
variable {w : World} {R : HProp} {n c : Nat} {l : List Ln}
/-- What a 'clear' of its last elements comes to. -/
theorem lrow_clear {g i : Nat} (h : Has w (lrow (.slice (some ⟨g, 0, none⟩) n c) l * R)) (hi : i < n) : ∀ ty, (Builtin.clear_ #[187] ty #[.slice (some ⟨g, i * 5, none⟩) (n - i) (c - i)]).run Try.prog w = .ok (.tuple #[]) (w.setCells g (i * 5) (Builtin.zeroCells lnZero.cells (n - i)).toList) := by
  intro ty
  have hl := lrow_len h
  subst hl
  have hg : ∀ j, j < (l.length - i) * 5 → (w.cell? ⟨g, i * 5 + j, none⟩).isSome = true ∧ w.frozen? ⟨g, i * 5 + j, none⟩ = false := fun j hj => by
    obtain ⟨b, hb, _, hc, hf⟩ := Has.rowGet (e := 174) (size := 5) h (i := i * 5 + j) (u := (lcells l)[i * 5 + j]'(by rw [lcells_len]; omega)) (List.getElem?_eq_getElem _)
    injection hb with hb
    injection hb with hb
    subst hb
    exact ⟨by rw [hc]; rfl, hf⟩
  exact run_clear_cells w _ _ ty lnZero 5 Try.underlying187 lzero_v rfl (by intro v hv; simp [lnZero, Value.cells] at hv; rcases hv with rfl | rfl <;> rfl) g (i * 5) _ _ (by omega) (by omega) (fun j hj => (hg j hj).1) (fun j hj => (hg j hj).2)
theorem lrow_cut {g i : Nat} (h : Has w (lrow (.slice (some ⟨g, 0, none⟩) n c) l * R)) (hi : i ≤ n) (zs : List Value) : Has (w.setCells g (i * 5) zs) (lrow (.slice (some ⟨g, 0, none⟩) i c) (l.take i) * R) := by
  have hl := lrow_len h
  subst hl
  have h1 := Has.rowCut (e := 174) (size := 5) h hi
  have h2 := Has.rowSpareCells zs (i * 5) h1 (Nat.le_refl _)
  unfold lrow
  rw [List.length_take, Nat.min_eq_left hi]
  rw [show (lcells l).take (i * 5) = lcells (l.take i) from flat_take ln_len l i] at h2
  exact h2
end
theorem Ext.setCells {w0 : World} (b : Nat) : ∀ (vs : List Value) (o : Nat) {w : World}, Ext w0 w → Ext w0 (w.setCells b o vs)
  | [], _, _, h => h
  | _ :: r, o, _, h => Ext.setCells b r (o + 1) (h.set _ _)
theorem filter_next {p : Ln → Bool} {l : List Ln} {j : Nat} (hj : j < l.length) : (l.take (j + 1)).filter p = (l.take j).filter p ++ (if p l[j] then [l[j]] else []) := by
  rw [List.take_succ_eq_append_getElem hj, List.filter_append]
  cases hq : p l[j] <;> simp [hq]
theorem deleteFunc_ln (l : List Ln) (p : Ln → Bool) (g : Nat) (cap : Array Value) (A : Option Addr) (n c : Nat) (R : HProp) (w : World) (h : Has w (lrow (.slice A n c) l * R))
    (eg : ∀ args w, (callFunc g args).run Try.prog w = .ok (.enter g args) w)
    (hp : ∀ x ∈ l, ∀ W, Has W R → Calls Try.prog g (#[x.val] ++ cap) W (Pure (Value.bool (p x)) W)) :
    Calls Try.prog 144 #[.slice A n c, .func (.func g) #[] cap] w
      (Res (.slice A (l.filter fun x => !p x).length c) (lrow (.slice A (l.filter fun x => !p x).length c) (l.filter fun x => !p x) * R) w) := by
  have hI := indexFunc_ln l p g cap A n c R w h eg hp
  obtain rfl := lrow_len h
  obtain ⟨hbig, hnc⟩ := lrow_small h
  have HP := Lib.hid hp
  clear hp
  rcases fidx_cases p l with ⟨e1, hall⟩ | ⟨k0, hk0, e1, ht, hall⟩
  · rw [e1] at hI
    have hf : (l.filter fun x => !p x) = l := List.filter_eq_self.2 fun x hx => by
      obtain ⟨j, hj, rfl⟩ := List.getElem_of_mem hx
      rw [hall j hj]; rfl
    rw [hf]
    clear hall e1 hf
    go_enter Try.func144, Try.ntmps144
    go_wp2_with (refine hI.mono ?_; rintro e w2 ⟨rfl, b2⟩)
    go_ret
    exact ⟨rfl, h.below b2, (Ext.refl w).below b2⟩
  · rw [e1] at hI
    have hne : ((k0 : Int) == -1) = false := beq_eq_false_iff_ne.2 (by omega)
    have hA := h
    obtain ⟨b, rfl, _⟩ := lrow_at hA hk0
    clear hA
    have HK := Lib.hid (show l.take k0 = (l.take (k0 + 1)).filter fun x => !p x by
      rw [filter_next hk0, ht]
      simp only [Bool.not_true, Bool.false_eq_true, if_false, List.append_nil]
      exact (List.filter_eq_self.2 fun x hx => by
        obtain ⟨j, hj, rfl⟩ := List.getElem_of_mem hx
        rw [List.length_take] at hj
        rw [List.getElem_take, hall j (by omega) (by omega)]; rfl).symm)
    clear hall ht e1
    go_enter Try.func144, Try.ntmps144
    go_wp2_with (refine hI.mono ?_; rintro e w2 ⟨rfl, b2⟩)
    have h2 := h.below b2
    have x2 := (Ext.refl w).below b2
    clear h hI
    go_loopw [5, 6, 7] (fun s5 s6 _ wr => ∃ (i j : Nat) (dk : List Ln), s5 = (Value.int .i64) i ∧ s6 = (Value.int .i64) j ∧ i < j ∧ j ≤ l.length ∧ dk.length = l.length ∧ Hid (dk.take i = (l.take j).filter fun x => !p x) ∧ Hid (dk.drop j = l.drop j) ∧ Has wr (lrow (.slice (some ⟨b, 0, none⟩) l.length c) dk * R) ∧ Ext w wr) (fun _ s6 _ _ => l.length - (intOf s6).toNat)
    case atStart => exact ⟨k0, k0 + 1, l, rfl, by go_num, by omega, by omega, rfl, HK, Lib.hid rfl, h2, x2⟩
    case round =>
      clear h2 x2 b2 HK
      obtain ⟨i, j, dk, rfl, rfl, hij, hjl, hdl, HT, HD, hr, hx⟩ := hrel
      by_cases hlt : j < l.length
      · have hj : j < dk.length := by omega
        have hxj : dk[j] = l[j] := by
          have e1 : (dk.drop j)[0]? = (l.drop j)[0]? := by rw [HD.out]
          simp only [List.getElem?_drop, Nat.add_zero] at e1
          rw [List.getElem?_eq_getElem hj, List.getElem?_eq_getElem hlt] at e1
          injection e1
        obtain ⟨b', hb', hb, ⟨c0, c1, c2, c3, c4⟩, _⟩ := lrow_at hr hj
        injection hb' with hb'
        injection hb' with hb'
        subst hb'
        rw [hxj] at c0 c1 c2 c3 c4
        have HX := Lib.hid (show l[j] ∈ l from List.getElem_mem hlt)
        have HN := Lib.hid (filter_next (p := fun x => !p x) hlt)
        have HDN := Lib.hid (show dk.drop (j + 1) = l.drop (j + 1) by
          have := HD.out
          rw [← List.drop_drop (j := j) (i := 1), ← List.drop_drop (j := j) (i := 1), this])
        clear hxj
        generalize l[j] = x at c0 c1 c2 c3 c4 HX HN
        have h3 := hr.new #[(Value.int .i64) x.m.page, (Value.int .i64) x.m.size, (Value.int .i64) x.m.frame, (Value.int .i64) x.m.rights, Value.bool x.dirty] 174
        have x3 := hx.alloc (.cells #[(Value.int .i64) x.m.page, (Value.int .i64) x.m.size, (Value.int .i64) x.m.frame, (Value.int .i64) x.m.rights, Value.bool x.dirty] 174)
        have hc := HP.out x HX.out _ h3.right.right
        clear hr hx
        cases hq : p x with
        | true =>
          rw [hq] at hc
          go_wp2_with (refine hc.mono ?_; rintro e w' ⟨rfl, b4⟩)
          have h4 := (h3.below b4).right
          have x4 := x3.below b4
          go_roundw
          case rel => exact ⟨i, j + 1, dk, rfl, by go_num, by omega, by omega, hdl, Lib.hid (by rw [HT.out, HN.out, hq]; simp), HDN, h4, x4⟩
          case measure => simp [intOf]; omega
        | false =>
          rw [hq] at hc
          have hi : i < dk.length := by omega
          go_wp2_with (refine hc.mono ?_; rintro e w' ⟨rfl, b4⟩; have h4 := h3.below b4; obtain ⟨a0, a1, a2, a3, a4⟩ := h4.cells5; obtain ⟨b', hb', gb, ⟨g0, g1, g2, g3, g4⟩, f0, f1, f2, f3, f4⟩ := lrow_at h4.right hi; injection hb' with hb'; injection hb' with hb'; subst hb')
          have h5 := lrow_set h4.right hi x
          go_roundw
          case rel =>
            refine ⟨i + 1, j + 1, dk.set i x, by go_num, by go_num, by omega, by omega, by rw [List.length_set]; exact hdl, Lib.hid ?_, Lib.hid ?_, h5, ((((((x3.below b4).set _ _).set _ _).set _ _).set _ _).set _ _)⟩
            · rw [HN.out, hq, ← HT.out, List.take_succ_eq_append_getElem (by rw [List.length_set]; exact hi), List.getElem_set_self, List.take_set_of_le (Nat.le_refl i)]
              simp
            · rw [List.drop_set_of_lt (by omega), HDN.out]
          case measure => simp [intOf]; omega
      · have hje : j = l.length := by omega
        subst hje
        obtain ⟨zs, hcl⟩ : ∃ zs, ∀ ty, (Builtin.clear_ #[187] ty #[.slice (some ⟨b, i * 5, none⟩) (l.length - i) (c - i)]).run Try.prog wr = .ok (.tuple #[]) (wr.setCells b (i * 5) zs) := ⟨_, lrow_clear hr hij⟩
        have hci : ¬ l.length ≤ i := by omega
        have hfin := lrow_cut hr (Nat.le_of_lt hij) zs
        have hf : dk.take i = l.filter fun x => !p x := by rw [HT.out, List.take_length]
        have hfl : (l.filter fun x => !p x).length = i := by rw [← hf, List.length_take]; omega
        have hF := Lib.hid hf
        have hFL := Lib.hid hfl
        clear hf hfl hr
        go_wp2_with fail
        go_ret
        rw [hFL.out, ← hF.out]
        exact ⟨rfl, hfin, Ext.setCells _ _ _ hx⟩
end Go.Proofs.Ytegkimecdonfgaa
namespace Go.Proofs.Ytegkimecdonfgaa
open Go.RowKit
set_option maxRecDepth 100000
theorem info_ln : (Try.prog.info? 174).map (fun i => (i.zero, i.size, i.bytes)) = some (some lnZero, 5, 40) := by kernel_rfl
theorem lrow_one {l : List Ln} : ∀ u ∈ lcells l, u.oneCell' = true := by
  intro u hu
  obtain ⟨x, _, hx⟩ := List.mem_flatMap.1 hu
  simp [Ln.cells] at hx
  rcases hx with rfl | rfl | rfl | rfl | rfl <;> rfl
theorem lrow_news {w : World} {R : HProp} {g n c : Nat} {l : List Ln} (h : Has w (lrow (.slice (some ⟨g, 0, none⟩) n c) l * R)) (k : Nat) :
    ∀ j u, ((lcells l).drop (k * 5))[j]? = some u → w.cell? ⟨g, k * 5 + j, none⟩ = some u := by
  intro j u hu
  rw [List.getElem?_drop] at hu
  obtain rfl := lrow_len h
  obtain ⟨b, hb, _, hc, _⟩ := Has.rowGet (e := 174) (size := 5) h hu
  injection hb with hb
  injection hb with hb
  subst hb
  exact hc
/-- Delete, of elements that are there. -/
theorem delete_ln (l : List Ln) (i j g n c : Nat) (R : HProp) (w : World) (hij : i < j) (hj : j ≤ n) (h : Has w (lrow (.slice (some ⟨g, 0, none⟩) n c) l * R)) :
    Calls Try.prog 121 #[.slice (some ⟨g, 0, none⟩) n c, .int .i64 i, .int .i64 j] w
      (Res (.slice (some ⟨g, 0, none⟩) (i + (n - j)) c) (lrow (.slice (some ⟨g, 0, none⟩) (i + (n - j)) c) (l.take i ++ l.drop j) * R) w) := by
  obtain rfl := lrow_len h
  obtain ⟨hbig, hnc⟩ := lrow_small h
  obtain ⟨i0, hi0, hz0, hz1, hz2⟩ := info_parts info_ln
  obtain ⟨A, hA, hnews⟩ : ∃ A : Addr, (if c = j then some (⟨g, 0, none⟩ : Addr) else some ⟨g, j * 5, none⟩) = some A ∧ Hid (∀ t u, ((lcells l).drop (j * 5))[t]? = some u → w.drew.cell? (A.add t) = some u) := by
    by_cases hc : c = j
    · refine ⟨⟨g, 0, none⟩, by simp [hc], fun t u hu => ?_⟩
      rw [List.drop_eq_nil_of_le (by rw [lcells_len]; omega)] at hu
      simp at hu
    · refine ⟨⟨g, j * 5, none⟩, by simp [hc], fun t u hu => ?_⟩
      rw [Addr.add_lit]
      exact lrow_news h j t u hu
  have s1 : Hid (((lcells l).drop (j * 5)).length = (l.length - j) * 5) := by rw [List.length_drop, lcells_len]; show _ = _; omega
  have s2 : Hid (∀ u ∈ (lcells l).drop (j * 5), u.oneCell' = true) := fun u hu => lrow_one u (List.mem_of_mem_drop hu)
  have s3 : Hid (∀ t, t < ((lcells l).drop (j * 5)).length → (w.drew.cell? ⟨g, 0 + i * 5 + t, none⟩).isSome = true ∧ w.drew.frozen? ⟨g, 0 + i * 5 + t, none⟩ = false) := by
    intro t ht
    rw [s1.out] at ht
    obtain ⟨b, hb, _, hc, hf⟩ := Has.rowGet (e := 174) (size := 5) h (i := i * 5 + t) (u := (lcells l)[i * 5 + t]'(by rw [lcells_len]; omega)) (List.getElem?_eq_getElem _)
    injection hb with hb
    injection hb with hb
    subst hb
    rw [Nat.zero_add]
    exact ⟨by show (w.cell? _).isSome = true; rw [hc]; rfl, hf⟩
  have hic : i ≤ c := by omega
  have hne : ((i : Int) == (j : Int)) = false := beq_eq_false_iff_ne.2 (by omega)
  go_enter Try.func121, Try.ntmps121
  go_wp2_with fail
  go_region_law (refine step_append_room rfl (.tmp 22) (.tmp 25) 187 rfl 174 i0 5 Try.underlying187 hi0 hz1 g 0 i c (by simp [Act.eval, Act.put]) A (l.length - j) (c - j) ((lcells l).drop (j * 5)) (by simp [Act.eval, Act.put]) s1.out hnews.out s2.out (by omega) s3.out ?_)
  have hn' : i + (l.length - j) < l.length := by omega
  have h1 := Has.rowSetCells (e := 174) (size := 5) ((lcells l).drop (j * 5)) (i * 5) h.drew (by rw [s1.out]; omega)
  have hz : (l.take i ++ l.drop j).length = i + (l.length - j) := by simp; omega
  obtain ⟨zs, hcl⟩ : ∃ zs, ∀ ty, (Builtin.clear_ #[187] ty #[.slice (some ⟨g, (i + (l.length - j)) * 5, none⟩) (l.length - (i + (l.length - j))) (c - (i + (l.length - j)))]).run Try.prog (w.drew.setCells g (i * 5) ((lcells l).drop (j * 5))) = .ok (.tuple #[]) ((w.drew.setCells g (i * 5) ((lcells l).drop (j * 5))).setCells g ((i + (l.length - j)) * 5) zs) := by
    refine ⟨_, fun ty => run_clear_cells _ _ _ ty lnZero 5 Try.underlying187 lzero_v rfl (by intro v hv; simp [lnZero, Value.cells] at hv; rcases hv with rfl | rfl <;> rfl) g _ _ _ (by omega) (by omega) (fun t ht => ?_) (fun t ht => ?_)⟩
    all_goals
      obtain ⟨b, hb, _, hc, hf⟩ := Has.rowGet (e := 174) (size := 5) h1 (i := (i + (l.length - j)) * 5 + t) (List.getElem?_eq_getElem (by rw [h1.rowLens.1]; omega))
      injection hb with hb
      injection hb with hb
      subst hb
    · rw [hc]; rfl
    · exact hf
  have hfin : Has ((w.drew.setCells g (i * 5) ((lcells l).drop (j * 5))).setCells g ((i + (l.length - j)) * 5) zs) (lrow (.slice (some ⟨g, 0, none⟩) (i + (l.length - j)) c) (l.take i ++ l.drop j) * R) := by
    have := Has.rowDelete (e := 174) (size := 5) (i := i) (j := j) h.drew (by omega) hj zs
    unfold lrow
    rw [hz, lcells_append]
    have e1 : (lcells l).take (i * 5) = lcells (l.take i) := flat_take ln_len l i
    have e2 : (lcells l).drop (j * 5) = lcells (l.drop j) := flat_drop ln_len l j
    rw [← e1, ← e2]
    exact this
  have hx : Ext w ((w.drew.setCells g (i * 5) ((lcells l).drop (j * 5))).setCells g ((i + (l.length - j)) * 5) zs) := Ext.setCells _ _ _ (Ext.setCells _ _ _ (Ext.refl w).drew)
  clear h1 s1 s2 s3 hnews hA h hz
  generalize (w.drew.setCells g (i * 5) ((lcells l).drop (j * 5))) = w1 at *
  generalize i + (l.length - j) = n' at *
  have hcn : ¬ c ≤ n' := by omega
  have hnn : (n' : Int) ≤ (l.length : Int) := by omega
  go_wp2_with fail
  go_ret
  exact ⟨rfl, hfin, hx⟩
/-- What stood in a world stands beside what is new. -/
theorem Has.onto {w w' : World} {P Q : HProp} (h : Has w P) (h' : Has w' (Q * old w w.heap.size)) : Has w' (Q * P) := by
  obtain ⟨x, s, px⟩ := h
  obtain ⟨_, s', h1, h2, d, rfl, q, rfl⟩ := h'
  have sub : ∀ b o, x b = some o → (fun b => if b < w.heap.size then w.heap[b]? else none) b = some o := fun b o e => by
    have h0 : w.heap[b]? = some o := s b o e
    have hlt : b < w.heap.size := (Array.getElem?_eq_some_iff.1 h0).1
    show (if b < w.heap.size then w.heap[b]? else none) = some o
    rw [if_pos hlt]
    exact h0
  refine ⟨Hpm.union h1 x, ?_, h1, x, ?_, rfl, q, px⟩
  · refine Hpm.sub_union (Hpm.sub_union_left s') fun b o e => ?_
    exact Hpm.sub_union_right d s' b o (sub b o e)
  · intro b
    rcases d b with e | e
    · exact .inl e
    · right
      cases hx : x b with
      | none => rfl
      | some o => rw [sub b o hx] at e; cases e
end Go.Proofs.Ytegkimecdonfgaa
namespace Go.Proofs.Ytegkimecdonfgaa
open Go.RowKit
set_option maxRecDepth 100000
theorem load_line {w : World} {R : HProp} {b : Nat} {v0 v1 v2 v3 v4 : Value} (h : Has w (blk b #[v0, v1, v2, v3, v4] 174 * R)) : (loadVar 174 ⟨b, 0, none⟩).run Try.prog w = .ok (.agg #[v0, v1, v2, v3, v4]) w :=
  run_loadVar_row w b 174 174 _ _ _ h.heap Try.underlying174 rfl (by kernel_rfl)
theorem Has.set5 {w : World} {R : HProp} {b : Nat} {v0 v1 v2 v3 v4 : Value} {t : TypeId} (h : Has w (blk b #[v0, v1, v2, v3, v4] t * R)) (u0 u1 u2 u3 u4 : Value) :
    Has (((((w.setCell ⟨b, 0, none⟩ u0).setCell ⟨b, 1, none⟩ u1).setCell ⟨b, 2, none⟩ u2).setCell ⟨b, 3, none⟩ u3).setCell ⟨b, 4, none⟩ u4) (blk b #[u0, u1, u2, u3, u4] t * R) :=
  ((((h.set 0 u0).set 1 u1).set 2 u2).set 3 u3).set 4 u4
theorem Has.frees5 {w : World} {R : HProp} {b : Nat} {v0 v1 v2 v3 v4 : Value} {t : TypeId} (h : Has w (blk b #[v0, v1, v2, v3, v4] t * R)) :
    w.frozen? ⟨b, 0, none⟩ = false ∧ w.frozen? ⟨b, 1, none⟩ = false ∧ w.frozen? ⟨b, 2, none⟩ = false ∧ w.frozen? ⟨b, 3, none⟩ = false ∧ w.frozen? ⟨b, 4, none⟩ = false :=
  ⟨h.free 0, h.free 1, h.free 2, h.free 3, h.free 4⟩
/-- What a core keeps, at block p. -/
def tlbIn (p : Nat) (A : Option Addr) (c : Nat) (l : List Ln) (R : HProp) : HProp := blk p #[.slice A l.length c] 189 * (lrow (.slice A l.length c) l * R)
def tlbAt (p : Nat) (l : List Ln) : HProp := ex fun A => ex fun c => tlbIn p A c l (lift True)
theorem star_lift (R : HProp) : lift True * R = R := by
  funext h
  apply propext
  constructor
  · rintro ⟨h1, h2, d, rfl, ⟨_, rfl⟩, q⟩
    have : Hpm.union Hpm.emp h2 = h2 := by funext b; simp [Hpm.union, Hpm.emp]
    rw [this]
    exact q
  · intro q
    exact ⟨Hpm.emp, h, fun b => .inl rfl, by funext b; simp [Hpm.union, Hpm.emp], ⟨trivial, rfl⟩, q⟩
theorem tlbAt_open {p : Nat} {l : List Ln} {R : HProp} {w : World} (h : Has w (tlbAt p l * R)) : ∃ A c, Has w (tlbIn p A c l R) := by
  unfold tlbAt at h
  obtain ⟨g, h⟩ := has_ex_star.1 h
  obtain ⟨vf, h⟩ := has_ex_star.1 h
  refine ⟨g, vf, ?_⟩
  unfold tlbIn at h ⊢
  simpa only [star_assoc, star_lift] using h
theorem tlbAt_shut {p c : Nat} {A : Option Addr} {l : List Ln} {R : HProp} {w : World} (h : Has w (tlbIn p A c l R)) : Has w (tlbAt p l * R) := by
  unfold tlbAt
  refine has_ex_star.2 ⟨A, has_ex_star.2 ⟨c, ?_⟩⟩
  unfold tlbIn at h ⊢
  simpa only [star_assoc, star_lift] using h
/-- Pages of lines are ints. -/
def LOk (l : List Ln) : Prop := ∀ x ∈ l, i64 x.m.page
theorem newT (R : HProp) (w : World) (h : Has w R) : Calls Try.prog 108 #[] w fun e w' => ∃ p, Res (.pointer (some ⟨p, 0, none⟩)) (tlbAt p [] * R) w e w' := by
  have h1 := h.new #[.slice none 0 0] 189
  have h2 : Has (w.alloc (.cells #[.slice none 0 0] 189)) (tlbIn w.heap.size none 0 [] R) := (Has.rowNil h1).p2
  go_enter Try.func108, Try.ntmps108
  go_wp2
  go_ret
  exact ⟨_, rfl, tlbAt_shut h2, (Ext.refl w).alloc _⟩
theorem find_closure (x : Ln) (k : Int) (X : Nat) (R : HProp) (w : World) (hx : i64 x.m.page) (hk : i64 k) (h : Has w (blk X #[(Value.int .i64) k] 3 * R)) :
    Calls Try.prog 132 #[x.val, .pointer (some ⟨X, 0, none⟩)] w (Pure (Value.bool (over x.m k)) w) := by
  have h1 := h.new #[(Value.int .i64) x.m.page, (Value.int .i64) x.m.size, (Value.int .i64) x.m.frame, (Value.int .i64) x.m.rights, Value.bool x.dirty] 174
  have bl := (Below.refl w.heap.size w).alloc (Nat.le_refl _) (.cells #[(Value.int .i64) x.m.page, (Value.int .i64) x.m.size, (Value.int .i64) x.m.frame, (Value.int .i64) x.m.rights, Value.bool x.dirty] 174)
  have c0 := h1.right.cell 0
  have hX := h1.right.lt
  obtain ⟨d0, d1, d2, d3, d4⟩ := h1.cells5
  go_enter Try.func132, Try.ntmps132
  go_wp2_with (refine (over_page x.m k _ hx hk).mono ?_; rintro e w2 ⟨rfl, b2⟩)
  go_ret
  exact ⟨rfl, bl.trans (b2.mono bl.size)⟩
theorem drop_closure (x : Ln) (m : Mp) (X : Nat) (R : HProp) (w : World) (hx : i64 x.m.page) (hm : i64 m.page) (h : Has w (blk X #[(Value.int .i64) m.page, (Value.int .i64) m.size, (Value.int .i64) m.frame, (Value.int .i64) m.rights] 24 * R)) :
    Calls Try.prog 145 #[x.val, .pointer (some ⟨X, 0, none⟩)] w (Pure (Value.bool (meet x.m m)) w) := by
  have h1 := h.new #[(Value.int .i64) x.m.page, (Value.int .i64) x.m.size, (Value.int .i64) x.m.frame, (Value.int .i64) x.m.rights, Value.bool x.dirty] 174
  have bl := (Below.refl w.heap.size w).alloc (Nat.le_refl _) (.cells #[(Value.int .i64) x.m.page, (Value.int .i64) x.m.size, (Value.int .i64) x.m.frame, (Value.int .i64) x.m.rights, Value.bool x.dirty] 174)
  obtain ⟨c0, c1, c2, c3⟩ := h1.right.cells4
  have hX := h1.right.lt
  obtain ⟨d0, d1, d2, d3, d4⟩ := h1.cells5
  go_enter Try.func145, Try.ntmps145
  go_wp2_with (refine (meet_any x.m m _ hx hm).mono ?_; rintro e w2 ⟨rfl, b2⟩)
  go_ret
  exact ⟨rfl, bl.trans (b2.mono bl.size)⟩
theorem evict_no (p : Nat) (R : HProp) (w : World) (h : Has w (tlbAt p [] * R)) :
    Calls Try.prog 93 #[.pointer (some ⟨p, 0, none⟩)] w (Res (Value.bool false) (tlbAt p [] * R) w) := by
  obtain ⟨A, c, h⟩ := tlbAt_open h
  have c0 : w.cell? ⟨p, 0, none⟩ = some (.slice A 0 c) := h.cell 0
  have hp := h.lt
  go_enter Try.func93, Try.ntmps93
  go_wp2_with fail
  go_ret
  exact ⟨rfl, tlbAt_shut h, Ext.refl _⟩
theorem evict_yes (p : Nat) (l : List Ln) (R : HProp) (w : World) (hl : 0 < l.length) (h : Has w (tlbAt p l * R)) :
    Calls Try.prog 93 #[.pointer (some ⟨p, 0, none⟩)] w (Res (Value.bool true) (tlbAt p l.tail * R) w) := by
  obtain ⟨A, c, h⟩ := tlbAt_open h
  obtain ⟨g, rfl, _⟩ := lrow_at (k := 0) h.right hl
  have hC := delete_ln l 0 1 g l.length c _ w (by omega) (by omega) h.p2
  have hne : ((l.length : Int) == 0) = false := beq_eq_false_iff_ne.2 (by omega)
  have e1 : l.take 0 ++ l.drop 1 = l.tail := by simp
  have e2 : 0 + (l.length - 1) = l.tail.length := by simp
  rw [e1, e2] at hC
  clear e1 e2
  have c0 : w.cell? ⟨p, 0, none⟩ = some (.slice (some ⟨g, 0, none⟩) l.length c) := h.cell 0
  have hp := h.lt
  have hbig := (lrow_small h.right).1
  clear h
  generalize l.tail = l' at *
  go_enter Try.func93, Try.ntmps93
  go_wp2_with (refine hC.mono ?_; rintro e w2 ⟨rfl, h2, x2⟩; have d0 := h2.right.lt; have d1 := h2.right.free 0; have d2 := h2.right.cell 0)
  go_ret
  exact ⟨rfl, tlbAt_shut (h2.p2.set 0 _), x2.set _ _⟩
theorem dropT (p : Nat) (l : List Ln) (m : Mp) (R : HProp) (w : World) (hok : LOk l) (hm : i64 m.page) (h : Has w (tlbAt p l * R)) :
    Calls Try.prog 138 #[.pointer (some ⟨p, 0, none⟩), .agg #[(Value.int .i64) m.page, (Value.int .i64) m.size, (Value.int .i64) m.frame, (Value.int .i64) m.rights]] w (Res ((Value.int .i64) ((l.length : Int) - (Tl.drop l m).length)) (tlbAt p (Tl.drop l m) * R) w) := by
  have hmf : ∀ (fn : Fn) (first cap : Array Value) (w : World), (Instr.makeFunc fn first cap).run Try.prog w = .ok (.func fn first cap) w := fun _ _ _ _ => rfl
  obtain ⟨A, c, h⟩ := tlbAt_open h
  have h1 := h.new #[(Value.int .i64) m.page, (Value.int .i64) m.size, (Value.int .i64) m.frame, (Value.int .i64) m.rights] 24
  have x1 := (Ext.refl w).alloc (.cells #[(Value.int .i64) m.page, (Value.int .i64) m.size, (Value.int .i64) m.frame, (Value.int .i64) m.rights] 24)
  have hbig := (lrow_small h.right).1
  have c0 := h1.right.cell 0
  have hp := h1.right.lt
  have h2 : Has (w.alloc (.cells #[(Value.int .i64) m.page, (Value.int .i64) m.size, (Value.int .i64) m.frame, (Value.int .i64) m.rights] 24)) (lrow (.slice A l.length c) l * (blk w.heap.size #[(Value.int .i64) m.page, (Value.int .i64) m.size, (Value.int .i64) m.frame, (Value.int .i64) m.rights] 24 * (blk p #[.slice A l.length c] 189 * R))) := h1.eq (by unfold tlbIn; (simp only [star_assoc, star_left_comm, star_comm]))
  have hC := deleteFunc_ln l (fun x => meet x.m m) 145 #[.pointer (some ⟨w.heap.size, 0, none⟩)] A l.length c _ _ h2 (enters_of Try.func145 (by kernel_rfl) rfl) (fun x hx W hW => drop_closure x m _ _ W (hok x hx) hm hW)
  have hle : (Tl.drop l m).length ≤ l.length := List.length_filter_le _ _
  have hC2 : Calls Try.prog 144 #[.slice A l.length c, .func (.func 145) #[] #[.pointer (some ⟨w.heap.size, 0, none⟩)]] (w.alloc (.cells #[(Value.int .i64) m.page, (Value.int .i64) m.size, (Value.int .i64) m.frame, (Value.int .i64) m.rights] 24))
      (Res (.slice A (Tl.drop l m).length c) (lrow (.slice A (Tl.drop l m).length c) (Tl.drop l m) * (blk w.heap.size #[(Value.int .i64) m.page, (Value.int .i64) m.size, (Value.int .i64) m.frame, (Value.int .i64) m.rights] 24 * (blk p #[.slice A l.length c] 189 * R))) (w.alloc (.cells #[(Value.int .i64) m.page, (Value.int .i64) m.size, (Value.int .i64) m.frame, (Value.int .i64) m.rights] 24))) := hC
  clear hC h2 h1 h
  generalize Tl.drop l m = l' at *
  go_enter Try.func138, Try.ntmps138
  go_wp2_with (refine hC2.mono ?_; rintro e w2 ⟨rfl, h2, x2⟩; have d0 := h2.right.right.lt; have d1 := h2.right.right.free 0; have d2 := h2.right.right.cell 0)
  have h3 : Has w2 (blk p #[.slice A l.length c] 189 * (lrow (.slice A l'.length c) l' * R)) := h2.p2.right.p2
  go_ret
  exact ⟨by go_num, tlbAt_shut (h3.set 0 _), (x1.trans x2).set _ _⟩
def lnOf : Option Ln → Value
  | none => lnZero
  | some x => x.val
theorem findT (p : Nat) (l : List Ln) (k : Int) (R : HProp) (w : World) (hok : LOk l) (hk : i64 k) (h : Has w (tlbAt p l * R)) :
    Calls Try.prog 112 #[.pointer (some ⟨p, 0, none⟩), .int .i64 k] w (Pure (.tuple #[lnOf (Tl.find l k), Value.bool (Tl.find l k).isSome]) w) := by
  have hmf : ∀ (fn : Fn) (first cap : Array Value) (w : World), (Instr.makeFunc fn first cap).run Try.prog w = .ok (.func fn first cap) w := fun _ _ _ _ => rfl
  obtain ⟨A, c, h⟩ := tlbAt_open h
  have h1 := h.new #[(Value.int .i64) k] 3
  have h2 := h1.new #[(Value.int .i64) 0, (Value.int .i64) 0, (Value.int .i64) 0, (Value.int .i64) 0, Value.bool false] 174
  have H2 := ((has_old w).new #[(Value.int .i64) k] 3).new #[(Value.int .i64) 0, (Value.int .i64) 0, (Value.int .i64) 0, (Value.int .i64) 0, Value.bool false] 174
  have x2 := ((Ext.refl w).alloc (.cells #[(Value.int .i64) k] 3)).alloc (.cells #[(Value.int .i64) 0, (Value.int .i64) 0, (Value.int .i64) 0, (Value.int .i64) 0, Value.bool false] 174)
  simp only [World.size_alloc] at h2 H2
  have hbig := (lrow_small h.right).1
  have hL : Has ((w.alloc (.cells #[(Value.int .i64) k] 3)).alloc (.cells #[(Value.int .i64) 0, (Value.int .i64) 0, (Value.int .i64) 0, (Value.int .i64) 0, Value.bool false] 174)) (lrow (.slice A l.length c) l * (blk w.heap.size #[(Value.int .i64) k] 3 * (blk (w.heap.size + 1) #[(Value.int .i64) 0, (Value.int .i64) 0, (Value.int .i64) 0, (Value.int .i64) 0, Value.bool false] 174 * (blk p #[.slice A l.length c] 189 * R)))) := h2.eq (by unfold tlbIn; (simp only [star_assoc, star_left_comm, star_comm]))
  have hC := indexFunc_ln l (fun x => over x.m k) 132 #[.pointer (some ⟨w.heap.size, 0, none⟩)] A l.length c _ _ hL (enters_of Try.func132 (by kernel_rfl) rfl) (fun x hx W hW => find_closure x k _ _ W (hok x hx) hk hW)
  have c0 := h2.right.right.cell 0
  have hp := h2.right.right.lt
  have he : fidx (fun x => over x.m k) l = Tl.idx l k := rfl
  rw [he] at hC
  clear he h h1 h2
  rcases Tl.idx_find l k with ⟨e1, e2⟩ | ⟨j, hj, e1, e2, _⟩
  · rw [e1]
    rw [e2] at hC
    clear e1 e2
    go_enter Try.func112, Try.ntmps112
    go_wp2_with (refine hC.mono ?_; rintro e w2 ⟨rfl, b2⟩; have H3 := H2.below b2; have x3 := x2.below b2; obtain ⟨d0, d1, d2, d3, d4⟩ := H3.cells5; obtain ⟨f0, f1, f2, f3, f4⟩ := H3.frees5; have fl := H3.lt)
    refine ret_via (fun wz => Has wz (blk (w.heap.size + 1) #[(Value.int .i64) 0, (Value.int .i64) 0, (Value.int .i64) 0, (Value.int .i64) 0, Value.bool false] 174 * (blk w.heap.size #[(Value.int .i64) k] 3 * old w w.heap.size)) ∧ Ext w wz) ⟨H3.set5 _ _ _ _ _, by (repeat (first | with_reducible assumption | with_reducible exact Ext.refl _ | with_reducible refine Ext.set ?_ _ _ | with_reducible refine Ext.alloc ?_ _ | with_reducible refine Ext.drew ?_ | with_reducible refine Ext.drewN ?_ _ | assumption | exact Ext.refl _ | refine Ext.alloc ?_ _ | refine Ext.set ?_ _ _ | refine Ext.drew ?_ | refine Ext.drewN ?_ _ | refine Ext.below ?_ (by assumption) | refine Ext.trans ?_ (by assumption)))⟩ ?_
    rintro wz ⟨hz, xz⟩
    exact bodyPost_ret (results_ct Try.results112 rfl rfl (load_line hz)) rfl ⟨rfl, below_of1 hz.right.right xz⟩
  · rw [e2]
    rw [e1] at hC
    clear e1 e2
    go_enter Try.func112, Try.ntmps112
    go_wp2_with (refine hC.mono ?_; rintro e w2 ⟨rfl, b2⟩; have H3 := H2.below b2; have x3 := x2.below b2; obtain ⟨d0, d1, d2, d3, d4⟩ := H3.cells5; obtain ⟨f0, f1, f2, f3, f4⟩ := H3.frees5; have fl := H3.lt; have k0 := (hL.below b2).right.right.right.cell 0; have kp := (hL.below b2).right.right.right.lt; obtain ⟨g, rfl, gb, ⟨g0, g1, g2, g3, g4⟩, _⟩ := lrow_at (hL.below b2) hj)
    generalize l[j] = x at *
    refine ret_via (fun wz => Has wz (blk (w.heap.size + 1) #[(Value.int .i64) x.m.page, (Value.int .i64) x.m.size, (Value.int .i64) x.m.frame, (Value.int .i64) x.m.rights, Value.bool x.dirty] 174 * (blk w.heap.size #[(Value.int .i64) k] 3 * old w w.heap.size)) ∧ Ext w wz) ⟨H3.set5 _ _ _ _ _, by (repeat (first | with_reducible assumption | with_reducible exact Ext.refl _ | with_reducible refine Ext.set ?_ _ _ | with_reducible refine Ext.alloc ?_ _ | with_reducible refine Ext.drew ?_ | with_reducible refine Ext.drewN ?_ _ | assumption | exact Ext.refl _ | refine Ext.alloc ?_ _ | refine Ext.set ?_ _ _ | refine Ext.drew ?_ | refine Ext.drewN ?_ _ | refine Ext.below ?_ (by assumption) | refine Ext.trans ?_ (by assumption)))⟩ ?_
    rintro wz ⟨hz, xz⟩
    exact bodyPost_ret (results_ct Try.results112 rfl rfl (load_line hz)) rfl ⟨rfl, below_of1 hz.right.right xz⟩
end Go.Proofs.Ytegkimecdonfgaa
namespace Go.Proofs.Ytegkimecdonfgaa
open Go.RowKit
set_option maxRecDepth 100000
theorem oneCells (x : Ln) : ∀ u ∈ x.cells, u.oneCell' = true := by
  intro u hx
  simp [Ln.cells] at hx
  rcases hx with rfl | rfl | rfl | rfl | rfl <;> rfl
theorem put_shut {p c X : Nat} {A : Option Addr} {l : List Ln} {x : Ln} {cs : Array Value} {t : TypeId} {R : HProp} {w : World} (h : Has w (blk p #[.slice A (l.length + 1) c] 189 * (row 174 5 (.slice A (l.length + 1) c) (l.length + 1) (lcells l ++ x.cells) * (blk X cs t * R)))) :
    Has w (tlbAt p (l ++ [x]) * R) := by
  have h1 := h.drop3
  refine tlbAt_shut (A := A) (c := c) ?_
  unfold tlbIn lrow
  rw [show (l ++ [x]).length = l.length + 1 by simp, lcells_append, show lcells [x] = x.cells by simp [lcells]]
  exact h1
theorem put_no (p : Nat) (l : List Ln) (x : Ln) (R : HProp) (w : World) (hc : check x.m ≠ 0) (h : Has w (tlbAt p l * R)) :
    Calls Try.prog 117 #[.pointer (some ⟨p, 0, none⟩), .agg #[(Value.int .i64) x.m.page, (Value.int .i64) x.m.size, (Value.int .i64) x.m.frame, (Value.int .i64) x.m.rights, Value.bool x.dirty]] w (Res (Value.bool false) (tlbAt p l * R) w) := by
  have h1 := h.new #[(Value.int .i64) x.m.page, (Value.int .i64) x.m.size, (Value.int .i64) x.m.frame, (Value.int .i64) x.m.rights, Value.bool x.dirty] 174
  have x1 := (Ext.refl w).alloc (.cells #[(Value.int .i64) x.m.page, (Value.int .i64) x.m.size, (Value.int .i64) x.m.frame, (Value.int .i64) x.m.rights, Value.bool x.dirty] 174)
  obtain ⟨d0, d1, d2, d3, d4⟩ := h1.cells5
  have hn : (check x.m != 0) = true := by simpa using hc
  have HC := Lib.hid (check_any x.m)
  generalize check x.m = k at *
  go_enter Try.func117, Try.ntmps117
  go_wp2_with (refine (HC.out _).mono ?_; rintro e w2 ⟨rfl, b2⟩)
  go_ret
  exact ⟨rfl, h1.right.below b2, x1.below b2⟩
theorem put_yes (p : Nat) (l : List Ln) (x : Ln) (R : HProp) (w : World) (hok : LOk l) (hx : i64 x.m.page) (hl : l.length ≤ 1000) (hc : check x.m = 0) (h : Has w (tlbAt p l * R)) :
    Calls Try.prog 117 #[.pointer (some ⟨p, 0, none⟩), .agg #[(Value.int .i64) x.m.page, (Value.int .i64) x.m.size, (Value.int .i64) x.m.frame, (Value.int .i64) x.m.rights, Value.bool x.dirty]] w (Res (Value.bool true) (tlbAt p (Tl.room (Tl.drop l x.m) ++ [x]) * R) w) := by
  have h1 := h.new #[(Value.int .i64) x.m.page, (Value.int .i64) x.m.size, (Value.int .i64) x.m.frame, (Value.int .i64) x.m.rights, Value.bool x.dirty] 174
  have x1 := (Ext.refl w).alloc (.cells #[(Value.int .i64) x.m.page, (Value.int .i64) x.m.size, (Value.int .i64) x.m.frame, (Value.int .i64) x.m.rights, Value.bool x.dirty] 174)
  obtain ⟨d0, d1, d2, d3, d4⟩ := h1.cells5
  have HC := Lib.hid (check_any x.m)
  rw [hc] at HC
  have HD := Lib.hid (fun R w h => dropT p l x.m R w hok hx h)
  have hle : (Tl.drop l x.m).length ≤ l.length := List.length_filter_le _ _
  clear hc
  generalize Tl.drop l x.m = l1 at *
  by_cases h6 : l1.length = 6
  · have hr : Tl.room l1 = l1.tail := by unfold Tl.room; rw [if_pos h6]
    rw [hr]
    go_enter Try.func117, Try.ntmps117
    go_wp2_with fail
    refine (HC.out _).mono ?_; rintro e w2 ⟨rfl, b2⟩
    have h2 := h1.below b2
    have x2 := x1.below b2
    clear d0 d1 d2 d3 d4
    obtain ⟨d0, d1, d2, d3, d4⟩ := h2.cells5
    go_wp2_with fail
    refine (HD.out _ _ h2.p2).mono ?_; rintro e w3 ⟨rfl, h3, x3⟩
    have x3 := x2.trans x3
    obtain ⟨A, c, h3o⟩ := tlbAt_open h3
    have c0 : w3.cell? ⟨p, 0, none⟩ = some (.slice A l1.length c) := h3o.cell 0
    rw [h6] at c0
    have cp := h3o.lt
    clear d0 d1 d2 d3 d4 h1 h2 x1 x2 h HC HD
    go_wp2_with fail
    refine (evict_yes p l1 _ _ (by omega) h3).mono ?_; rintro e wz ⟨rfl, h4, x4⟩
    have hl' : l1.tail.length ≤ 1000 := by simp [h6]
    generalize l1.tail = l2 at *
    have x4 := x3.trans x4
    obtain ⟨A, c, h4⟩ := tlbAt_open h4
    clear c0 cp h3o h3 hle h6 hr x3
    go_wp2_with fail
    have hsm := (lrow_small h4.right).1
    have c0 := h4.cell 0
    have cp := h4.lt
    have cf := h4.free 0
    obtain ⟨d0, d1, d2, d3, d4⟩ := h4.right.right.cells5
    have dl := h4.right.right.lt
    have hrow := (h4.drew.p2).alloc (.cells #[(Value.int .i64) x.m.page, (Value.int .i64) x.m.size, (Value.int .i64) x.m.frame, (Value.int .i64) x.m.rights, Value.bool x.dirty] 174)
    go_region_law (refine step_append_has rfl (.tmp 25) (.tmp 27) 187 rfl Try.underlying187 elemLn _ _ _ (by simp [Act.eval]) hrow ⟨wz.heap.size, 0, none⟩ 1 1 x.cells (by simp [Act.eval]) rfl (news_many wz.drew x.cells 174) (oneCells x) (by unfold maxLen; omega) (by omega) ?_; intro A' c' w5 h5 x5; have g0 := h5.right.lt; have g1 := h5.right.free 0; have g2 := h5.right.cell 0)
    all_goals
      go_wp2_with fail
      go_ret
      exact ⟨rfl, put_shut (h5.p2.set 0 _), ((x4.drew.alloc _).trans x5).set _ _⟩
  · have hr : Tl.room l1 = l1 := by unfold Tl.room; rw [if_neg h6]
    rw [hr]
    have h6' : ((l1.length : Int) == 6) = false := beq_eq_false_iff_ne.2 (by omega)
    clear hr h6
    go_enter Try.func117, Try.ntmps117
    go_wp2_with fail
    refine (HC.out _).mono ?_; rintro e w2 ⟨rfl, b2⟩
    have h2 := h1.below b2
    have x2 := x1.below b2
    clear d0 d1 d2 d3 d4
    obtain ⟨d0, d1, d2, d3, d4⟩ := h2.cells5
    go_wp2_with fail
    refine (HD.out _ _ h2.p2).mono ?_; rintro e wz ⟨rfl, h3, x3⟩
    have x4 := x2.trans x3
    obtain ⟨A, c, h4⟩ := tlbAt_open h3
    clear d0 d1 d2 d3 d4 h1 h2 x1 x2 h HC HD h3
    have hl' : l1.length ≤ 1000 := by omega
    clear hle
    have c0 : wz.cell? ⟨p, 0, none⟩ = some (.slice A l1.length c) := h4.cell 0
    have cp := h4.lt
    go_wp2_with fail
    have hsm := (lrow_small h4.right).1
    have c0 := h4.cell 0
    have cp := h4.lt
    have cf := h4.free 0
    obtain ⟨d0, d1, d2, d3, d4⟩ := h4.right.right.cells5
    have dl := h4.right.right.lt
    have hrow := (h4.drew.p2).alloc (.cells #[(Value.int .i64) x.m.page, (Value.int .i64) x.m.size, (Value.int .i64) x.m.frame, (Value.int .i64) x.m.rights, Value.bool x.dirty] 174)
    go_region_law (refine step_append_has rfl (.tmp 25) (.tmp 27) 187 rfl Try.underlying187 elemLn _ _ _ (by simp [Act.eval]) hrow ⟨wz.heap.size, 0, none⟩ 1 1 x.cells (by simp [Act.eval]) rfl (news_many wz.drew x.cells 174) (oneCells x) (by unfold maxLen; omega) (by omega) ?_; intro A' c' w5 h5 x5; have g0 := h5.right.lt; have g1 := h5.right.free 0; have g2 := h5.right.cell 0)
    all_goals
      go_wp2_with fail
      go_ret
      exact ⟨rfl, put_shut (h5.p2.set 0 _), ((x4.drew.alloc _).trans x5).set _ _⟩
theorem Tl.Ok.lok {l : List Ln} (h : Tl.Ok l) : LOk l := fun x hx => by
  have hm := mapOk_of (h.chk x hx)
  have := hm.p0
  have := hm.p1
  have := hm.sp
  exact ⟨by omega, by omega⟩
theorem putT (p : Nat) (l : List Ln) (x : Ln) (R : HProp) (w : World) (hl : Tl.Ok l) (hx : i64 x.m.page) (h : Has w (tlbAt p l * R)) :
    Calls Try.prog 117 #[.pointer (some ⟨p, 0, none⟩), .agg #[(Value.int .i64) x.m.page, (Value.int .i64) x.m.size, (Value.int .i64) x.m.frame, (Value.int .i64) x.m.rights, Value.bool x.dirty]] w (Res (Value.bool (decide (check x.m = 0))) (tlbAt p (Tl.put l x) * R) w) := by
  unfold Tl.put
  by_cases hc : check x.m = 0
  · rw [if_pos hc, decide_eq_true hc]
    exact put_yes p l x R w hl.lok hx (Nat.le_trans hl.len (by omega)) hc h
  · rw [if_neg hc, decide_eq_false hc]
    exact put_no p l x R w hc h
theorem evictT (p : Nat) (l : List Ln) (R : HProp) (w : World) (h : Has w (tlbAt p l * R)) :
    Calls Try.prog 93 #[.pointer (some ⟨p, 0, none⟩)] w (Res (Value.bool (decide (0 < l.length))) (tlbAt p (Tl.evict l) * R) w) := by
  unfold Tl.evict
  cases l with
  | nil => exact evict_no p R w h
  | cons x l => exact evict_yes p (x :: l) R w (by simp) h
end Go.Proofs.Ytegkimecdonfgaa
