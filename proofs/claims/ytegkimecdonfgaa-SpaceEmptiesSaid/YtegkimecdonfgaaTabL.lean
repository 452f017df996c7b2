/- Contract of table.leaf. -/
import Derived.Test.YtegkimecdonfgaaWkr4
import Derived.Test.YtegkimecdonfgaaWkFind
import Derived.Shelf.Abstract
namespace Go.Proofs.Ytegkimecdonfgaa
open Go.RowKit
set_option maxRecDepth 100000
def zspot : Value := .agg #[(Value.int .i64) 0, Value.bool false, Value.bool false, (Value.int .i64) 0, Value.bool false, Value.bool false, (Value.int .i64) 0, .slice none 0 0, .slice none 0 0]
def spotA (y : Wy) (A B : Option Addr) (c d : Nat) : Value := .agg #[(Value.int .i64) y.lev, Value.bool y.e.there, Value.bool y.e.leaf, (Value.int .i64) y.e.rights, Value.bool y.e.used, Value.bool y.e.dirty, (Value.int .i64) y.e.frame, .slice A y.tabs.length c, .slice B y.tabs.length d]
/-- What leaf hands back. -/
def Leafed (s : Ms) (r p : Int) (w : World) (e : Ending) (w' : World) : Prop :=
  (findC s r p = 0 ∧ ∃ A B c d, e = .returned (.tuple #[spotA (way s r p) A B c d, (findM s r p).val, (Value.int .i64) 0]) ∧ Has w' (irow (.slice A (way s r p).tabs.length c) (way s r p).tabs * (irow (.slice B (way s r p).tabs.length d) (placesOf p (way s r p).tabs.length) * old w w.heap.size)) ∧ Ext w w') ∨
  (findC s r p ≠ 0 ∧ e = .returned (.tuple #[zspot, .agg #[(Value.int .i64) 0, (Value.int .i64) 0, (Value.int .i64) 0, (Value.int .i64) 0], (Value.int .i64) (findC s r p)]) ∧ Below w.heap.size w w')
theorem Has.drop3' {w : World} {A B C D : HProp} (h : Has w (A * (B * (C * D)))) : Has w (A * (B * D)) := h.drop3
set_option maxHeartbeats 4000000 in
theorem leafT (f : Nat) (s : Ms) (root p : Int) (R : HProp) (w : World) (hs : s.Ok) (h : Has w (framesAt f s * R)) :
    Calls Try.prog 68 #[.pointer (some ⟨f, 0, none⟩), (Value.int .i64) root, (Value.int .i64) p] w (Leafed s root p w) := by
  have h0 := ((has_old w).new #[(Value.int .i64) 0, Value.bool false, Value.bool false, (Value.int .i64) 0, Value.bool false, Value.bool false, (Value.int .i64) 0, .slice none 0 0, .slice none 0 0] 56).new #[(Value.int .i64) 0, (Value.int .i64) 0, (Value.int .i64) 0, (Value.int .i64) 0] 24
  have x0 := ((Ext.refl w).alloc (.cells #[(Value.int .i64) 0, Value.bool false, Value.bool false, (Value.int .i64) 0, Value.bool false, Value.bool false, (Value.int .i64) 0, .slice none 0 0, .slice none 0 0] 56)).alloc (.cells #[(Value.int .i64) 0, (Value.int .i64) 0, (Value.int .i64) 0, (Value.int .i64) 0] 24)
  simp only [World.size_alloc] at h0
  have hq := (h.alloc (.cells #[(Value.int .i64) 0, Value.bool false, Value.bool false, (Value.int .i64) 0, Value.bool false, Value.bool false, (Value.int .i64) 0, .slice none 0 0, .slice none 0 0] 56)).alloc (.cells #[(Value.int .i64) 0, (Value.int .i64) 0, (Value.int .i64) 0, (Value.int .i64) 0] 24)
  have W1 := Lib.hid (find_way f s root p R _ hs hq)
  have hfc : findC s root p = if (way s root p).code ≠ 0 then (way s root p).code else if (way s root p).e.there = false then 5 else 0 := rfl
  have hfm : findM s root p = if findC s root p = 0 then leafMap (way s root p).e (way s root p).lev p else Mp.zero := rfl
  unfold Leafed
  generalize findC s root p = fc at *
  generalize findM s root p = fm at *
  generalize way s root p = y at *
  have HFC := Lib.hid (And.intro hfc hfm)
  clear h hq hfc hfm
  go_enter Try.func68, Try.ntmps68
  go_wp2_with fail
  refine W1.out.mono ?_; rintro e w1 hF
  generalize (w.alloc (.cells #[(Value.int .i64) 0, Value.bool false, Value.bool false, (Value.int .i64) 0, Value.bool false, Value.bool false, (Value.int .i64) 0, .slice none 0 0, .slice none 0 0] 56)).alloc (.cells #[(Value.int .i64) 0, (Value.int .i64) 0, (Value.int .i64) 0, (Value.int .i64) 0] 24) = w0 at *
  obtain ⟨A, B, c, d, rfl, h1, x1⟩ : ∃ (A B : Option Addr) (c d : Nat), e = .returned (.tuple #[.agg #[(Value.int .i64) y.lev, Value.bool y.e.there, Value.bool y.e.leaf, (Value.int .i64) y.e.rights, Value.bool y.e.used, Value.bool y.e.dirty, (Value.int .i64) y.e.frame, .slice A y.tabs.length c, .slice B y.tabs.length d], (Value.int .i64) y.code]) ∧ Has w1 (irow (.slice A y.tabs.length c) y.tabs * (irow (.slice B y.tabs.length d) (placesOf p y.tabs.length) * old w0 w0.heap.size)) ∧ Ext w0 w1 := hF
  have h2 := (h0.onto' (h1.a2)).a1
  have x2 := x0.trans x1
  clear h0 x0 h1 x1 W1
  obtain ⟨hfc, hfm⟩ := HFC.out
  clear HFC
  have h3 : Has _ (blk w1.heap.size #[(Value.int .i64) y.lev, Value.bool y.e.there, Value.bool y.e.leaf, (Value.int .i64) y.e.rights, Value.bool y.e.used, Value.bool y.e.dirty, (Value.int .i64) y.e.frame, .slice A y.tabs.length c, .slice B y.tabs.length d] 56 * (irow (.slice A y.tabs.length c) y.tabs * (irow (.slice B y.tabs.length d) (placesOf p y.tabs.length) * (blk (w.heap.size + 1) #[(Value.int .i64) 0, (Value.int .i64) 0, (Value.int .i64) 0, (Value.int .i64) 0] 24 * (blk w.heap.size #[(Value.int .i64) 0, Value.bool false, Value.bool false, (Value.int .i64) 0, Value.bool false, Value.bool false, (Value.int .i64) 0, .slice none 0 0, .slice none 0 0] 56 * old w w.heap.size))))) := h2.new #[(Value.int .i64) y.lev, Value.bool y.e.there, Value.bool y.e.leaf, (Value.int .i64) y.e.rights, Value.bool y.e.used, Value.bool y.e.dirty, (Value.int .i64) y.e.frame, .slice A y.tabs.length c, .slice B y.tabs.length d] 56
  have x3 := x2.alloc (.cells #[(Value.int .i64) y.lev, Value.bool y.e.there, Value.bool y.e.leaf, (Value.int .i64) y.e.rights, Value.bool y.e.used, Value.bool y.e.dirty, (Value.int .i64) y.e.frame, .slice A y.tabs.length c, .slice B y.tabs.length d] 56)
  clear h2 x2
  by_cases hc : y.code = 0
  case neg =>
    rw [if_pos hc] at hfc
    have HF := Lib.hid (show fc = y.code ∧ fc ≠ 0 from ⟨hfc, by rw [hfc]; exact hc⟩)
    have hn' : (y.code != 0) = true := by simpa using hc
    clear hc hfc hfm
    go_upto_region 2 with fail
    generalize w1.alloc (.cells #[(Value.int .i64) y.lev, Value.bool y.e.there, Value.bool y.e.leaf, (Value.int .i64) y.e.rights, Value.bool y.e.used, Value.bool y.e.dirty, (Value.int .i64) y.e.frame, .slice A y.tabs.length c, .slice B y.tabs.length d] 56) = w3 at *
    generalize w1.heap.size = X2 at *
    have h4 : Has w3 (blk w.heap.size #[(Value.int .i64) 0, Value.bool false, Value.bool false, (Value.int .i64) 0, Value.bool false, Value.bool false, (Value.int .i64) 0, .slice none 0 0, .slice none 0 0] 56 * (blk (w.heap.size + 1) #[(Value.int .i64) 0, (Value.int .i64) 0, (Value.int .i64) 0, (Value.int .i64) 0] 24 * (blk X2 #[(Value.int .i64) y.lev, Value.bool y.e.there, Value.bool y.e.leaf, (Value.int .i64) y.e.rights, Value.bool y.e.used, Value.bool y.e.dirty, (Value.int .i64) y.e.frame, .slice A y.tabs.length c, .slice B y.tabs.length d] 56 * old w w.heap.size))) := by
      have := h3.eq (show _ = irow (.slice A y.tabs.length c) y.tabs * (irow (.slice B y.tabs.length d) (placesOf p y.tabs.length) * (blk w.heap.size #[(Value.int .i64) 0, Value.bool false, Value.bool false, (Value.int .i64) 0, Value.bool false, Value.bool false, (Value.int .i64) 0, .slice none 0 0, .slice none 0 0] 56 * (blk (w.heap.size + 1) #[(Value.int .i64) 0, (Value.int .i64) 0, (Value.int .i64) 0, (Value.int .i64) 0] 24 * (blk X2 #[(Value.int .i64) y.lev, Value.bool y.e.there, Value.bool y.e.leaf, (Value.int .i64) y.e.rights, Value.bool y.e.used, Value.bool y.e.dirty, (Value.int .i64) y.e.frame, .slice A y.tabs.length c, .slice B y.tabs.length d] 56 * old w w.heap.size)))) by ac_rfl)
      exact this.right.right
    obtain ⟨d0, d1, d2, d3, d4, d5, d6, d7, d8⟩ := h4.cells9
    obtain ⟨f0, f1, f2, f3, f4, f5, f6, f7, f8⟩ := h4.frees9
    have dl := h4.lt
    obtain ⟨c0, c1, c2, c3⟩ := h4.right.cells4
    obtain ⟨g0, g1, g2, g3⟩ := h4.right.frees4
    have cl := h4.right.lt
    have n1 := h4.ne
    have n2 := n1.symm
    obtain ⟨v0, v1, v2, v3, v4, v5, v6, v7, v8⟩ := h4.right.right.cells9
    have vl := h4.right.right.lt
    go_wp2_with fail
    refine ret_via (fun wz => Has wz (blk (w.heap.size + 1) #[(Value.int .i64) 0, (Value.int .i64) 0, (Value.int .i64) 0, (Value.int .i64) 0] 24 * (blk w.heap.size #[(Value.int .i64) 0, Value.bool false, Value.bool false, (Value.int .i64) 0, Value.bool false, Value.bool false, (Value.int .i64) 0, .slice none 0 0, .slice none 0 0] 56 * old w w.heap.size)) ∧ Ext w wz) ⟨(((h4.set9 _ _ _ _ _ _ _ _ _).p2).set4 _ _ _ _).drop3', by (repeat (first | with_reducible assumption | with_reducible exact Ext.refl _ | with_reducible refine Ext.set ?_ _ _ | with_reducible refine Ext.alloc ?_ _ | with_reducible refine Ext.drew ?_ | with_reducible refine Ext.drewN ?_ _ | assumption | exact Ext.refl _ | refine Ext.alloc ?_ _ | refine Ext.set ?_ _ _ | refine Ext.drew ?_ | refine Ext.drewN ?_ _ | refine Ext.below ?_ (by assumption) | refine Ext.trans ?_ (by assumption)))⟩ ?_
    rintro wz ⟨hz, xz⟩
    exact bodyPost_ret (results_cct Try.results68 rfl rfl rfl (load_spot hz.right) (load_map hz)) rfl (.inr ⟨HF.out.2, by rw [HF.out.1]; rfl, below_of1 hz.right.right xz⟩)
  case pos =>
    rw [if_neg (by rw [hc]; simp)] at hfc
    obtain ⟨code, tabs, lev, th, lf, rg, us, di, fr⟩ := y
    dsimp only at *
    subst hc
    cases th with
    | false =>
      rw [if_pos rfl] at hfc
      have HF := Lib.hid (show fc = 5 ∧ fc ≠ 0 from ⟨hfc, by rw [hfc]; decide⟩)
      clear hfc hfm
      go_upto_region 2 with fail
      generalize w1.alloc (.cells #[(Value.int .i64) lev, Value.bool false, Value.bool lf, (Value.int .i64) rg, Value.bool us, Value.bool di, (Value.int .i64) fr, .slice A tabs.length c, .slice B tabs.length d] 56) = w3 at *
      generalize w1.heap.size = X2 at *
      have h4 : Has w3 (blk w.heap.size #[(Value.int .i64) 0, Value.bool false, Value.bool false, (Value.int .i64) 0, Value.bool false, Value.bool false, (Value.int .i64) 0, .slice none 0 0, .slice none 0 0] 56 * (blk (w.heap.size + 1) #[(Value.int .i64) 0, (Value.int .i64) 0, (Value.int .i64) 0, (Value.int .i64) 0] 24 * (blk X2 #[(Value.int .i64) lev, Value.bool false, Value.bool lf, (Value.int .i64) rg, Value.bool us, Value.bool di, (Value.int .i64) fr, .slice A tabs.length c, .slice B tabs.length d] 56 * old w w.heap.size))) := by
        have := h3.eq (show _ = irow (.slice A tabs.length c) tabs * (irow (.slice B tabs.length d) (placesOf p tabs.length) * (blk w.heap.size #[(Value.int .i64) 0, Value.bool false, Value.bool false, (Value.int .i64) 0, Value.bool false, Value.bool false, (Value.int .i64) 0, .slice none 0 0, .slice none 0 0] 56 * (blk (w.heap.size + 1) #[(Value.int .i64) 0, (Value.int .i64) 0, (Value.int .i64) 0, (Value.int .i64) 0] 24 * (blk X2 #[(Value.int .i64) lev, Value.bool false, Value.bool lf, (Value.int .i64) rg, Value.bool us, Value.bool di, (Value.int .i64) fr, .slice A tabs.length c, .slice B tabs.length d] 56 * old w w.heap.size)))) by ac_rfl)
        exact this.right.right
      obtain ⟨d0, d1, d2, d3, d4, d5, d6, d7, d8⟩ := h4.cells9
      obtain ⟨f0, f1, f2, f3, f4, f5, f6, f7, f8⟩ := h4.frees9
      have dl := h4.lt
      obtain ⟨c0, c1, c2, c3⟩ := h4.right.cells4
      obtain ⟨g0, g1, g2, g3⟩ := h4.right.frees4
      have cl := h4.right.lt
      have n1 := h4.ne
      have n2 := n1.symm
      obtain ⟨v0, v1, v2, v3, v4, v5, v6, v7, v8⟩ := h4.right.right.cells9
      have vl := h4.right.right.lt
      go_wp2_with fail
      refine ret_via (fun wz => Has wz (blk (w.heap.size + 1) #[(Value.int .i64) 0, (Value.int .i64) 0, (Value.int .i64) 0, (Value.int .i64) 0] 24 * (blk w.heap.size #[(Value.int .i64) 0, Value.bool false, Value.bool false, (Value.int .i64) 0, Value.bool false, Value.bool false, (Value.int .i64) 0, .slice none 0 0, .slice none 0 0] 56 * old w w.heap.size)) ∧ Ext w wz) ⟨(((h4.set9 _ _ _ _ _ _ _ _ _).p2).set4 _ _ _ _).drop3', by (repeat (first | with_reducible assumption | with_reducible exact Ext.refl _ | with_reducible refine Ext.set ?_ _ _ | with_reducible refine Ext.alloc ?_ _ | with_reducible refine Ext.drew ?_ | with_reducible refine Ext.drewN ?_ _ | assumption | exact Ext.refl _ | refine Ext.alloc ?_ _ | refine Ext.set ?_ _ _ | refine Ext.drew ?_ | refine Ext.drewN ?_ _ | refine Ext.below ?_ (by assumption) | refine Ext.trans ?_ (by assumption)))⟩ ?_
      rintro wz ⟨hz, xz⟩
      exact bodyPost_ret (results_cct Try.results68 rfl rfl rfl (load_spot hz.right) (load_map hz)) rfl (.inr ⟨HF.out.2, by rw [HF.out.1]; rfl, below_of1 hz.right.right xz⟩)
    | true =>
      rw [if_neg (by simp)] at hfc
      rw [if_pos hfc] at hfm
      have HF := Lib.hid (show fc = 0 ∧ fm = leafMap ⟨true, lf, rg, us, di, fr⟩ lev p from ⟨hfc, hfm⟩)
      have HL : Hid (∀ X, Calls Try.prog 78 #[.agg #[Value.bool true, Value.bool lf, (Value.int .i64) rg, Value.bool us, Value.bool di, (Value.int .i64) fr], .int .i64 lev, .int .i64 p] X (Pure (leafMap ⟨true, lf, rg, us, di, fr⟩ lev p).val X)) := Lib.hid (fun X => entMap_any ⟨true, lf, rg, us, di, fr⟩ lev p X)
      clear hfc hfm
      generalize leafMap ⟨true, lf, rg, us, di, fr⟩ lev p = lm at *
      go_upto_region 6 with fail
      generalize w1.alloc (.cells #[(Value.int .i64) lev, Value.bool true, Value.bool lf, (Value.int .i64) rg, Value.bool us, Value.bool di, (Value.int .i64) fr, .slice A tabs.length c, .slice B tabs.length d] 56) = w3 at *
      generalize w1.heap.size = X2 at *
      have h5 : Has w3 (blk w.heap.size #[(Value.int .i64) 0, Value.bool false, Value.bool false, (Value.int .i64) 0, Value.bool false, Value.bool false, (Value.int .i64) 0, .slice none 0 0, .slice none 0 0] 56 * (blk X2 #[(Value.int .i64) lev, Value.bool true, Value.bool lf, (Value.int .i64) rg, Value.bool us, Value.bool di, (Value.int .i64) fr, .slice A tabs.length c, .slice B tabs.length d] 56 * (blk (w.heap.size + 1) #[(Value.int .i64) 0, (Value.int .i64) 0, (Value.int .i64) 0, (Value.int .i64) 0] 24 * (irow (.slice A tabs.length c) tabs * (irow (.slice B tabs.length d) (placesOf p tabs.length) * old w w.heap.size))))) := h3.eq (by ac_rfl)
      clear h3
      have h4 := h5.set9 ((Value.int .i64) lev) (Value.bool true) (Value.bool lf) ((Value.int .i64) rg) (Value.bool us) (Value.bool di) ((Value.int .i64) fr) (.slice A tabs.length c) (.slice B tabs.length d)
      have HK := Lib.hid (fun (w' : World) (P : HProp) (h : Has w' (blk X2 #[(Value.int .i64) lev, Value.bool true, Value.bool lf, (Value.int .i64) rg, Value.bool us, Value.bool di, (Value.int .i64) fr, .slice A tabs.length c, .slice B tabs.length d] 56 * P)) => h.cells9)
      obtain ⟨k0, k1, k2, k3, k4, k5, k6, k7, k8⟩ := h5.right.cells9
      have kl := h5.right.lt
      obtain ⟨d0, d1, d2, d3, d4, d5, d6, d7, d8⟩ := h5.cells9
      obtain ⟨f0, f1, f2, f3, f4, f5, f6, f7, f8⟩ := h5.frees9
      have dl := h5.lt
      have n1 := h5.ne
      have n2 := n1.symm
      go_cut [8] from 31 to 38 (fun s8 wx => s8 = (Value.int .i64) 0 ∧ Has wx (blk w.heap.size #[(Value.int .i64) lev, Value.bool true, Value.bool lf, (Value.int .i64) rg, Value.bool us, Value.bool di, (Value.int .i64) fr, .slice A tabs.length c, .slice B tabs.length d] 56 * (blk (w.heap.size + 1) #[(Value.int .i64) lm.page, (Value.int .i64) lm.size, (Value.int .i64) lm.frame, (Value.int .i64) lm.rights] 24 * (irow (.slice A tabs.length c) tabs * (irow (.slice B tabs.length d) (placesOf p tabs.length) * old w w.heap.size)))) ∧ Ext w wx)
      case first =>
        go_region_held3 (fun w' => w'.cell? ⟨X2, 0, none⟩ = some ((Value.int .i64) lev) ∧ w'.cell? ⟨X2, 1, none⟩ = some (Value.bool true) ∧ w'.cell? ⟨X2, 2, none⟩ = some (Value.bool lf) ∧ w'.cell? ⟨X2, 3, none⟩ = some ((Value.int .i64) rg) ∧ w'.cell? ⟨X2, 4, none⟩ = some (Value.bool us) ∧ w'.cell? ⟨X2, 5, none⟩ = some (Value.bool di) ∧ w'.cell? ⟨X2, 6, none⟩ = some ((Value.int .i64) fr) ∧ w'.cell? ⟨X2, 7, none⟩ = some (.slice A tabs.length c) ∧ w'.cell? ⟨X2, 8, none⟩ = some (.slice B tabs.length d)) (first | (with_reducible exact HK.out _ _ h6.right) | (with_reducible exact HK.out _ _ g6.right) | (with_reducible exact HK.out _ _ h4.drew.right) | (with_reducible exact HK.out _ _ h5.drew.right) | go_keep) (first | (go_at_call 78; ((with_reducible refine (HL.out _).mono ?_); rintro e2 w5 ⟨rfl, b5⟩; first | (have h6 := h5.drew.below b5; have x6 := x3.drew.below b5; obtain ⟨y0, y1, y2, y3, y4, y5, y6, y7, y8⟩ := h6.cells9; obtain ⟨z0, z1, z2, z3, z4, z5, z6, z7, z8⟩ := h6.frees9; have yl := h6.lt; obtain ⟨c0, c1, c2, c3⟩ := h6.right.right.cells4; obtain ⟨g0, g1, g2, g3⟩ := h6.right.right.frees4; have cl := h6.right.right.lt; have nn := h6.p2.right.ne; have nn' := nn.symm; have mm := h6.right.ne; have mm' := mm.symm) | (have g6 := h4.drew.below b5; have y6 := ((x3.set9 w.heap.size ((Value.int .i64) lev) (Value.bool true) (Value.bool lf) ((Value.int .i64) rg) (Value.bool us) (Value.bool di) ((Value.int .i64) fr) (.slice A tabs.length c) (.slice B tabs.length d)).drew).below b5; obtain ⟨c0, c1, c2, c3⟩ := g6.right.right.cells4; obtain ⟨g0, g1, g2, g3⟩ := g6.right.right.frees4; have cl := g6.right.right.lt; have mm := g6.right.ne; have mm' := mm.symm))))
        all_goals
          go_wp2_with fail
          go_meet
          case rel =>
            first
            | (have h7 := (h6.set9 ((Value.int .i64) lev) (Value.bool true) (Value.bool lf) ((Value.int .i64) rg) (Value.bool us) (Value.bool di) ((Value.int .i64) fr) (.slice A tabs.length c) (.slice B tabs.length d)).eq (show _ = blk (w.heap.size + 1) #[(Value.int .i64) 0, (Value.int .i64) 0, (Value.int .i64) 0, (Value.int .i64) 0] 24 * (blk w.heap.size #[(Value.int .i64) lev, Value.bool true, Value.bool lf, (Value.int .i64) rg, Value.bool us, Value.bool di, (Value.int .i64) fr, .slice A tabs.length c, .slice B tabs.length d] 56 * (blk X2 #[(Value.int .i64) lev, Value.bool true, Value.bool lf, (Value.int .i64) rg, Value.bool us, Value.bool di, (Value.int .i64) fr, .slice A tabs.length c, .slice B tabs.length d] 56 * (irow (.slice A tabs.length c) tabs * (irow (.slice B tabs.length d) (placesOf p tabs.length) * old w w.heap.size)))) by ac_rfl)
               exact ⟨rfl, (h7.set4 ((Value.int .i64) lm.page) ((Value.int .i64) lm.size) ((Value.int .i64) lm.frame) ((Value.int .i64) lm.rights)).p2.eq (show _ = blk X2 #[(Value.int .i64) lev, Value.bool true, Value.bool lf, (Value.int .i64) rg, Value.bool us, Value.bool di, (Value.int .i64) fr, .slice A tabs.length c, .slice B tabs.length d] 56 * (blk w.heap.size #[(Value.int .i64) lev, Value.bool true, Value.bool lf, (Value.int .i64) rg, Value.bool us, Value.bool di, (Value.int .i64) fr, .slice A tabs.length c, .slice B tabs.length d] 56 * (blk (w.heap.size + 1) #[(Value.int .i64) lm.page, (Value.int .i64) lm.size, (Value.int .i64) lm.frame, (Value.int .i64) lm.rights] 24 * (irow (.slice A tabs.length c) tabs * (irow (.slice B tabs.length d) (placesOf p tabs.length) * old w w.heap.size)))) by ac_rfl) |>.right, by (repeat (first | with_reducible assumption | with_reducible exact Ext.refl _ | with_reducible refine Ext.set ?_ _ _ | with_reducible refine Ext.alloc ?_ _ | with_reducible refine Ext.drew ?_ | with_reducible refine Ext.drewN ?_ _ | assumption | exact Ext.refl _ | refine Ext.alloc ?_ _ | refine Ext.set ?_ _ _ | refine Ext.drew ?_ | refine Ext.drewN ?_ _ | refine Ext.below ?_ (by assumption) | refine Ext.trans ?_ (by assumption)))⟩)
            | (have h7 := (h6.eq (show _ = blk (w.heap.size + 1) #[(Value.int .i64) 0, (Value.int .i64) 0, (Value.int .i64) 0, (Value.int .i64) 0] 24 * (blk w.heap.size #[(Value.int .i64) 0, Value.bool false, Value.bool false, (Value.int .i64) 0, Value.bool false, Value.bool false, (Value.int .i64) 0, .slice none 0 0, .slice none 0 0] 56 * (blk X2 #[(Value.int .i64) lev, Value.bool true, Value.bool lf, (Value.int .i64) rg, Value.bool us, Value.bool di, (Value.int .i64) fr, .slice A tabs.length c, .slice B tabs.length d] 56 * (irow (.slice A tabs.length c) tabs * (irow (.slice B tabs.length d) (placesOf p tabs.length) * old w w.heap.size)))) by ac_rfl)).set4 ((Value.int .i64) lm.page) ((Value.int .i64) lm.size) ((Value.int .i64) lm.frame) ((Value.int .i64) lm.rights)
               exact ⟨rfl, (h7.p2.set9 ((Value.int .i64) lev) (Value.bool true) (Value.bool lf) ((Value.int .i64) rg) (Value.bool us) (Value.bool di) ((Value.int .i64) fr) (.slice A tabs.length c) (.slice B tabs.length d)).eq (show _ = blk X2 #[(Value.int .i64) lev, Value.bool true, Value.bool lf, (Value.int .i64) rg, Value.bool us, Value.bool di, (Value.int .i64) fr, .slice A tabs.length c, .slice B tabs.length d] 56 * (blk w.heap.size #[(Value.int .i64) lev, Value.bool true, Value.bool lf, (Value.int .i64) rg, Value.bool us, Value.bool di, (Value.int .i64) fr, .slice A tabs.length c, .slice B tabs.length d] 56 * (blk (w.heap.size + 1) #[(Value.int .i64) lm.page, (Value.int .i64) lm.size, (Value.int .i64) lm.frame, (Value.int .i64) lm.rights] 24 * (irow (.slice A tabs.length c) tabs * (irow (.slice B tabs.length d) (placesOf p tabs.length) * old w w.heap.size)))) by ac_rfl) |>.right, by (repeat (first | with_reducible assumption | with_reducible exact Ext.refl _ | with_reducible refine Ext.set ?_ _ _ | with_reducible refine Ext.alloc ?_ _ | with_reducible refine Ext.drew ?_ | with_reducible refine Ext.drewN ?_ _ | assumption | exact Ext.refl _ | refine Ext.alloc ?_ _ | refine Ext.set ?_ _ _ | refine Ext.drew ?_ | refine Ext.drewN ?_ _ | refine Ext.below ?_ (by assumption) | refine Ext.trans ?_ (by assumption)))⟩)
            | (have h7 := (g6.eq (show _ = blk (w.heap.size + 1) #[(Value.int .i64) 0, (Value.int .i64) 0, (Value.int .i64) 0, (Value.int .i64) 0] 24 * (blk w.heap.size #[(Value.int .i64) lev, Value.bool true, Value.bool lf, (Value.int .i64) rg, Value.bool us, Value.bool di, (Value.int .i64) fr, .slice A tabs.length c, .slice B tabs.length d] 56 * (blk X2 #[(Value.int .i64) lev, Value.bool true, Value.bool lf, (Value.int .i64) rg, Value.bool us, Value.bool di, (Value.int .i64) fr, .slice A tabs.length c, .slice B tabs.length d] 56 * (irow (.slice A tabs.length c) tabs * (irow (.slice B tabs.length d) (placesOf p tabs.length) * old w w.heap.size)))) by ac_rfl)).set4 ((Value.int .i64) lm.page) ((Value.int .i64) lm.size) ((Value.int .i64) lm.frame) ((Value.int .i64) lm.rights)
               exact ⟨rfl, h7.p2.eq (show _ = blk X2 #[(Value.int .i64) lev, Value.bool true, Value.bool lf, (Value.int .i64) rg, Value.bool us, Value.bool di, (Value.int .i64) fr, .slice A tabs.length c, .slice B tabs.length d] 56 * (blk w.heap.size #[(Value.int .i64) lev, Value.bool true, Value.bool lf, (Value.int .i64) rg, Value.bool us, Value.bool di, (Value.int .i64) fr, .slice A tabs.length c, .slice B tabs.length d] 56 * (blk (w.heap.size + 1) #[(Value.int .i64) lm.page, (Value.int .i64) lm.size, (Value.int .i64) lm.frame, (Value.int .i64) lm.rights] 24 * (irow (.slice A tabs.length c) tabs * (irow (.slice B tabs.length d) (placesOf p tabs.length) * old w w.heap.size)))) by ac_rfl) |>.right, by (repeat (first | with_reducible assumption | with_reducible exact Ext.refl _ | with_reducible refine Ext.set ?_ _ _ | with_reducible refine Ext.alloc ?_ _ | with_reducible refine Ext.drew ?_ | with_reducible refine Ext.drewN ?_ _ | assumption | exact Ext.refl _ | refine Ext.alloc ?_ _ | refine Ext.set ?_ _ _ | refine Ext.drew ?_ | refine Ext.drewN ?_ _ | refine Ext.below ?_ (by assumption) | refine Ext.trans ?_ (by assumption)))⟩)
      case rest =>
        clear h5 h4 x3 HK k0 k1 k2 k3 k4 k5 k6 k7 k8 kl d0 d1 d2 d3 d4 d5 d6 d7 d8 f0 f1 f2 f3 f4 f5 f6 f7 f8 dl n1 n2
        obtain ⟨rfl, h9, x9⟩ := hcut
        go_wp2_with fail
        refine ret_via (fun wz => Has wz (blk w.heap.size #[(Value.int .i64) lev, Value.bool true, Value.bool lf, (Value.int .i64) rg, Value.bool us, Value.bool di, (Value.int .i64) fr, .slice A tabs.length c, .slice B tabs.length d] 56 * (blk (w.heap.size + 1) #[(Value.int .i64) lm.page, (Value.int .i64) lm.size, (Value.int .i64) lm.frame, (Value.int .i64) lm.rights] 24 * (irow (.slice A tabs.length c) tabs * (irow (.slice B tabs.length d) (placesOf p tabs.length) * old w w.heap.size)))) ∧ Ext w wz) ⟨h9, x9⟩ ?_
        rintro wz ⟨hz, xz⟩
        exact bodyPost_ret (results_cct Try.results68 rfl rfl rfl (load_spot hz) (load_map hz.right)) rfl (.inl ⟨HF.out.1, A, B, c, d, by rw [HF.out.2]; rfl, hz.right.right, xz⟩)
end Go.Proofs.Ytegkimecdonfgaa
namespace Go.Proofs.Ytegkimecdonfgaa
open Go.RowKit
set_option maxRecDepth 100000
set_option maxHeartbeats 4000000 in
theorem prT (f : Nat) (s : Ms) (root p ri : Int) (R : HProp) (w : World) (hs : s.Ok) (h : Has w (framesAt f s * R)) :
    Calls Try.prog 19 #[.pointer (some ⟨f, 0, none⟩), (Value.int .i64) root, (Value.int .i64) p, (Value.int .i64) ri] w (Res (.tuple #[(prM s root p ri).val, (Value.int .i64) (prC s root p ri)]) (framesAt f (prS s root p ri) * R) w) := by
  have h0 := h.new #[(Value.int .i64) 0, (Value.int .i64) 0, (Value.int .i64) 0, (Value.int .i64) 0] 24
  have x0 := (Ext.refl w).alloc (.cells #[(Value.int .i64) 0, (Value.int .i64) 0, (Value.int .i64) 0, (Value.int .i64) 0] 24)
  by_cases hri : ri < 0 ∨ 7 < ri
  · have hc : prC s root p ri = 1 := by unfold prC; rw [if_pos hri]
    have hm : prM s root p ri = Mp.zero := by unfold prM; rw [if_neg (by rw [hc]; decide)]
    have hss : prS s root p ri = s := by unfold prS; rw [if_neg (by rw [hc]; decide)]
    rw [hc, hm, hss]
    clear hc hm hss h
    obtain ⟨c0, c1, c2, c3⟩ := h0.cells4
    obtain ⟨g0, g1, g2, g3⟩ := h0.frees4
    have cl := h0.lt
    rcases hri with hri | hri
    · go_enter Try.func19, Try.ntmps19
      go_wp2_with fail
      refine ret_via (fun wz => Has wz (blk w.heap.size #[(Value.int .i64) 0, (Value.int .i64) 0, (Value.int .i64) 0, (Value.int .i64) 0] 24 * (framesAt f s * R)) ∧ Ext w wz) ⟨h0, by (repeat (first | with_reducible assumption | with_reducible exact Ext.refl _ | with_reducible refine Ext.set ?_ _ _ | with_reducible refine Ext.alloc ?_ _ | with_reducible refine Ext.drew ?_ | with_reducible refine Ext.drewN ?_ _ | assumption | exact Ext.refl _ | refine Ext.alloc ?_ _ | refine Ext.set ?_ _ _ | refine Ext.drew ?_ | refine Ext.drewN ?_ _ | refine Ext.below ?_ (by assumption) | refine Ext.trans ?_ (by assumption)))⟩ ?_
      rintro wz ⟨hz, xz⟩
      exact bodyPost_ret (results_ct Try.results19 rfl rfl (load_map hz)) rfl ⟨rfl, hz.right, xz⟩
    · by_cases hr0 : ri < 0
      · omega
      go_enter Try.func19, Try.ntmps19
      go_wp2_with fail
      refine ret_via (fun wz => Has wz (blk w.heap.size #[(Value.int .i64) 0, (Value.int .i64) 0, (Value.int .i64) 0, (Value.int .i64) 0] 24 * (framesAt f s * R)) ∧ Ext w wz) ⟨h0, by (repeat (first | with_reducible assumption | with_reducible exact Ext.refl _ | with_reducible refine Ext.set ?_ _ _ | with_reducible refine Ext.alloc ?_ _ | with_reducible refine Ext.drew ?_ | with_reducible refine Ext.drewN ?_ _ | assumption | exact Ext.refl _ | refine Ext.alloc ?_ _ | refine Ext.set ?_ _ _ | refine Ext.drew ?_ | refine Ext.drewN ?_ _ | refine Ext.below ?_ (by assumption) | refine Ext.trans ?_ (by assumption)))⟩ ?_
      rintro wz ⟨hz, xz⟩
      exact bodyPost_ret (results_ct Try.results19 rfl rfl (load_map hz)) rfl ⟨rfl, hz.right, xz⟩
  have hpc : prC s root p ri = findC s root p := by unfold prC; rw [if_neg hri]
  have hr0 : ¬ ri < 0 := by omega
  have hr7 : ¬ 7 < ri := by omega
  have W1 := Lib.hid (leafT f s root p _ _ hs h0.p2)
  unfold Leafed at W1
  by_cases hfc : findC s root p = 0
  · have hcode : (way s root p).code = 0 := by
      unfold findC at hfc
      split at hfc
      · rename_i hn; exact absurd hfc hn
      · rename_i hn; simpa using hn
    obtain ⟨hp, n, hn, hn3, hl, hu⟩ := way_tabs hcode
    obtain ⟨t, ht⟩ : ∃ t, (way s root p).tabs[n]? = some t := ⟨_, List.getElem?_eq_getElem (by omega)⟩
    have hst := way_store' hcode ht (encW { (way s root p).e with rights := ri } (way s root p).lev)
    have hss : prS s root p ri = storeS s t (index p (3 - (n : Int))) (encW { (way s root p).e with rights := ri } (way s root p).lev) := by
      unfold prS
      rw [if_pos (by rw [hpc]; exact hfc), hst, last_get' hn ht, hl]
    have hm : prM s root p ri = { findM s root p with rights := ri } := by unfold prM; rw [if_pos (by rw [hpc]; exact hfc)]
    have HST := Lib.hid (fun R w h => storeF f s t (index p (3 - (n : Int))) (encW { (way s root p).e with rights := ri } (way s root p).lev) R w h)
    have HE := Lib.hid (encode_any { (way s root p).e with rights := ri } (way s root p).lev)
    dsimp only at HE
    rw [← hss] at HST
    rw [hpc, hm, hfc]
    rw [hfc] at W1
    generalize prS s root p ri = s' at *
    generalize s.hasW t (index p (3 - (n : Int))) = hw at *
    generalize encW { (way s root p).e with rights := ri } (way s root p).lev = wd at *
    generalize entFault { (way s root p).e with rights := ri } (way s root p).lev = ef at *
    generalize findM s root p = fm at *
    clear hst hss hm hpc hri h hcode hu hl hfc
    have hpl := placesOf_get p (n := n + 1) (k := n) (by omega)
    rw [← hn] at hpl
    generalize index p (3 - (n : Int)) = ix at *
    generalize way s root p = y at *
    generalize placesOf p y.tabs.length = pls at *
    have HN := Lib.hid hn
    have HT := Lib.hid ht
    have HPL := Lib.hid hpl
    clear ht hpl hn
    go_enter Try.func19, Try.ntmps19
    go_wp2_with fail
    refine W1.out.mono ?_; rintro e w1 hF
    rcases hF with ⟨_, A, B, c, d, rfl, h1, x1⟩ | ⟨hfc, _⟩
    · have h2 := (h0.onto' (h1.a2)).a1
      have x2 := x0.trans x1
      clear h0 x0 h1 x1 W1
      have h4 := (h2.new #[(Value.int .i64) y.lev, Value.bool y.e.there, Value.bool y.e.leaf, (Value.int .i64) y.e.rights, Value.bool y.e.used, Value.bool y.e.dirty, (Value.int .i64) y.e.frame, .slice A y.tabs.length c, .slice B y.tabs.length d] 56).new #[(Value.int .i64) fm.page, (Value.int .i64) fm.size, (Value.int .i64) fm.frame, (Value.int .i64) fm.rights] 24
      simp only [World.size_alloc] at h4
      have x4 := (x2.alloc (.cells #[(Value.int .i64) y.lev, Value.bool y.e.there, Value.bool y.e.leaf, (Value.int .i64) y.e.rights, Value.bool y.e.used, Value.bool y.e.dirty, (Value.int .i64) y.e.frame, .slice A y.tabs.length c, .slice B y.tabs.length d] 56)).alloc (.cells #[(Value.int .i64) fm.page, (Value.int .i64) fm.size, (Value.int .i64) fm.frame, (Value.int .i64) fm.rights] 24)
      clear h2 x2
      unfold spotA
      go_upto_region 4 with fail
      generalize (w1.alloc (.cells #[(Value.int .i64) y.lev, Value.bool y.e.there, Value.bool y.e.leaf, (Value.int .i64) y.e.rights, Value.bool y.e.used, Value.bool y.e.dirty, (Value.int .i64) y.e.frame, .slice A y.tabs.length c, .slice B y.tabs.length d] 56)).alloc (.cells #[(Value.int .i64) fm.page, (Value.int .i64) fm.size, (Value.int .i64) fm.frame, (Value.int .i64) fm.rights] 24) = w3 at *
      generalize w1.heap.size = X2 at *
      generalize w.heap.size = X0 at *
      have f3 := h4.free 3
      have g3 := h4.right.free 3
      obtain ⟨m0, m1, m2, m3⟩ := h4.cells4
      have ml := h4.lt
      obtain ⟨k0, k1, k2, k3, k4, k5, k6, k7, k8⟩ := h4.right.cells9
      have kl := h4.right.lt
      have nn := h4.ne
      have nn' := nn.symm
      have h5 := ((h4.p2.set 3 ((Value.int .i64) ri)).p2.set 3 ((Value.int .i64) ri))
      have x5 := (x4.set ⟨X2, 3, none⟩ ((Value.int .i64) ri)).set ⟨X2 + 1, 3, none⟩ ((Value.int .i64) ri)
      have h5 : Has ((w3.setCell ⟨X2, 3, none⟩ ((Value.int .i64) ri)).setCell ⟨X2 + 1, 3, none⟩ ((Value.int .i64) ri)) (blk (X2 + 1) #[(Value.int .i64) fm.page, (Value.int .i64) fm.size, (Value.int .i64) fm.frame, (Value.int .i64) ri] 24 * (blk X2 #[(Value.int .i64) y.lev, Value.bool y.e.there, Value.bool y.e.leaf, (Value.int .i64) ri, Value.bool y.e.used, Value.bool y.e.dirty, (Value.int .i64) y.e.frame, .slice A y.tabs.length c, .slice B y.tabs.length d] 56 * (irow (.slice A y.tabs.length c) y.tabs * (irow (.slice B y.tabs.length d) pls * (blk X0 #[(Value.int .i64) 0, (Value.int .i64) 0, (Value.int .i64) 0, (Value.int .i64) 0] 24 * (framesAt f s * R)))))) := h5
      go_upto_region 7 with fail
      generalize (w3.setCell ⟨X2, 3, none⟩ ((Value.int .i64) ri)).setCell ⟨X2 + 1, 3, none⟩ ((Value.int .i64) ri) = w4 at *
      clear h4 x4 f3 g3 m0 m1 m2 m3 ml k0 k1 k2 k3 k4 k5 k6 k7 k8 kl nn nn'
      obtain ⟨k0, k1, k2, k3, k4, k5, k6, k7, k8⟩ := h5.right.cells9
      have kl := h5.right.lt
      go_wp2_with fail
      refine (HE.out _).mono ?_; rintro e w5 ⟨rfl, b5⟩
      have h6 := h5.below b5
      have x6 := x5.below b5
      clear h5 x5 b5 HE k0 k1 k2 k3 k4 k5 k6 k7 k8 kl
      have hNo := HN.out
      obtain ⟨bA, hA1, hA2, hA3⟩ := irow_at (h6.right.right) (k := n) (by omega)
      have hpll : pls.length = y.tabs.length := by
        have := irow_len h6.right.right.right
        exact this.symm
      obtain ⟨bB, hB1, hB2, hB3⟩ := irow_at (h6.right.right.right) (k := n) (by omega)
      have hAt : y.tabs[n]'(by omega) = t := (List.getElem?_eq_some_iff.1 HT.out).2
      have hBt : pls[n]'(by omega) = ix := (List.getElem?_eq_some_iff.1 HPL.out).2
      rw [hAt] at hA3
      rw [hBt] at hB3
      subst hA1; subst hB1
      have hni : (n : Int) < y.tabs.length := by omega
      have hlen1 : ((y.tabs.length : Nat) : Int) - 1 = (n : Int) := by omega
      obtain ⟨k0, k1, k2, k3, k4, k5, k6, k7, k8⟩ := h6.right.cells9
      have kl := h6.right.lt
      have HLN := Lib.hid hlen1
      clear hpll hAt hBt hlen1 hNo
      go_upto_region 8 with fail
      go_cut [15] from 48 to 52 (fun s15 wx => s15 = (Value.int .i64) n ∧ wx = w5)
      case first =>
        have hlen1 := HLN.out
        go_wp2_with fail
        go_meet
        case rel => exact ⟨by first | rfl | (rw [← hlen1]; done) | (rw [← hlen1]; go_num), rfl⟩
      case rest =>
      obtain ⟨rfl, hwr⟩ := hcut
      replace hwr := hwr.symm
      subst hwr
      have hn0 : ¬ ((n : Int) < 0) := by omega
      have h7 : Has w5.drew (framesAt f s * (blk (X2 + 1) #[(Value.int .i64) fm.page, (Value.int .i64) fm.size, (Value.int .i64) fm.frame, (Value.int .i64) ri] 24 * (blk X2 #[(Value.int .i64) y.lev, Value.bool y.e.there, Value.bool y.e.leaf, (Value.int .i64) ri, Value.bool y.e.used, Value.bool y.e.dirty, (Value.int .i64) y.e.frame, .slice (some ⟨bA, 0, none⟩) y.tabs.length c, .slice (some ⟨bB, 0, none⟩) y.tabs.length d] 56 * (irow (.slice (some ⟨bA, 0, none⟩) y.tabs.length c) y.tabs * (irow (.slice (some ⟨bB, 0, none⟩) y.tabs.length d) pls * (blk X0 #[(Value.int .i64) 0, (Value.int .i64) 0, (Value.int .i64) 0, (Value.int .i64) 0] 24 * R)))))) := (h6.eq (show _ = framesAt f s * (blk (X2 + 1) #[(Value.int .i64) fm.page, (Value.int .i64) fm.size, (Value.int .i64) fm.frame, (Value.int .i64) ri] 24 * (blk X2 #[(Value.int .i64) y.lev, Value.bool y.e.there, Value.bool y.e.leaf, (Value.int .i64) ri, Value.bool y.e.used, Value.bool y.e.dirty, (Value.int .i64) y.e.frame, .slice (some ⟨bA, 0, none⟩) y.tabs.length c, .slice (some ⟨bB, 0, none⟩) y.tabs.length d] 56 * (irow (.slice (some ⟨bA, 0, none⟩) y.tabs.length c) y.tabs * (irow (.slice (some ⟨bB, 0, none⟩) y.tabs.length d) pls * (blk X0 #[(Value.int .i64) 0, (Value.int .i64) 0, (Value.int .i64) 0, (Value.int .i64) 0] 24 * R))))) by ac_rfl)).drew
      have x7 := x6.drew
      have HK := Lib.hid (fun (w' : World) (P Q : HProp) (h : Has w' (P * (Q * (blk X2 #[(Value.int .i64) y.lev, Value.bool y.e.there, Value.bool y.e.leaf, (Value.int .i64) ri, Value.bool y.e.used, Value.bool y.e.dirty, (Value.int .i64) y.e.frame, .slice (some ⟨bA, 0, none⟩) y.tabs.length c, .slice (some ⟨bB, 0, none⟩) y.tabs.length d] 56 * (irow (.slice (some ⟨bA, 0, none⟩) y.tabs.length c) y.tabs * (irow (.slice (some ⟨bB, 0, none⟩) y.tabs.length d) pls * (blk X0 #[(Value.int .i64) 0, (Value.int .i64) 0, (Value.int .i64) 0, (Value.int .i64) 0] 24 * R))))))) => (by
        obtain ⟨b1, e1, _, q1⟩ := irow_at (h.right.right.right) (k := n) (by have := HN.out; omega)
        have hpll : pls.length = y.tabs.length := (irow_len h.right.right.right.right).symm
        obtain ⟨b2, e2, _, q2⟩ := irow_at (h.right.right.right.right) (k := n) (by have := HN.out; omega)
        injection e1 with e1; injection e1 with e1
        injection e2 with e2; injection e2 with e2
        subst e1; subst e2
        rw [(List.getElem?_eq_some_iff.1 HT.out).2] at q1
        rw [(List.getElem?_eq_some_iff.1 HPL.out).2] at q2
        exact ⟨h.right.right.cell 7, h.right.right.cell 8, q1, q2⟩ : w'.cell? ⟨X2, 7, none⟩ = some (.slice (some ⟨bA, 0, none⟩) y.tabs.length c) ∧ w'.cell? ⟨X2, 8, none⟩ = some (.slice (some ⟨bB, 0, none⟩) y.tabs.length d) ∧ w'.cell? ⟨bA, n, none⟩ = some ((Value.int .i64) t) ∧ w'.cell? ⟨bB, n, none⟩ = some ((Value.int .i64) ix)))
      clear k0 k1 k2 k3 k4 k5 k6
      go_upto_region 9 with fail
      go_region_held3 (fun w' => w'.cell? ⟨X2, 7, none⟩ = some (.slice (some ⟨bA, 0, none⟩) y.tabs.length c) ∧ w'.cell? ⟨X2, 8, none⟩ = some (.slice (some ⟨bB, 0, none⟩) y.tabs.length d) ∧ w'.cell? ⟨bA, n, none⟩ = some ((Value.int .i64) t) ∧ w'.cell? ⟨bB, n, none⟩ = some ((Value.int .i64) ix)) (first | (with_reducible exact HK.out _ _ _ h7) | (with_reducible exact HK.out _ _ _ h8) | go_keep) (first | (go_at_call 31; (with_reducible refine (HST.out _ _ h7).mono ?_); rintro e w8 ⟨rfl, h8, x8⟩))
      have x9 := x7.trans x8
      have h9 : Has w8 (blk X0 #[(Value.int .i64) 0, (Value.int .i64) 0, (Value.int .i64) 0, (Value.int .i64) 0] 24 * (blk (X2 + 1) #[(Value.int .i64) fm.page, (Value.int .i64) fm.size, (Value.int .i64) fm.frame, (Value.int .i64) ri] 24 * (blk X2 #[(Value.int .i64) y.lev, Value.bool y.e.there, Value.bool y.e.leaf, (Value.int .i64) ri, Value.bool y.e.used, Value.bool y.e.dirty, (Value.int .i64) y.e.frame, .slice (some ⟨bA, 0, none⟩) y.tabs.length c, .slice (some ⟨bB, 0, none⟩) y.tabs.length d] 56 * (irow (.slice (some ⟨bA, 0, none⟩) y.tabs.length c) y.tabs * (irow (.slice (some ⟨bB, 0, none⟩) y.tabs.length d) pls * (framesAt f s' * R)))))) := h8.eq (by ac_rfl)
      clear h6 x6 h7 x7 h8 x8 HK HST k7 k8 kl
      obtain ⟨m0, m1, m2, m3⟩ := h9.right.cells4
      have ml := h9.right.lt
      obtain ⟨r0, r1, r2, r3⟩ := h9.cells4
      obtain ⟨q0, q1, q2, q3⟩ := h9.frees4
      have rl := h9.lt
      go_wp2_with fail
      refine ret_via (fun wz => Has wz (blk X0 #[(Value.int .i64) fm.page, (Value.int .i64) fm.size, (Value.int .i64) fm.frame, (Value.int .i64) ri] 24 * (blk (X2 + 1) #[(Value.int .i64) fm.page, (Value.int .i64) fm.size, (Value.int .i64) fm.frame, (Value.int .i64) ri] 24 * (blk X2 #[(Value.int .i64) y.lev, Value.bool y.e.there, Value.bool y.e.leaf, (Value.int .i64) ri, Value.bool y.e.used, Value.bool y.e.dirty, (Value.int .i64) y.e.frame, .slice (some ⟨bA, 0, none⟩) y.tabs.length c, .slice (some ⟨bB, 0, none⟩) y.tabs.length d] 56 * (irow (.slice (some ⟨bA, 0, none⟩) y.tabs.length c) y.tabs * (irow (.slice (some ⟨bB, 0, none⟩) y.tabs.length d) pls * (framesAt f s' * R)))))) ∧ Ext w wz) ⟨h9.set4 _ _ _ _, by (repeat (first | with_reducible assumption | with_reducible exact Ext.refl _ | with_reducible refine Ext.set ?_ _ _ | with_reducible refine Ext.alloc ?_ _ | with_reducible refine Ext.drew ?_ | with_reducible refine Ext.drewN ?_ _ | assumption | exact Ext.refl _ | refine Ext.alloc ?_ _ | refine Ext.set ?_ _ _ | refine Ext.drew ?_ | refine Ext.drewN ?_ _ | refine Ext.below ?_ (by assumption) | refine Ext.trans ?_ (by assumption)))⟩ ?_
      rintro wz ⟨hz, xz⟩
      exact bodyPost_ret (results_ct Try.results19 rfl rfl (load_map hz)) rfl ⟨rfl, hz.right.right.right.right.right, xz⟩
    · exact absurd rfl hfc
  · have hss : prS s root p ri = s := by unfold prS; rw [if_neg (by rw [hpc]; exact hfc)]
    have hm : prM s root p ri = Mp.zero := by unfold prM; rw [if_neg (by rw [hpc]; exact hfc)]
    rw [hss, hm, hpc]
    have hn : (findC s root p != 0) = true := by simpa using hfc
    generalize findC s root p = fc at *
    clear hss hm hpc h hri
    go_enter Try.func19, Try.ntmps19
    go_wp2_with fail
    refine W1.out.mono ?_; rintro e w1 hF
    rcases hF with ⟨h0', _⟩ | ⟨_, rfl, b1⟩
    · exact absurd h0' hfc
    · have h1 := h0.below b1
      have x1 := x0.below b1
      clear h0 x0 b1 W1 hfc
      have h4 : Has _ (blk w.heap.size #[(Value.int .i64) 0, (Value.int .i64) 0, (Value.int .i64) 0, (Value.int .i64) 0] 24 * (framesAt f s * (blk (w1.heap.size + 1) #[(Value.int .i64) 0, (Value.int .i64) 0, (Value.int .i64) 0, (Value.int .i64) 0] 24 * (blk w1.heap.size #[(Value.int .i64) 0, Value.bool false, Value.bool false, (Value.int .i64) 0, Value.bool false, Value.bool false, (Value.int .i64) 0, .slice none 0 0, .slice none 0 0] 56 * R)))) := ((h1.new #[(Value.int .i64) 0, Value.bool false, Value.bool false, (Value.int .i64) 0, Value.bool false, Value.bool false, (Value.int .i64) 0, .slice none 0 0, .slice none 0 0] 56).new #[(Value.int .i64) 0, (Value.int .i64) 0, (Value.int .i64) 0, (Value.int .i64) 0] 24).eq (by simp only [World.size_alloc]; ac_rfl)
      have x4 := (x1.alloc (.cells #[(Value.int .i64) 0, Value.bool false, Value.bool false, (Value.int .i64) 0, Value.bool false, Value.bool false, (Value.int .i64) 0, .slice none 0 0, .slice none 0 0] 56)).alloc (.cells #[(Value.int .i64) 0, (Value.int .i64) 0, (Value.int .i64) 0, (Value.int .i64) 0] 24)
      clear h1 x1
      unfold zspot
      go_upto_region 4 with fail
      generalize (w1.alloc (.cells #[(Value.int .i64) 0, Value.bool false, Value.bool false, (Value.int .i64) 0, Value.bool false, Value.bool false, (Value.int .i64) 0, .slice none 0 0, .slice none 0 0] 56)).alloc (.cells #[(Value.int .i64) 0, (Value.int .i64) 0, (Value.int .i64) 0, (Value.int .i64) 0] 24) = w3 at *
      generalize w1.heap.size = X2 at *
      generalize w.heap.size = X0 at *
      obtain ⟨r0, r1, r2, r3⟩ := h4.cells4
      obtain ⟨q0, q1, q2, q3⟩ := h4.frees4
      have rl := h4.lt
      go_wp2_with fail
      refine ret_via (fun wz => Has wz (blk X0 #[(Value.int .i64) 0, (Value.int .i64) 0, (Value.int .i64) 0, (Value.int .i64) 0] 24 * (framesAt f s * (blk (X2 + 1) #[(Value.int .i64) 0, (Value.int .i64) 0, (Value.int .i64) 0, (Value.int .i64) 0] 24 * (blk X2 #[(Value.int .i64) 0, Value.bool false, Value.bool false, (Value.int .i64) 0, Value.bool false, Value.bool false, (Value.int .i64) 0, .slice none 0 0, .slice none 0 0] 56 * R)))) ∧ Ext w wz) ⟨h4.set4 _ _ _ _, by (repeat (first | with_reducible assumption | with_reducible exact Ext.refl _ | with_reducible refine Ext.set ?_ _ _ | with_reducible refine Ext.alloc ?_ _ | with_reducible refine Ext.drew ?_ | with_reducible refine Ext.drewN ?_ _ | assumption | exact Ext.refl _ | refine Ext.alloc ?_ _ | refine Ext.set ?_ _ _ | refine Ext.drew ?_ | refine Ext.drewN ?_ _ | refine Ext.below ?_ (by assumption) | refine Ext.trans ?_ (by assumption)))⟩ ?_
      rintro wz ⟨hz, xz⟩
      exact bodyPost_ret (results_ct Try.results19 rfl rfl (load_map hz)) rfl ⟨rfl, hz.right.eq (show _ = blk (X2 + 1) #[(Value.int .i64) 0, (Value.int .i64) 0, (Value.int .i64) 0, (Value.int .i64) 0] 24 * (blk X2 #[(Value.int .i64) 0, Value.bool false, Value.bool false, (Value.int .i64) 0, Value.bool false, Value.bool false, (Value.int .i64) 0, .slice none 0 0, .slice none 0 0] 56 * (framesAt f s * R)) by ac_rfl) |>.right.right, xz⟩
end Go.Proofs.Ytegkimecdonfgaa
namespace Go.Proofs.Ytegkimecdonfgaa
open Go.RowKit
set_option maxRecDepth 100000
end Go.Proofs.Ytegkimecdonfgaa
namespace Go.Proofs.Ytegkimecdonfgaa
open Go.RowKit
set_option maxRecDepth 100000
/-- What Remove hands back. -/
def Removed (f : Nat) (s : Ms) (r p : Int) (R : HProp) (w : World) (e : Ending) (w' : World) : Prop :=
  ∃ A n c, Res (.tuple #[(findM s r p).val, .slice A n c, (Value.int .i64) (findC s r p)]) (irow (.slice A n c) (remG s r p) * (framesAt f (remS s r p) * R)) w e w'
set_option maxHeartbeats 8000000 in
theorem remT (f : Nat) (s : Ms) (root p : Int) (R : HProp) (w : World) (hs : s.Ok) (h : Has w (framesAt f s * R)) :
    Calls Try.prog 15 #[.pointer (some ⟨f, 0, none⟩), (Value.int .i64) root, (Value.int .i64) p] w (Removed f s root p R w) := by
  have h0 := h.new #[(Value.int .i64) 0, (Value.int .i64) 0, (Value.int .i64) 0, (Value.int .i64) 0] 24
  have x0 := (Ext.refl w).alloc (.cells #[(Value.int .i64) 0, (Value.int .i64) 0, (Value.int .i64) 0, (Value.int .i64) 0] 24)
  have W1 := Lib.hid (leafT f s root p _ _ hs h0.p2)
  unfold Leafed at W1
  unfold Removed
  by_cases hfc : findC s root p = 0
  · have hcode : (way s root p).code = 0 := by
      unfold findC at hfc
      split at hfc
      · rename_i hn; exact absurd hfc hn
      · rename_i hn; simpa using hn
    obtain ⟨hp, n, hn, hn3, hl, hu⟩ := way_tabs hcode
    have hRS : remS s root p = (cutT p (way s root p).tabs n (s.setW ((way s root p).tabs.getD n 0).toNat (index p (3 - n : Nat)).toNat 0)).1 := by
      unfold remS; rw [if_pos hfc, hn, Nat.add_sub_cancel, cutR_T]
    have hRG : remG s root p = (cutT p (way s root p).tabs n (s.setW ((way s root p).tabs.getD n 0).toNat (index p (3 - n : Nat)).toNat 0)).2 := by
      unfold remG; rw [if_pos hfc, hn, Nat.add_sub_cancel, cutR_T]
    rw [hfc] at W1 ⊢
    have hHas : ∀ k, (hk : k < (way s root p).tabs.length) → s.has ((way s root p).tabs.getD k 0) = true := fun k hk => by
      rw [List.getD_eq_getElem?_getD, List.getElem?_eq_getElem hk]
      exact hu _ (List.getElem_mem hk)
    have hTk : ∀ k, k < (way s root p).tabs.length → (way s root p).tabs[k]? = some ((way s root p).tabs.getD k 0) := fun k hk => by
      rw [List.getD_eq_getElem?_getD, List.getElem?_eq_getElem hk]
      rfl
    have hPk : ∀ k, k < n + 1 → (placesOf p (way s root p).tabs.length)[k]? = some (index p (3 - k : Nat)) := fun k hk => by
      rw [placesOf_get p (by omega)]
      congr 2
      omega
    -- a store on the way
    have hSt : ∀ (σ : Ms), (∀ u, σ.has u = s.has u) → ∀ k, k < n + 1 → ∀ R w, Has w (framesAt f σ * R) → Calls Try.prog 31 #[.pointer (some ⟨f, 0, none⟩), (Value.int .i64) ((way s root p).tabs.getD k 0), (Value.int .i64) (index p (3 - k : Nat)), (Value.int .u64) 0] w (Res (Value.bool true) (framesAt f (σ.setW ((way s root p).tabs.getD k 0).toNat (index p (3 - k : Nat)).toNat 0) * R) w) := fun σ hσ k hk R w h => by
      have hw : σ.hasW ((way s root p).tabs.getD k 0) (index p (3 - k : Nat)) = true := by
        rw [hasW_index hp (by omega) (by omega), hσ]
        exact hHas k (by omega)
      have := storeF f σ ((way s root p).tabs.getD k 0) (index p (3 - k : Nat)) 0 R w h
      unfold storeS at this
      rw [if_pos hw, hw] at this
      exact this
    have hEm : ∀ (σ : Ms), (∀ u, σ.has u = s.has u) → ∀ k, k < n + 1 → ∀ R w, Has w (framesAt f σ * R) → Calls Try.prog 69 #[.pointer (some ⟨f, 0, none⟩), (Value.int .i64) ((way s root p).tabs.getD k 0)] w (Same (Value.bool (allZ σ ((way s root p).tabs.getD k 0))) w) := fun σ hσ k hk R w h => by
      have := emptyT f ((way s root p).tabs.getD k 0) σ R w h
      rw [emptyV_eq (by rw [hσ]; exact hHas k (by omega))] at this
      exact this
    have HST := Lib.hid hSt
    have HEM := Lib.hid hEm
    have HTK := Lib.hid hTk
    have HPK := Lib.hid hPk
    have HRS := Lib.hid hRS
    have HRG := Lib.hid hRG
    clear hSt hEm hTk hPk hRS hRG hHas hu hl hcode h hfc
    generalize remS s root p = rs at *
    generalize remG s root p = rg at *
    generalize findM s root p = fm at *
    generalize way s root p = y at *
    generalize placesOf p y.tabs.length = pls at *
    generalize hix : (fun k : Nat => index p (3 - k : Nat)) = ixs
    have HIX := Lib.hid hix
    clear hix
    have HN := Lib.hid hn
    clear hn
    go_enter Try.func15, Try.ntmps15
    go_wp2_with fail
    refine W1.out.mono ?_; rintro e w1 hF
    rcases hF with ⟨_, A, B, c, d, rfl, h1, x1⟩ | ⟨hfc, _⟩
    · have h2 := (h0.onto' (h1.a2)).a1
      have x2 := x0.trans x1
      clear h0 x0 h1 x1 W1
      have h4 := (h2.new #[(Value.int .i64) y.lev, Value.bool y.e.there, Value.bool y.e.leaf, (Value.int .i64) y.e.rights, Value.bool y.e.used, Value.bool y.e.dirty, (Value.int .i64) y.e.frame, .slice A y.tabs.length c, .slice B y.tabs.length d] 56).new #[(Value.int .i64) fm.page, (Value.int .i64) fm.size, (Value.int .i64) fm.frame, (Value.int .i64) fm.rights] 24
      simp only [World.size_alloc] at h4
      have x4 := (x2.alloc (.cells #[(Value.int .i64) y.lev, Value.bool y.e.there, Value.bool y.e.leaf, (Value.int .i64) y.e.rights, Value.bool y.e.used, Value.bool y.e.dirty, (Value.int .i64) y.e.frame, .slice A y.tabs.length c, .slice B y.tabs.length d] 56)).alloc (.cells #[(Value.int .i64) fm.page, (Value.int .i64) fm.size, (Value.int .i64) fm.frame, (Value.int .i64) fm.rights] 24)
      clear h2 x2
      unfold spotA
      go_upto_region 4 with fail
      generalize (w1.alloc (.cells #[(Value.int .i64) y.lev, Value.bool y.e.there, Value.bool y.e.leaf, (Value.int .i64) y.e.rights, Value.bool y.e.used, Value.bool y.e.dirty, (Value.int .i64) y.e.frame, .slice A y.tabs.length c, .slice B y.tabs.length d] 56)).alloc (.cells #[(Value.int .i64) fm.page, (Value.int .i64) fm.size, (Value.int .i64) fm.frame, (Value.int .i64) fm.rights] 24) = w3 at *
      generalize w1.heap.size = X2 at *
      generalize w.heap.size = X0 at *
      have hNo := HN.out
      obtain ⟨bA, hA1, -, -⟩ := irow_at (h4.right.right) (k := n) (by omega)
      have hpll : pls.length = y.tabs.length := (irow_len h4.right.right.right).symm
      obtain ⟨bB, hB1, -, -⟩ := irow_at (h4.right.right.right) (k := n) (by omega)
      subst hA1; subst hB1
      have hlen1 : ((y.tabs.length : Nat) : Int) - 1 = (n : Int) := by omega
      have h6 : Has w3 (framesAt f s * (blk (X2 + 1) #[(Value.int .i64) fm.page, (Value.int .i64) fm.size, (Value.int .i64) fm.frame, (Value.int .i64) fm.rights] 24 * (blk X2 #[(Value.int .i64) y.lev, Value.bool y.e.there, Value.bool y.e.leaf, (Value.int .i64) y.e.rights, Value.bool y.e.used, Value.bool y.e.dirty, (Value.int .i64) y.e.frame, .slice (some ⟨bA, 0, none⟩) y.tabs.length c, .slice (some ⟨bB, 0, none⟩) y.tabs.length d] 56 * (irow (.slice (some ⟨bA, 0, none⟩) y.tabs.length c) y.tabs * (irow (.slice (some ⟨bB, 0, none⟩) y.tabs.length d) pls * (blk X0 #[(Value.int .i64) 0, (Value.int .i64) 0, (Value.int .i64) 0, (Value.int .i64) 0] 24 * R)))))) := h4.eq (by ac_rfl)
      have HK := Lib.hid (fun (k : Nat) (hk : k < n + 1) (w' : World) (P Q : HProp) (h : Has w' (P * (Q * (blk X2 #[(Value.int .i64) y.lev, Value.bool y.e.there, Value.bool y.e.leaf, (Value.int .i64) y.e.rights, Value.bool y.e.used, Value.bool y.e.dirty, (Value.int .i64) y.e.frame, .slice (some ⟨bA, 0, none⟩) y.tabs.length c, .slice (some ⟨bB, 0, none⟩) y.tabs.length d] 56 * (irow (.slice (some ⟨bA, 0, none⟩) y.tabs.length c) y.tabs * (irow (.slice (some ⟨bB, 0, none⟩) y.tabs.length d) pls * (blk X0 #[(Value.int .i64) 0, (Value.int .i64) 0, (Value.int .i64) 0, (Value.int .i64) 0] 24 * R))))))) => (by
        have hno := HN.out
        obtain ⟨b1, e1, l1, q1⟩ := irow_at (h.right.right.right) (k := k) (by omega)
        have hpl2 : pls.length = y.tabs.length := (irow_len h.right.right.right.right).symm
        obtain ⟨b2, e2, l2, q2⟩ := irow_at (h.right.right.right.right) (k := k) (by omega)
        injection e1 with e1; injection e1 with e1
        injection e2 with e2; injection e2 with e2
        subst e1; subst e2
        rw [(List.getElem?_eq_some_iff.1 (HTK.out k (by omega))).2] at q1
        rw [(List.getElem?_eq_some_iff.1 (HPK.out k hk)).2] at q2
        exact ⟨h.right.right.cell 7, h.right.right.cell 8, q1, q2, h.right.right.lt, l1, l2⟩ : w'.cell? ⟨X2, 7, none⟩ = some (.slice (some ⟨bA, 0, none⟩) y.tabs.length c) ∧ w'.cell? ⟨X2, 8, none⟩ = some (.slice (some ⟨bB, 0, none⟩) y.tabs.length d) ∧ w'.cell? ⟨bA, k, none⟩ = some ((Value.int .i64) (y.tabs.getD k 0)) ∧ w'.cell? ⟨bB, k, none⟩ = some ((Value.int .i64) (index p (3 - k : Nat))) ∧ X2 < w'.heap.size ∧ bA < w'.heap.size ∧ bB < w'.heap.size))
      obtain ⟨k7, k8, _, _, kl, _, _⟩ := HK.out n (by omega) _ _ _ h6
      have HLN := Lib.hid hlen1
      clear hNo hpll hlen1 h4
      go_upto_region 5 with fail
      go_cut [13] from 26 to 30 (fun s13 wx => s13 = (Value.int .i64) n ∧ wx = w3)
      case first =>
        have hlen1 := HLN.out
        go_wp2_with fail
        go_meet
        case rel => exact ⟨by first | rfl | (rw [← hlen1]; done) | (rw [← hlen1]; go_num), rfl⟩
      case rest =>
      obtain ⟨rfl, hwr⟩ := hcut
      replace hwr := hwr.symm
      subst hwr
      clear k7 k8 kl
      obtain ⟨k7, k8, kA, kB, kl, lA, lB⟩ := HK.out n (by omega) _ _ _ h6
      have hni : (n : Int) < y.tabs.length := by have := HN.out; omega
      have hn0 : ¬ ((n : Int) < 0) := by omega
      have hS1 := Lib.hid (HST.out s (fun _ => rfl) n (by omega))
      have HKn := Lib.hid (HK.out n (by omega))
      have HRS' := Lib.hid HRS.out
      have HRG' := Lib.hid HRG.out
      have hhas : ∀ u, (s.setW (y.tabs.getD n 0).toNat (index p (3 - n : Nat)).toNat 0).has u = s.has u := fun u => rfl
      have HHA := Lib.hid hhas
      clear HRS HRG hhas
      generalize s.setW (y.tabs.getD n 0).toNat (index p (3 - n : Nat)).toNat 0 = s1 at *
      generalize y.tabs.getD n 0 = t at kA hS1 HKn
      generalize index p (3 - n : Nat) = ix at kB hS1 HKn
      have h7 := h6.drew
      have x7 := x4.drew
      go_upto_region 6 with fail
      go_region_held3 (fun w' => w'.cell? ⟨X2, 7, none⟩ = some (.slice (some ⟨bA, 0, none⟩) y.tabs.length c) ∧ w'.cell? ⟨X2, 8, none⟩ = some (.slice (some ⟨bB, 0, none⟩) y.tabs.length d) ∧ w'.cell? ⟨bA, n, none⟩ = some ((Value.int .i64) t) ∧ w'.cell? ⟨bB, n, none⟩ = some ((Value.int .i64) ix)) (first | (with_reducible exact ⟨(HKn.out _ _ _ h7).1, (HKn.out _ _ _ h7).2.1, (HKn.out _ _ _ h7).2.2.1, (HKn.out _ _ _ h7).2.2.2.1⟩) | (with_reducible exact ⟨(HKn.out _ _ _ h8).1, (HKn.out _ _ _ h8).2.1, (HKn.out _ _ _ h8).2.2.1, (HKn.out _ _ _ h8).2.2.2.1⟩) | go_keep) (first | (go_at_call 31; (with_reducible refine (hS1.out _ _ h7).mono ?_); rintro e w8 ⟨rfl, h8, x8⟩))
      have x9 := x7.trans x8
      have h9 : Has w8 (irow (.slice none 0 0) [] * (framesAt f s1 * (blk (X2 + 1) #[(Value.int .i64) fm.page, (Value.int .i64) fm.size, (Value.int .i64) fm.frame, (Value.int .i64) fm.rights] 24 * (blk X2 #[(Value.int .i64) y.lev, Value.bool y.e.there, Value.bool y.e.leaf, (Value.int .i64) y.e.rights, Value.bool y.e.used, Value.bool y.e.dirty, (Value.int .i64) y.e.frame, .slice (some ⟨bA, 0, none⟩) y.tabs.length c, .slice (some ⟨bB, 0, none⟩) y.tabs.length d] 56 * (irow (.slice (some ⟨bA, 0, none⟩) y.tabs.length c) y.tabs * (irow (.slice (some ⟨bB, 0, none⟩) y.tabs.length d) pls * (blk X0 #[(Value.int .i64) 0, (Value.int .i64) 0, (Value.int .i64) 0, (Value.int .i64) 0] 24 * R))))))) := Has.rowNil h8
      clear h6 x4 h7 x7 h8 x8 hS1 HKn k7 k8 kA kB kl lA lB hni hn0
      go_wp2_with fail
      go_loopw [12, 13] (fun t12 t13 wr => ∃ (k : Nat) (σ : Ms) (g : List Int) (G : Option Addr) (gc : Nat), k < n + 1 ∧ t13 = (Value.int .i64) k ∧ t12 = .slice G g.length gc ∧ Hid (∀ u, σ.has u = s.has u) ∧ Hid (rs = (cutT p y.tabs k σ).1 ∧ rg = g ++ (cutT p y.tabs k σ).2) ∧ g.length + k ≤ n ∧ Has wr (irow (.slice G g.length gc) g * (framesAt f σ * (blk (X2 + 1) #[(Value.int .i64) fm.page, (Value.int .i64) fm.size, (Value.int .i64) fm.frame, (Value.int .i64) fm.rights] 24 * (blk X2 #[(Value.int .i64) y.lev, Value.bool y.e.there, Value.bool y.e.leaf, (Value.int .i64) y.e.rights, Value.bool y.e.used, Value.bool y.e.dirty, (Value.int .i64) y.e.frame, .slice (some ⟨bA, 0, none⟩) y.tabs.length c, .slice (some ⟨bB, 0, none⟩) y.tabs.length d] 56 * (irow (.slice (some ⟨bA, 0, none⟩) y.tabs.length c) y.tabs * (irow (.slice (some ⟨bB, 0, none⟩) y.tabs.length d) pls * (blk X0 #[(Value.int .i64) 0, (Value.int .i64) 0, (Value.int .i64) 0, (Value.int .i64) 0] 24 * R))))))) ∧ Ext w wr) (fun _ t13 _ => (intOf t13).toNat)
      case atStart => exact ⟨n, s1, [], none, 0, by omega, rfl, rfl, HHA, Lib.hid ⟨HRS'.out, by rw [List.nil_append]; exact HRG'.out⟩, by simp, h9, x9⟩
      case round =>
        clear h9 x9 HRS' HRG' HHA
        obtain ⟨k, σ, g, G, gc, hk, rfl, rfl, HHS, HCU, hgl, hr, hx⟩ := hrel
        have hEk := Lib.hid (HEM.out σ HHS.out k hk)
        obtain ⟨k7, k8, kA, kB, kl, lA, lB⟩ := HK.out k hk _ _ _ hr.right
        have hki : (k : Int) < y.tabs.length := by have := HN.out; omega
        have hkn : ¬ ((k : Int) < 0) := by omega
        have hz : Has _ (blk X0 #[(Value.int .i64) 0, (Value.int .i64) 0, (Value.int .i64) 0, (Value.int .i64) 0] 24 * (irow (.slice G g.length gc) g * (framesAt f σ * (blk (X2 + 1) #[(Value.int .i64) fm.page, (Value.int .i64) fm.size, (Value.int .i64) fm.frame, (Value.int .i64) fm.rights] 24 * (blk X2 #[(Value.int .i64) y.lev, Value.bool y.e.there, Value.bool y.e.leaf, (Value.int .i64) y.e.rights, Value.bool y.e.used, Value.bool y.e.dirty, (Value.int .i64) y.e.frame, .slice (some ⟨bA, 0, none⟩) y.tabs.length c, .slice (some ⟨bB, 0, none⟩) y.tabs.length d] 56 * (irow (.slice (some ⟨bA, 0, none⟩) y.tabs.length c) y.tabs * (irow (.slice (some ⟨bB, 0, none⟩) y.tabs.length d) pls * R))))))) := hr.eq (by ac_rfl)
        obtain ⟨r0, r1, r2, r3⟩ := hz.cells4
        obtain ⟨q0, q1, q2, q3⟩ := hz.frees4
        have rl := hz.lt
        obtain ⟨m0, m1, m2, m3⟩ := hr.right.right.cells4
        have ml := hr.right.right.lt
        by_cases hk0 : k = 0
        · have hcut := cutT_no p y.tabs (k := k) (s := σ) (.inl hk0)
          subst hk0
          have HF := Lib.hid (show rs = σ ∧ rg = g by have := HCU.out; rw [hcut] at this; exact ⟨this.1, by rw [this.2]; simp⟩)
          clear hcut HCU hEk
          go_wp2_with fail
          refine ret_via (fun wz => Has wz (blk X0 #[(Value.int .i64) fm.page, (Value.int .i64) fm.size, (Value.int .i64) fm.frame, (Value.int .i64) fm.rights] 24 * (irow (.slice G g.length gc) g * (framesAt f σ * (blk (X2 + 1) #[(Value.int .i64) fm.page, (Value.int .i64) fm.size, (Value.int .i64) fm.frame, (Value.int .i64) fm.rights] 24 * (blk X2 #[(Value.int .i64) y.lev, Value.bool y.e.there, Value.bool y.e.leaf, (Value.int .i64) y.e.rights, Value.bool y.e.used, Value.bool y.e.dirty, (Value.int .i64) y.e.frame, .slice (some ⟨bA, 0, none⟩) y.tabs.length c, .slice (some ⟨bB, 0, none⟩) y.tabs.length d] 56 * (irow (.slice (some ⟨bA, 0, none⟩) y.tabs.length c) y.tabs * (irow (.slice (some ⟨bB, 0, none⟩) y.tabs.length d) pls * R))))))) ∧ Ext w wz) ⟨hz.set4 _ _ _ _, by (repeat (first | with_reducible assumption | with_reducible exact Ext.refl _ | with_reducible refine Ext.set ?_ _ _ | with_reducible refine Ext.alloc ?_ _ | with_reducible refine Ext.drew ?_ | with_reducible refine Ext.drewN ?_ _ | assumption | exact Ext.refl _ | refine Ext.alloc ?_ _ | refine Ext.set ?_ _ _ | refine Ext.drew ?_ | refine Ext.drewN ?_ _ | refine Ext.below ?_ (by assumption) | refine Ext.trans ?_ (by assumption)))⟩ ?_
          rintro wz ⟨hw, xw⟩
          have hw2 : Has wz (irow (.slice (some ⟨bB, 0, none⟩) y.tabs.length d) pls * (irow (.slice (some ⟨bA, 0, none⟩) y.tabs.length c) y.tabs * (blk X2 #[(Value.int .i64) y.lev, Value.bool y.e.there, Value.bool y.e.leaf, (Value.int .i64) y.e.rights, Value.bool y.e.used, Value.bool y.e.dirty, (Value.int .i64) y.e.frame, .slice (some ⟨bA, 0, none⟩) y.tabs.length c, .slice (some ⟨bB, 0, none⟩) y.tabs.length d] 56 * (blk (X2 + 1) #[(Value.int .i64) fm.page, (Value.int .i64) fm.size, (Value.int .i64) fm.frame, (Value.int .i64) fm.rights] 24 * (blk X0 #[(Value.int .i64) fm.page, (Value.int .i64) fm.size, (Value.int .i64) fm.frame, (Value.int .i64) fm.rights] 24 * (irow (.slice G g.length gc) g * (framesAt f σ * R))))))) := hw.eq (by ac_rfl)
          exact bodyPost_ret (results_ctt Try.results15 rfl rfl rfl (load_map hw)) rfl ⟨G, g.length, gc, rfl, by rw [HF.out.1, HF.out.2]; exact hw2.right.right.right.right.right, xw⟩
        · obtain ⟨j, hj⟩ : ∃ j, k = j + 1 := ⟨k - 1, by omega⟩
          have hk0' : (0 : Int) < (k : Int) := by omega
          have hji : (k : Int) - 1 = (j : Int) := by omega
          have HJ := Lib.hid hj
          have hjn : j < n + 1 := by omega
          clear hj
          cases hez : allZ σ (y.tabs.getD k 0) with
          | false =>
            have hcut := cutT_no p y.tabs (k := k) (s := σ) (.inr hez)
            have HF := Lib.hid (show rs = σ ∧ rg = g by have := HCU.out; rw [hcut] at this; exact ⟨this.1, by rw [this.2]; simp⟩)
            rw [hez] at hEk
            clear hcut HCU hez
            generalize y.tabs.getD k 0 = t at kA hEk
            go_wp2_with fail
            refine (hEk.out _ _ hr.right).mono ?_; rintro e w2 ⟨rfl, rfl⟩
            go_wp2_with fail
            refine ret_via (fun wz => Has wz (blk X0 #[(Value.int .i64) fm.page, (Value.int .i64) fm.size, (Value.int .i64) fm.frame, (Value.int .i64) fm.rights] 24 * (irow (.slice G g.length gc) g * (framesAt f σ * (blk (X2 + 1) #[(Value.int .i64) fm.page, (Value.int .i64) fm.size, (Value.int .i64) fm.frame, (Value.int .i64) fm.rights] 24 * (blk X2 #[(Value.int .i64) y.lev, Value.bool y.e.there, Value.bool y.e.leaf, (Value.int .i64) y.e.rights, Value.bool y.e.used, Value.bool y.e.dirty, (Value.int .i64) y.e.frame, .slice (some ⟨bA, 0, none⟩) y.tabs.length c, .slice (some ⟨bB, 0, none⟩) y.tabs.length d] 56 * (irow (.slice (some ⟨bA, 0, none⟩) y.tabs.length c) y.tabs * (irow (.slice (some ⟨bB, 0, none⟩) y.tabs.length d) pls * R))))))) ∧ Ext w wz) ⟨hz.set4 _ _ _ _, by (repeat (first | with_reducible assumption | with_reducible exact Ext.refl _ | with_reducible refine Ext.set ?_ _ _ | with_reducible refine Ext.alloc ?_ _ | with_reducible refine Ext.drew ?_ | with_reducible refine Ext.drewN ?_ _ | assumption | exact Ext.refl _ | refine Ext.alloc ?_ _ | refine Ext.set ?_ _ _ | refine Ext.drew ?_ | refine Ext.drewN ?_ _ | refine Ext.below ?_ (by assumption) | refine Ext.trans ?_ (by assumption)))⟩ ?_
            rintro wz ⟨hw, xw⟩
            have hw2 : Has wz (irow (.slice (some ⟨bB, 0, none⟩) y.tabs.length d) pls * (irow (.slice (some ⟨bA, 0, none⟩) y.tabs.length c) y.tabs * (blk X2 #[(Value.int .i64) y.lev, Value.bool y.e.there, Value.bool y.e.leaf, (Value.int .i64) y.e.rights, Value.bool y.e.used, Value.bool y.e.dirty, (Value.int .i64) y.e.frame, .slice (some ⟨bA, 0, none⟩) y.tabs.length c, .slice (some ⟨bB, 0, none⟩) y.tabs.length d] 56 * (blk (X2 + 1) #[(Value.int .i64) fm.page, (Value.int .i64) fm.size, (Value.int .i64) fm.frame, (Value.int .i64) fm.rights] 24 * (blk X0 #[(Value.int .i64) fm.page, (Value.int .i64) fm.size, (Value.int .i64) fm.frame, (Value.int .i64) fm.rights] 24 * (irow (.slice G g.length gc) g * (framesAt f σ * R))))))) := hw.eq (by ac_rfl)
            exact bodyPost_ret (results_ctt Try.results15 rfl rfl rfl (load_map hw)) rfl ⟨G, g.length, gc, rfl, by rw [HF.out.1, HF.out.2]; exact hw2.right.right.right.right.right, xw⟩
          | true =>
            have hcut := cutT_yes p y.tabs (k := k) (j := j) (s := σ) HJ.out hez
            rw [hez] at hEk
            have HCU' := Lib.hid (show rs = (cutT p y.tabs j (σ.setW (y.tabs.getD j 0).toNat (index p (3 - j : Nat)).toNat 0)).1 ∧ rg = (g ++ [y.tabs.getD k 0]) ++ (cutT p y.tabs j (σ.setW (y.tabs.getD j 0).toNat (index p (3 - j : Nat)).toNat 0)).2 by
              have := HCU.out
              rw [hcut] at this
              exact ⟨this.1, by rw [this.2]; simp⟩)
            have hSj := Lib.hid (HST.out σ HHS.out j hjn)
            have HKj := Lib.hid (HK.out j hjn)
            have HKk := Lib.hid (HK.out k hk)
            have HHS' := Lib.hid (show ∀ u, (σ.setW (y.tabs.getD j 0).toNat (index p (3 - j : Nat)).toNat 0).has u = s.has u from HHS.out)
            clear hcut HCU hez HHS
            generalize σ.setW (y.tabs.getD j 0).toNat (index p (3 - j : Nat)).toNat 0 = σ' at *
            obtain ⟨j7, j8, jA, jB, _, _, _⟩ := HKj.out _ _ _ hr.right
            generalize y.tabs.getD k 0 = t at kA hEk HCU' HKk
            generalize y.tabs.getD j 0 = tj at jA hSj HKj
            generalize index p (3 - j : Nat) = ij at jB hSj HKj
            generalize index p (3 - k : Nat) = ik at kB HKk
            have hjl : (j : Int) < y.tabs.length := by have := HN.out; omega
            have hj0 : ¬ ((j : Int) < 0) := by omega
            have hj00 : (0 : Int) ≤ (j : Int) := by omega
            have hj3 : j ≤ 3 := by omega
            have hwj : IntKind.i64.wrap (j : Int) = (j : Int) := by rw [IntKind.wrap_i64]; omega
            have hwk : IntKind.i64.wrap ((k : Int) - 1) = (j : Int) := by rw [hji]; exact hwj
            go_wp2_with fail
            refine (hEk.out _ _ hr.right).mono ?_; rintro e w2 ⟨rfl, rfl⟩
            have h7 : Has _ (framesAt f σ * ((irow (.slice G g.length gc) g * blk (X2 + 1) #[(Value.int .i64) fm.page, (Value.int .i64) fm.size, (Value.int .i64) fm.frame, (Value.int .i64) fm.rights] 24) * (blk X2 #[(Value.int .i64) y.lev, Value.bool y.e.there, Value.bool y.e.leaf, (Value.int .i64) y.e.rights, Value.bool y.e.used, Value.bool y.e.dirty, (Value.int .i64) y.e.frame, .slice (some ⟨bA, 0, none⟩) y.tabs.length c, .slice (some ⟨bB, 0, none⟩) y.tabs.length d] 56 * (irow (.slice (some ⟨bA, 0, none⟩) y.tabs.length c) y.tabs * (irow (.slice (some ⟨bB, 0, none⟩) y.tabs.length d) pls * (blk X0 #[(Value.int .i64) 0, (Value.int .i64) 0, (Value.int .i64) 0, (Value.int .i64) 0] 24 * R)))))) := (hr.eq (by ac_rfl)).drew
            have x7 := hx.drew
            go_upto_region 9 with fail
            go_region_held3 (fun w' => w'.cell? ⟨X2, 7, none⟩ = some (.slice (some ⟨bA, 0, none⟩) y.tabs.length c) ∧ w'.cell? ⟨X2, 8, none⟩ = some (.slice (some ⟨bB, 0, none⟩) y.tabs.length d) ∧ w'.cell? ⟨bA, j, none⟩ = some ((Value.int .i64) tj) ∧ w'.cell? ⟨bB, j, none⟩ = some ((Value.int .i64) ij)) (first | (with_reducible exact ⟨(HKj.out _ _ _ h7).1, (HKj.out _ _ _ h7).2.1, (HKj.out _ _ _ h7).2.2.1, (HKj.out _ _ _ h7).2.2.2.1⟩) | (with_reducible exact ⟨(HKj.out _ _ _ h8).1, (HKj.out _ _ _ h8).2.1, (HKj.out _ _ _ h8).2.2.1, (HKj.out _ _ _ h8).2.2.2.1⟩) | go_keep) (first | (go_at_call 31; (with_reducible refine (hSj.out _ _ h7).mono ?_); rintro e w8 ⟨rfl, h8, x8⟩))
            have x9 := x7.trans x8
            have h9 : Has w8 (row 3 1 (.slice G g.length gc) g.length (g.map (Value.int .i64)) * (framesAt f σ' * (blk (X2 + 1) #[(Value.int .i64) fm.page, (Value.int .i64) fm.size, (Value.int .i64) fm.frame, (Value.int .i64) fm.rights] 24 * (blk X2 #[(Value.int .i64) y.lev, Value.bool y.e.there, Value.bool y.e.leaf, (Value.int .i64) y.e.rights, Value.bool y.e.used, Value.bool y.e.dirty, (Value.int .i64) y.e.frame, .slice (some ⟨bA, 0, none⟩) y.tabs.length c, .slice (some ⟨bB, 0, none⟩) y.tabs.length d] 56 * (irow (.slice (some ⟨bA, 0, none⟩) y.tabs.length c) y.tabs * (irow (.slice (some ⟨bB, 0, none⟩) y.tabs.length d) pls * (blk X0 #[(Value.int .i64) 0, (Value.int .i64) 0, (Value.int .i64) 0, (Value.int .i64) 0] 24 * R))))))) := h8.eq (by unfold irow; ac_rfl)
            obtain ⟨k7', k8', kA', kB', kl', lA', lB'⟩ := HKk.out _ _ _ h8
            clear hr hx hz r0 r1 r2 r3 q0 q1 q2 q3 rl m0 m1 m2 m3 ml k7 k8 kA kB kl lA lB j7 j8 jA jB h7 x7 h8 x8 hEk hSj
            have hrow := h9.alloc (.cells #[(Value.int .i64) t] 3)
            go_wp2_with (first | (at_builtin; refine wpList_append_has rfl _ _ 36 rfl Try.underlying36 elemI _ _ _ rfl hrow ⟨w8.heap.size, 0, none⟩ 1 1 [(Value.int .i64) t] rfl rfl (news_one w8 ((Value.int .i64) t) 3) ?c1 ?c2 ?c3 ?_))
            case c1 => intro u hu; simp at hu; subst hu; rfl
            case c2 => unfold maxLen; omega
            case c3 => omega
            intro v' w10 h10 x10
            obtain ⟨G', gc', rfl⟩ := h10.rowForm
            go_wp2_with fail
            go_roundw
            case rel => exact ⟨j, σ', g ++ [t], G', gc', hjn, by go_num, by simp, HHS', HCU', by simp; have := HJ.out; omega, by unfold irow; simp only [List.length_append, List.length_singleton, List.map_append, List.map_cons, List.map_nil]; exact h10, (x9.alloc _).trans x10⟩
            case measure => have := HJ.out; simp [intOf]; omega
    · exact absurd rfl hfc
  · have hrs : remS s root p = s := by unfold remS; rw [if_neg hfc]
    have hrg : remG s root p = [] := by unfold remG; rw [if_neg hfc]
    have hm : findM s root p = Mp.zero := by unfold findM; rw [if_neg hfc]
    have hn : (findC s root p != 0) = true := by simpa using hfc
    have HF := Lib.hid (And.intro hrs (And.intro hrg hm))
    generalize findC s root p = fc at *
    generalize remS s root p = rs at *
    generalize remG s root p = rg at *
    generalize findM s root p = fm at *
    clear hrs hrg hm h
    go_enter Try.func15, Try.ntmps15
    go_wp2_with fail
    refine W1.out.mono ?_; rintro e w1 hF
    rcases hF with ⟨h0', _⟩ | ⟨_, rfl, b1⟩
    · exact absurd h0' hfc
    · have h1 := h0.below b1
      have x1 := x0.below b1
      clear h0 x0 b1 W1 hfc
      have h4 : Has _ (blk w.heap.size #[(Value.int .i64) 0, (Value.int .i64) 0, (Value.int .i64) 0, (Value.int .i64) 0] 24 * (framesAt f s * (blk (w1.heap.size + 1) #[(Value.int .i64) 0, (Value.int .i64) 0, (Value.int .i64) 0, (Value.int .i64) 0] 24 * (blk w1.heap.size #[(Value.int .i64) 0, Value.bool false, Value.bool false, (Value.int .i64) 0, Value.bool false, Value.bool false, (Value.int .i64) 0, .slice none 0 0, .slice none 0 0] 56 * R)))) := ((h1.new #[(Value.int .i64) 0, Value.bool false, Value.bool false, (Value.int .i64) 0, Value.bool false, Value.bool false, (Value.int .i64) 0, .slice none 0 0, .slice none 0 0] 56).new #[(Value.int .i64) 0, (Value.int .i64) 0, (Value.int .i64) 0, (Value.int .i64) 0] 24).eq (by simp only [World.size_alloc]; ac_rfl)
      have x4 := (x1.alloc (.cells #[(Value.int .i64) 0, Value.bool false, Value.bool false, (Value.int .i64) 0, Value.bool false, Value.bool false, (Value.int .i64) 0, .slice none 0 0, .slice none 0 0] 56)).alloc (.cells #[(Value.int .i64) 0, (Value.int .i64) 0, (Value.int .i64) 0, (Value.int .i64) 0] 24)
      clear h1 x1
      unfold zspot
      go_upto_region 2 with fail
      generalize (w1.alloc (.cells #[(Value.int .i64) 0, Value.bool false, Value.bool false, (Value.int .i64) 0, Value.bool false, Value.bool false, (Value.int .i64) 0, .slice none 0 0, .slice none 0 0] 56)).alloc (.cells #[(Value.int .i64) 0, (Value.int .i64) 0, (Value.int .i64) 0, (Value.int .i64) 0] 24) = w3 at *
      generalize w1.heap.size = X2 at *
      generalize w.heap.size = X0 at *
      obtain ⟨r0, r1, r2, r3⟩ := h4.cells4
      obtain ⟨q0, q1, q2, q3⟩ := h4.frees4
      have rl := h4.lt
      go_wp2_with fail
      refine ret_via (fun wz => Has wz (blk X0 #[(Value.int .i64) 0, (Value.int .i64) 0, (Value.int .i64) 0, (Value.int .i64) 0] 24 * (framesAt f s * (blk (X2 + 1) #[(Value.int .i64) 0, (Value.int .i64) 0, (Value.int .i64) 0, (Value.int .i64) 0] 24 * (blk X2 #[(Value.int .i64) 0, Value.bool false, Value.bool false, (Value.int .i64) 0, Value.bool false, Value.bool false, (Value.int .i64) 0, .slice none 0 0, .slice none 0 0] 56 * R)))) ∧ Ext w wz) ⟨h4.set4 _ _ _ _, by (repeat (first | with_reducible assumption | with_reducible exact Ext.refl _ | with_reducible refine Ext.set ?_ _ _ | with_reducible refine Ext.alloc ?_ _ | with_reducible refine Ext.drew ?_ | with_reducible refine Ext.drewN ?_ _ | assumption | exact Ext.refl _ | refine Ext.alloc ?_ _ | refine Ext.set ?_ _ _ | refine Ext.drew ?_ | refine Ext.drewN ?_ _ | refine Ext.below ?_ (by assumption) | refine Ext.trans ?_ (by assumption)))⟩ ?_
      rintro wz ⟨hw, xw⟩
      have hw2 : Has wz (blk (X2 + 1) #[(Value.int .i64) 0, (Value.int .i64) 0, (Value.int .i64) 0, (Value.int .i64) 0] 24 * (blk X2 #[(Value.int .i64) 0, Value.bool false, Value.bool false, (Value.int .i64) 0, Value.bool false, Value.bool false, (Value.int .i64) 0, .slice none 0 0, .slice none 0 0] 56 * (framesAt f s * R))) := hw.right.eq (by ac_rfl)
      exact bodyPost_ret (results_ctt Try.results15 rfl rfl rfl (load_map hw)) rfl ⟨none, 0, 0, by rw [HF.out.2.2]; rfl, by rw [HF.out.1, HF.out.2.1]; exact Has.rowNil hw2.right.right, xw⟩
end Go.Proofs.Ytegkimecdonfgaa
namespace Go.Proofs.Ytegkimecdonfgaa
open Go.RowKit
set_option maxRecDepth 100000
/-- A visit that may be. -/
structure VOk (v : Vis) : Prop where
  l0 : 0 ≤ v.lev
  l3 : v.lev ≤ 3
  a0 : 0 ≤ v.at_
  a4 : v.at_ * pow8 v.lev.toNat < 4096
def subM : Nat → Nat | 0 => 0 | L + 1 => most L
theorem most_eq (L : Nat) : most L = 8 * (1 + subM L) := by
  cases L with
  | zero => rfl
  | succ L => show 8 + 8 * most L = 8 * (1 + most L); omega
theorem range'_cons {i : Nat} (h : i < 8) : List.range' i (8 - i) = i :: List.range' (i + 1) (8 - (i + 1)) := by
  rw [show 8 - i = (8 - (i + 1)) + 1 by omega, List.range'_succ]
theorem scan_bad {s : Ms} {L : Nat} {t a : Int} {sub : Int → Int → Vs} {i : Nat} {is : List Nat} (h : decC (wordV s t i) L ≠ 0) : scanV s L t a sub (i :: is) = ⟨decC (wordV s t i) L, []⟩ := by
  rw [scanV, if_pos h]
theorem scan_plain {s : Ms} {L : Nat} {t a : Int} {sub : Int → Int → Vs} {i : Nat} {is : List Nat} (h : decC (wordV s t i) L = 0) (hn : ¬ ((decE (wordV s t i) L).there = true ∧ (decE (wordV s t i) L).leaf = false)) :
    scanV s L t a sub (i :: is) = ⟨(scanV s L t a sub is).code, ⟨t, L, a * 8 + i, decE (wordV s t i) L⟩ :: (scanV s L t a sub is).vs⟩ := by
  rw [scanV, if_neg (by rw [h]; simp)]
  dsimp only
  rw [if_neg hn]
  simp
theorem scan_sub {s : Ms} {L : Nat} {t a : Int} {sub : Int → Int → Vs} {i : Nat} {is : List Nat} (h : decC (wordV s t i) L = 0) (hn : (decE (wordV s t i) L).there = true ∧ (decE (wordV s t i) L).leaf = false)
    (hc : (sub (decE (wordV s t i) L).frame (a * 8 + i)).code = 0) :
    scanV s L t a sub (i :: is) = ⟨(scanV s L t a sub is).code, ⟨t, L, a * 8 + i, decE (wordV s t i) L⟩ :: ((sub (decE (wordV s t i) L).frame (a * 8 + i)).vs ++ (scanV s L t a sub is).vs)⟩ := by
  rw [scanV, if_neg (by rw [h]; simp)]
  dsimp only
  rw [if_pos hn, if_neg (by rw [hc]; simp)]
theorem scan_subbad {s : Ms} {L : Nat} {t a : Int} {sub : Int → Int → Vs} {i : Nat} {is : List Nat} (h : decC (wordV s t i) L = 0) (hn : (decE (wordV s t i) L).there = true ∧ (decE (wordV s t i) L).leaf = false)
    (hc : (sub (decE (wordV s t i) L).frame (a * 8 + i)).code ≠ 0) :
    scanV s L t a sub (i :: is) = ⟨(sub (decE (wordV s t i) L).frame (a * 8 + i)).code, ⟨t, L, a * 8 + i, decE (wordV s t i) L⟩ :: (sub (decE (wordV s t i) L).frame (a * 8 + i)).vs⟩ := by
  rw [scanV, if_neg (by rw [h]; simp)]
  dsimp only
  rw [if_pos hn, if_pos hc]
theorem sub_at {L : Nat} {a : Int} {i : Nat} (hL : L ≤ 3) (h0 : 0 ≤ a) (h : a * pow8 (L + 1) < 4096) (hi : i < 8) : 0 ≤ a * 8 + i ∧ (a * 8 + i) * pow8 L < 4096 ∧ a < 4096 := by
  refine ⟨by omega, bnd hL h0 h hi, ?_⟩
  have hp := pow8_pos' (L + 1)
  have : a * 1 ≤ a * pow8 (L + 1) := Int.mul_le_mul_of_nonneg_left (by omega) h0
  omega
section
variable (f : Nat) (s : Ms) (hs : s.Ok) (g : Nat) (cap : Array Value) (eg : ∀ args w, (callFunc g args).run Try.prog w = .ok (.enter g args) w) (I : List Vis → HProp) (B : Nat)
  (hsee : ∀ (P : HProp) (vs : List Vis) (v : Vis) (W : World), VOk v → vs.length < B → Has W (I vs * P) →
    Calls Try.prog g (#[(Value.int .i64) v.t, (Value.int .i64) v.lev, (Value.int .i64) v.at_, .agg #[Value.bool v.e.there, Value.bool v.e.leaf, (Value.int .i64) v.e.rights, Value.bool v.e.used, Value.bool v.e.dirty, (Value.int .i64) v.e.frame]] ++ cap) W (Res (.tuple #[]) (I (vs ++ [v]) * P) W))
include hs eg hsee
/-- What each comes to at a level. -/
def EachAt (L : Nat) : Prop := ∀ (R : HProp) (t a : Int) (vs0 : List Vis) (w : World), 0 ≤ a → a * pow8 (L + 1) < 4096 → vs0.length + most L ≤ B → Has w (I vs0 * (framesAt f s * R)) →
    Calls Try.prog 76 #[.pointer (some ⟨f, 0, none⟩), (Value.int .i64) t, (Value.int .i64) L, (Value.int .i64) a, .func (.func g) #[] cap] w (Res ((Value.int .i64) (eachV s L t a).code) (I (vs0 ++ (eachV s L t a).vs) * (framesAt f s * R)) w)
set_option maxHeartbeats 4000000 in
theorem each_step (L : Nat) (hL : L ≤ 3) (ih : ∀ K, L = K + 1 → EachAt f s g cap I B K) : EachAt f s g cap I B L := by
    intro R t a vs0 w ha ha4 hB h
    have IH := Lib.hid ih
    clear ih
    have HSEE := Lib.hid hsee
    have hmo := most_eq L
    go_enter Try.func76, Try.ntmps76
    go_wp2_with fail
    go_loopw [18] (fun s18 wr => ∃ (i : Nat) (vs : List Vis), i ≤ 8 ∧ s18 = (Value.int .i64) i ∧ vs.length ≤ i * (1 + subM L) ∧ (0 < i → s.has t = true) ∧
        Hid (s.has t = true → eachV s L t a = ⟨(scanV s L t a (subV s L) (List.range' i (8 - i))).code, vs ++ (scanV s L t a (subV s L) (List.range' i (8 - i))).vs⟩) ∧
        Has wr (I (vs0 ++ vs) * (framesAt f s * R)) ∧ Ext w wr) (fun s18 _ => 8 - (intOf s18).toNat)
    case atStart =>
      refine ⟨0, [], by omega, rfl, by simp, fun h => by omega, Lib.hid fun ht => ?_, by simpa using h, Ext.refl _⟩
      rw [eachV_eq, if_neg (by rw [ht]; simp), List.range_eq_range']
      rfl
    case round =>
      clear h
      obtain ⟨i, vs, hi, rfl, hvl, hti, HE, hr, hx⟩ := hrel
      by_cases hlt : i < 8
      · have hLD := loadF f s t i _ wr hr.p2
        cases ht : s.has t with
        | false =>
          have hi0 : i = 0 := by
            rcases Nat.eq_zero_or_pos i with h | h
            · exact h
            · rw [hti h] at ht; cases ht
          subst hi0
          have hv0 : vs = [] := List.eq_nil_of_length_eq_zero (by omega)
          subst hv0
          have hy := Lib.hid (show eachV s L t a = ⟨12, []⟩ by rw [eachV_eq, if_pos ht])
          have hw : s.hasW t ((0 : Nat) : Int) = false := by unfold Ms.hasW; rw [ht]; rfl
          rw [hw] at hLD
          clear hw ht hti HE
          generalize loadV s t ((0 : Nat) : Int) = v at *
          go_wp2_with fail
          refine hLD.mono ?_; rintro e w2 ⟨rfl, rfl⟩
          go_wp2_with fail
          go_ret
          rw [hy.out]
          exact ⟨rfl, hr, hx⟩
        | true =>
          have hw : s.hasW t (i : Int) = true := hasW_iff.2 ⟨ht, by omega, by omega⟩
          have hlv : loadV s t (i : Int) = wordV s t i := by unfold loadV wordV; rw [if_pos hw]
          rw [hw, hlv] at hLD
          clear hw hlv
          have hb := hs.inv.wok t.toNat ((i : Int)).toNat
          have HD := Lib.hid (fun W => decode_any (wordV s t i) L W hb.1 hb.2)
          clear hb
          have hEq := HE.out ht
          rw [range'_cons hlt] at hEq
          have HEQ := Lib.hid hEq
          clear hEq HE hti
          have HT := Lib.hid ht
          clear ht
          obtain ⟨hat0, hat4, ha6⟩ := sub_at hL ha ha4 hlt
          have hm1 : IntKind.i64.wrap (a * 8) = a * 8 := by rw [IntKind.wrap_i64]; omega
          have hm2 : IntKind.i64.wrap (a * 8 + i) = a * 8 + i := by rw [IntKind.wrap_i64]; omega
          by_cases hc : decC (wordV s t i) L = 0
          case neg =>
            have hy := Lib.hid (show eachV s L t a = ⟨decC (wordV s t i) L, vs⟩ by rw [HEQ.out, scan_bad hc]; simp)
            have hv := Lib.hid (decV_no (w := wordV s t i) (l := L) rfl (.inl hc))
            rw [hv.out] at HD
            have hn : (decC (wordV s t i) L != 0) = true := by simpa using hc
            clear hv hc HEQ
            generalize decC (wordV s t i) L = code at *
            generalize wordV s t i = v at *
            go_wp2_with fail
            refine hLD.mono ?_; rintro e w2 ⟨rfl, rfl⟩
            go_wp2_with fail
            refine (HD.out _).mono ?_; rintro e w2 ⟨rfl, b2⟩
            go_wp2_with fail
            go_ret
            rw [hy.out]
            exact ⟨rfl, (hr.below b2).alloc _, (hx.below b2).alloc _⟩
          have hp1 := Lib.hid (fun hn => scan_plain (a := a) (sub := subV s L) (is := List.range' (i + 1) (8 - (i + 1))) hc hn)
          have hp2 := Lib.hid (fun hn hk => scan_sub (a := a) (sub := subV s L) (is := List.range' (i + 1) (8 - (i + 1))) hc hn hk)
          have hp3 := Lib.hid (fun hn hk => scan_subbad (a := a) (sub := subV s L) (is := List.range' (i + 1) (8 - (i + 1))) hc hn hk)
          have hv := Lib.hid (show decV (wordV s t i) L = .tuple #[.agg #[Value.bool (decE (wordV s t i) L).there, Value.bool (decE (wordV s t i) L).leaf, (Value.int .i64) (decE (wordV s t i) L).rights, Value.bool (decE (wordV s t i) L).used, Value.bool (decE (wordV s t i) L).dirty, (Value.int .i64) (decE (wordV s t i) L).frame], (Value.int .i64) 0] by unfold decV; rw [hc])
          rw [hv.out] at HD
          have hK := Lib.hid (show (decE (wordV s t i) L).there = true ∧ (decE (wordV s t i) L).leaf = false → ∃ K, L = K + 1 by
            intro hn
            cases L with
            | zero =>
              rcases dec0_leaf hc with h | h
              · have := hn.1.symm.trans h
                cases this
              · have := hn.2.symm.trans h
                cases this
            | succ K => exact ⟨K, rfl⟩)
          clear hv hc
          have hvis : VOk ⟨t, L, a * 8 + i, decE (wordV s t i) L⟩ := ⟨by show (0 : Int) ≤ (L : Int); omega, by show (L : Int) ≤ 3; omega, hat0, hat4⟩
          have HS := fun P => HSEE.out P (vs0 ++ vs) ⟨t, L, a * 8 + i, decE (wordV s t i) L⟩
          generalize decE (wordV s t i) L = e at *
          have hbnd : (vs0 ++ vs).length < B := by
            have h1 := Nat.mul_le_mul_right (1 + subM L) (show i ≤ 7 by omega)
            have h2 : 8 * (1 + subM L) = 7 * (1 + subM L) + (1 + subM L) := by omega
            rw [List.length_append]
            omega
          generalize wordV s t i = v at *
          have HSA := Lib.hid (fun P W hW => HS P W hvis hbnd hW)
          clear HS hvis hbnd
          go_wp2_with fail
          refine hLD.mono ?_; rintro e2 w2 ⟨rfl, rfl⟩
          go_wp2_with fail
          refine (HD.out _).mono ?_; rintro e2 w2 ⟨rfl, b2⟩
          have h2 := hr.below b2
          have x2 := hx.below b2
          have h3 := (h2.new #[Value.bool e.there, Value.bool e.leaf, (Value.int .i64) e.rights, Value.bool e.used, Value.bool e.dirty, (Value.int .i64) e.frame] 50)
          have x3 := x2.alloc (.cells #[Value.bool e.there, Value.bool e.leaf, (Value.int .i64) e.rights, Value.bool e.used, Value.bool e.dirty, (Value.int .i64) e.frame] 50)
          have h3 := h3.p2
          clear hLD HD hr hx h2 x2 b2
          go_wp2_with fail
          refine (HSA.out _ _ h3).mono ?_; rintro e2 w5 ⟨rfl, h5, x5⟩
          have x5 := x3.trans x5
          obtain ⟨e0, e1, e2', e3, e4, e5⟩ := h5.right.cells6
          have el := h5.right.lt
          have hlen1 : i * (1 + subM L) + (1 + subM L) = (i + 1) * (1 + subM L) := by rw [Nat.add_mul, Nat.one_mul]
          have hv1 : vs0 ++ vs ++ [⟨t, L, a * 8 + i, e⟩] = vs0 ++ (vs ++ [⟨t, L, a * 8 + i, e⟩]) := List.append_assoc _ _ _
          have HV1 := Lib.hid hv1
          clear hv1 h3 x3
          by_cases hn : e.there = true ∧ e.leaf = false
          · obtain ⟨K, hLK⟩ := hK.out hn
            have hLKH := Lib.hid hLK
            have hwr : IntKind.i64.wrap ((L : Int) - 1) = (K : Int) := by rw [IntKind.wrap_i64]; omega
            have hlv : vs.length ≤ 7 * (1 + subM L) := Nat.le_trans hvl (Nat.mul_le_mul_right _ (by omega))
            have hIH := IH.out K hLK _ e.frame (a * 8 + i) (vs0 ++ (vs ++ [⟨t, (L : Int), a * 8 + i, e⟩])) w5 hat0 (by rw [← hLKH.out]; exact hat4) (by
              have hsm : subM L = most K := by rw [hLKH.out]; rfl
              rw [List.length_append, List.length_append, List.length_singleton]
              omega) (by
              rw [← HV1.out]
              exact h5.eq (by rw [star_left_comm (blk _ _ _)]))
            have hsub : subV s L = eachV s K := by rw [hLKH.out]; rfl
            have HP2 := Lib.hid (fun hk => hp2.out hn hk)
            have HP3 := Lib.hid (fun hk => hp3.out hn hk)
            rw [← hsub] at hIH
            have hrl := Lib.hid (show (subV s L e.frame (a * 8 + i)).vs.length ≤ most K by rw [hsub]; exact eachV_len s K e.frame (a * 8 + i))
            clear hLK hsub
            obtain ⟨n1, n2⟩ := hn
            generalize subV s L e.frame (a * 8 + i) = r at *
            go_wp2_with fail
            refine hIH.mono ?_; rintro e2 w6 ⟨rfl, h6, x6⟩
            have x6 := x5.trans x6
            by_cases hk : r.code = 0
            · have hfin := Lib.hid (HP2.out hk)
              go_wp2_with fail
              go_roundw
              case rel =>
                refine ⟨i + 1, vs ++ (⟨t, (L : Int), a * 8 + i, e⟩ :: r.vs), by omega, by go_num, ?_, by intros; first | trivial | exact HT.out, Lib.hid fun _ => ?_, ?_, x6⟩
                · have := hrl.out
                  have hsm : subM L = most K := by rw [hLKH.out]; rfl
                  rw [List.length_append, List.length_cons]
                  omega
                · rw [HEQ.out, hfin.out]
                  simp
                · have h7 := h6.p2.p2
                  have e7 : vs0 ++ (vs ++ [⟨t, (L : Int), a * 8 + i, e⟩]) ++ r.vs = vs0 ++ (vs ++ (⟨t, (L : Int), a * 8 + i, e⟩ :: r.vs)) := by simp
                  rw [e7] at h6
                  exact h6.drop3
              case measure => simp [intOf]; omega
            · have hfin := Lib.hid (HP3.out hk)
              have hkn : (r.code != 0) = true := by simpa using hk
              go_wp2_with fail
              go_ret
              rw [HEQ.out, hfin.out]
              have e7 : vs0 ++ (vs ++ [⟨t, (L : Int), a * 8 + i, e⟩]) ++ r.vs = vs0 ++ (vs ++ (⟨t, (L : Int), a * 8 + i, e⟩ :: r.vs)) := by simp
              rw [e7] at h6
              exact ⟨rfl, h6.drop3, x6⟩
          · have hfin := Lib.hid (hp1.out hn)
            rw [HV1.out] at h5
            have hcase : e.there = false ∨ (e.there = true ∧ e.leaf = true) := by
              cases h1 : e.there <;> cases h2 : e.leaf <;> simp_all
            have hround : ∀ wz, Has wz (I (vs0 ++ (vs ++ [⟨t, (L : Int), a * 8 + i, e⟩])) * (blk w2.heap.size #[Value.bool e.there, Value.bool e.leaf, (Value.int .i64) e.rights, Value.bool e.used, Value.bool e.dirty, (Value.int .i64) e.frame] 50 * (framesAt f s * R))) → Has wz (I (vs0 ++ (vs ++ [⟨t, (L : Int), a * 8 + i, e⟩])) * (framesAt f s * R)) := fun _ h => h.p2.right
            have HR := Lib.hid hround
            clear hround hn
            rcases hcase with h1 | ⟨h1, h2⟩
            · go_wp2_with fail
              go_roundw
              case rel =>
                refine ⟨i + 1, vs ++ [⟨t, (L : Int), a * 8 + i, e⟩], by omega, by go_num, by rw [List.length_append, List.length_singleton]; omega, by intros; first | trivial | exact HT.out, Lib.hid fun _ => ?_, HR.out _ h5, x5⟩
                rw [HEQ.out, hfin.out]
                simp
              case measure => simp [intOf]; omega
            · go_wp2_with fail
              go_roundw
              case rel =>
                refine ⟨i + 1, vs ++ [⟨t, (L : Int), a * 8 + i, e⟩], by omega, by go_num, by rw [List.length_append, List.length_singleton]; omega, by intros; first | trivial | exact HT.out, Lib.hid fun _ => ?_, HR.out _ h5, x5⟩
                rw [HEQ.out, hfin.out]
                simp
              case measure => simp [intOf]; omega
      · obtain rfl : i = 8 := by omega
        have hy := Lib.hid (HE.out (hti (by omega)))
        go_wp2_with fail
        go_ret
        rw [hy.out]
        exact ⟨rfl, by simpa [scanV] using hr, hx⟩
theorem each_any : ∀ (L : Nat), L ≤ 3 → EachAt f s g cap I B L
  | 0, h => each_step f s hs g cap eg I B hsee 0 h fun _ e => by cases e
  | L + 1, h => each_step f s hs g cap eg I B hsee (L + 1) h fun K e => by
    obtain rfl : L = K := by omega
    exact each_any L (by omega)
end
end Go.Proofs.Ytegkimecdonfgaa
