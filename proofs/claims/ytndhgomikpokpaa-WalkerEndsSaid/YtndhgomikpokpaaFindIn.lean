/- Contract of the document's FindIn. -/
import Derived.Test.YtndhgomikpokpaaWayTo
import Derived.Test.YtndhgomikpokpaaPathM
import Derived.Test.YtndhgomikpokpaaRefEnt5
import Derived.Test.YtndhgomikpokpaaIrow
import Derived.Deep.RegionHeld3
import Derived.Deep.DeepCutAuto
namespace Go.Proofs.Ytndhgomikpokpaa
open Go.RowKit
set_option maxRecDepth 100000

section
variable {P : Program} {fn : Func} {tmps : Array Value} {w : World}
/-- Three results: the first two in cells. -/
theorem results_cct {a b c : Nat} {t t' : TypeId} {p p' : Addr} {v u x : Value} (hr : fn.results = #[.cell a t, .cell b t', .tmp c]) (ha : tmps.getD a undef = .pointer (some p)) (hb : tmps.getD b undef = .pointer (some p')) (hc : tmps.getD c undef = x) (hl : (loadVar t p).run P w = .ok v w) (hl' : (loadVar t' p').run P w = .ok u w) :
    (results fn tmps).run P w = .ok (.tuple #[v, u, x]) w := by
  unfold results
  rw [hr]
  simp only [Array.getD_eq_getD_getElem?] at ha hb hc
  simp [asAddr, ha, hb, hc, hl, hl']
end
def enV (e : En) : Value := .agg #[Value.bool e.there, Value.bool e.leaf, (Value.int .i64) e.rights, Value.bool e.used, Value.bool e.dirty, (Value.int .i64) e.frame]
set_option maxHeartbeats 4000000 in
theorem findIn_any (q : Nat) (s : Ms) (root p : Int) (R : HProp) (w : World) (hs : s.Ok) (h : Has w (memAt q s * R)) :
    Calls Try.prog 28 #[.pointer (some ⟨q, 0, none⟩), (Value.int .i64) root, (Value.int .i64) p] w (Pure (.tuple #[(findM s root p).val, enV (findE s root p), (Value.int .i64) (findC s root p)]) w) := by
  have h0 := ((has_old w).new #[(Value.int .i64) 0, (Value.int .i64) 0, (Value.int .i64) 0, (Value.int .i64) 0] 27).new #[Value.bool false, Value.bool false, (Value.int .i64) 0, Value.bool false, Value.bool false, (Value.int .i64) 0] 58
  have x0 := ((Ext.refl w).alloc (.cells #[(Value.int .i64) 0, (Value.int .i64) 0, (Value.int .i64) 0, (Value.int .i64) 0] 27)).alloc (.cells #[Value.bool false, Value.bool false, (Value.int .i64) 0, Value.bool false, Value.bool false, (Value.int .i64) 0] 58)
  simp only [World.size_alloc] at h0
  have hq := (h.alloc (.cells #[(Value.int .i64) 0, (Value.int .i64) 0, (Value.int .i64) 0, (Value.int .i64) 0] 27)).alloc (.cells #[Value.bool false, Value.bool false, (Value.int .i64) 0, Value.bool false, Value.bool false, (Value.int .i64) 0] 58)
  have W1 := Lib.hid (wayTo_any q s root p R _ hs hq)
  have hfc : findC s root p = if (way s root p).code ≠ 0 then (way s root p).code else if (way s root p).e.there = false then 5 else 0 := rfl
  have hfm : findM s root p = if findC s root p = 0 then leafMap (way s root p).e (way s root p).lev p else Mp.zero := rfl
  have hfe : findE s root p = if findC s root p = 0 then (way s root p).e else En.zero := rfl
  generalize findC s root p = fc at *
  generalize findM s root p = fm at *
  generalize findE s root p = fe at *
  generalize way s root p = y at *
  have HFC := Lib.hid (And.intro hfc (And.intro hfm hfe))
  clear h hq hfc hfm hfe
  go_enter Try.func28, Try.ntmps28
  go_wp2_with fail
  refine W1.out.mono ?_; rintro e w1 hF
  generalize ((w.alloc (.cells #[(Value.int .i64) 0, (Value.int .i64) 0, (Value.int .i64) 0, (Value.int .i64) 0] 27)).alloc (.cells #[Value.bool false, Value.bool false, (Value.int .i64) 0, Value.bool false, Value.bool false, (Value.int .i64) 0] 58)) = w0 at *
  obtain ⟨A, c, rfl, h1, x1⟩ : ∃ (A : Option Addr) (c : Nat), e = .returned (.tuple #[.agg #[.slice A y.tabs.length c, Value.bool y.e.there, Value.bool y.e.leaf, (Value.int .i64) y.e.rights, Value.bool y.e.used, Value.bool y.e.dirty, (Value.int .i64) y.e.frame, (Value.int .i64) y.lev], (Value.int .i64) y.code]) ∧ Has w1 (irow (.slice A y.tabs.length c) y.tabs * old w0 w0.heap.size) ∧ Ext w0 w1 := hF
  have h2 := (h0.onto' h1).right.new #[.slice A y.tabs.length c, Value.bool y.e.there, Value.bool y.e.leaf, (Value.int .i64) y.e.rights, Value.bool y.e.used, Value.bool y.e.dirty, (Value.int .i64) y.e.frame, (Value.int .i64) y.lev] 60
  have x2 := (x0.trans x1).alloc (.cells #[.slice A y.tabs.length c, Value.bool y.e.there, Value.bool y.e.leaf, (Value.int .i64) y.e.rights, Value.bool y.e.used, Value.bool y.e.dirty, (Value.int .i64) y.e.frame, (Value.int .i64) y.lev] 60)
  clear h0 x0 h1 x1 W1
  obtain ⟨hfc, hfm, hfe⟩ := HFC.out
  clear HFC
  by_cases hc : y.code = 0
  case neg =>
    rw [if_pos hc] at hfc
    rw [if_neg (by rw [hfc]; exact hc)] at hfm hfe
    have HF := Lib.hid (show fc = y.code ∧ fm = Mp.zero ∧ fe = En.zero from ⟨hfc, hfm, hfe⟩)
    have hn : (y.code == 0) = false := by simpa using hc
    have hn' : (y.code != 0) = true := by simpa using hc
    clear hc hfc hfm hfe
    go_upto_region 2 with fail
    generalize w1.alloc (.cells #[.slice A y.tabs.length c, Value.bool y.e.there, Value.bool y.e.leaf, (Value.int .i64) y.e.rights, Value.bool y.e.used, Value.bool y.e.dirty, (Value.int .i64) y.e.frame, (Value.int .i64) y.lev] 60) = w3 at *
    generalize w1.heap.size = X2 at *
    obtain ⟨d0, d1, d2, d3, d4, d5⟩ := h2.right.cells6
    obtain ⟨f0, f1, f2, f3, f4, f5⟩ := h2.right.frees6
    have dl := h2.right.lt
    obtain ⟨c0, c1, c2, c3⟩ := h2.right.right.cells4
    obtain ⟨g0, g1, g2, g3⟩ := h2.right.right.frees4
    have cl := h2.right.right.lt
    have h4 := h2.right.p2
    have n1 := h4.ne
    have n2 := n1.symm
    go_wp2_with fail
    refine ret_via (fun wz => Has wz (blk (w.heap.size + 1) #[Value.bool false, Value.bool false, (Value.int .i64) 0, Value.bool false, Value.bool false, (Value.int .i64) 0] 58 * (blk w.heap.size #[(Value.int .i64) 0, (Value.int .i64) 0, (Value.int .i64) 0, (Value.int .i64) 0] 27 * old w w.heap.size)) ∧ Ext w wz) ⟨((h4.set4 _ _ _ _).p2).set6 _ _ _ _ _ _, by (repeat (first | with_reducible assumption | with_reducible exact Ext.refl _ | with_reducible refine Ext.set ?_ _ _ | with_reducible refine Ext.alloc ?_ _ | with_reducible refine Ext.drew ?_ | with_reducible refine Ext.drewN ?_ _ | assumption | exact Ext.refl _ | refine Ext.alloc ?_ _ | refine Ext.set ?_ _ _ | refine Ext.drew ?_ | refine Ext.drewN ?_ _ | refine Ext.below ?_ (by assumption) | refine Ext.trans ?_ (by assumption)))⟩ ?_
    rintro wz ⟨hz, xz⟩
    exact bodyPost_ret (results_cct Try.results28 rfl rfl rfl (load_map hz.right) (load_entry hz)) rfl ⟨by rw [HF.out.1, HF.out.2.1, HF.out.2.2]; rfl, below_of1 hz.right.right xz⟩
  case pos =>
    rw [if_neg (by rw [hc]; simp)] at hfc
    obtain ⟨code, tabs, lev, th, lf, rg, us, di, fr⟩ := y
    dsimp only at *
    subst hc
    cases th with
    | false =>
      rw [if_pos rfl] at hfc
      rw [if_neg (by rw [hfc]; decide)] at hfm hfe
      have HF := Lib.hid (show fc = 5 ∧ fm = Mp.zero ∧ fe = En.zero from ⟨hfc, hfm, hfe⟩)
      clear hfc hfm hfe
      go_upto_region 2 with fail
      generalize w1.alloc (.cells #[.slice A tabs.length c, Value.bool false, Value.bool lf, (Value.int .i64) rg, Value.bool us, Value.bool di, (Value.int .i64) fr, (Value.int .i64) lev] 60) = w3 at *
      generalize w1.heap.size = X2 at *
      obtain ⟨k0, k1, _⟩ := h2.cells8
      have kl := h2.lt
      obtain ⟨d0, d1, d2, d3, d4, d5⟩ := h2.right.cells6
      obtain ⟨f0, f1, f2, f3, f4, f5⟩ := h2.right.frees6
      have dl := h2.right.lt
      obtain ⟨c0, c1, c2, c3⟩ := h2.right.right.cells4
      obtain ⟨g0, g1, g2, g3⟩ := h2.right.right.frees4
      have cl := h2.right.right.lt
      have h4 := h2.right.p2
      have n1 := h4.ne
      have n2 := n1.symm
      go_wp2_with fail
      refine ret_via (fun wz => Has wz (blk (w.heap.size + 1) #[Value.bool false, Value.bool false, (Value.int .i64) 0, Value.bool false, Value.bool false, (Value.int .i64) 0] 58 * (blk w.heap.size #[(Value.int .i64) 0, (Value.int .i64) 0, (Value.int .i64) 0, (Value.int .i64) 0] 27 * old w w.heap.size)) ∧ Ext w wz) ⟨((h4.set4 _ _ _ _).p2).set6 _ _ _ _ _ _, by (repeat (first | with_reducible assumption | with_reducible exact Ext.refl _ | with_reducible refine Ext.set ?_ _ _ | with_reducible refine Ext.alloc ?_ _ | with_reducible refine Ext.drew ?_ | with_reducible refine Ext.drewN ?_ _ | assumption | exact Ext.refl _ | refine Ext.alloc ?_ _ | refine Ext.set ?_ _ _ | refine Ext.drew ?_ | refine Ext.drewN ?_ _ | refine Ext.below ?_ (by assumption) | refine Ext.trans ?_ (by assumption)))⟩ ?_
      rintro wz ⟨hz, xz⟩
      exact bodyPost_ret (results_cct Try.results28 rfl rfl rfl (load_map hz.right) (load_entry hz)) rfl ⟨by rw [HF.out.1, HF.out.2.1, HF.out.2.2]; rfl, below_of1 hz.right.right xz⟩
    | true =>
      rw [if_neg (by simp)] at hfc
      rw [if_pos hfc] at hfm hfe
      have HF := Lib.hid (show fc = 0 ∧ fm = leafMap ⟨true, lf, rg, us, di, fr⟩ lev p ∧ fe = ⟨true, lf, rg, us, di, fr⟩ from ⟨hfc, hfm, hfe⟩)
      have HL : Hid (∀ X, Calls Try.prog 108 #[.agg #[Value.bool true, Value.bool lf, (Value.int .i64) rg, Value.bool us, Value.bool di, (Value.int .i64) fr], .int .i64 lev, .int .i64 p] X (Pure (leafMap ⟨true, lf, rg, us, di, fr⟩ lev p).val X)) := Lib.hid (fun X => refLeafMap_any ⟨true, lf, rg, us, di, fr⟩ lev p X)
      clear hfc hfm hfe
      generalize leafMap ⟨true, lf, rg, us, di, fr⟩ lev p = lm at *
      go_upto_region 6 with fail
      generalize w1.alloc (.cells #[.slice A tabs.length c, Value.bool true, Value.bool lf, (Value.int .i64) rg, Value.bool us, Value.bool di, (Value.int .i64) fr, (Value.int .i64) lev] 60) = w3 at *
      generalize w1.heap.size = X2 at *
      have h3 : Has w3 (blk (w.heap.size + 1) #[Value.bool false, Value.bool false, (Value.int .i64) 0, Value.bool false, Value.bool false, (Value.int .i64) 0] 58 * (blk X2 #[.slice A tabs.length c, Value.bool true, Value.bool lf, (Value.int .i64) rg, Value.bool us, Value.bool di, (Value.int .i64) fr, (Value.int .i64) lev] 60 * (blk w.heap.size #[(Value.int .i64) 0, (Value.int .i64) 0, (Value.int .i64) 0, (Value.int .i64) 0] 27 * old w w.heap.size))) := h2.p2
      have h4 := h3.set6 (Value.bool true) (Value.bool lf) ((Value.int .i64) rg) (Value.bool us) (Value.bool di) ((Value.int .i64) fr)
      clear h2
      have HK := Lib.hid (fun (w' : World) (P : HProp) (h : Has w' (blk X2 #[.slice A tabs.length c, Value.bool true, Value.bool lf, (Value.int .i64) rg, Value.bool us, Value.bool di, (Value.int .i64) fr, (Value.int .i64) lev] 60 * P)) => h.cells8)
      obtain ⟨k0, k1, k2, k3, k4, k5, k6, k7⟩ := h3.right.cells8
      have kl := h3.right.lt
      obtain ⟨d0, d1, d2, d3, d4, d5⟩ := h3.cells6
      obtain ⟨f0, f1, f2, f3, f4, f5⟩ := h3.frees6
      have dl := h3.lt
      have n1 := h3.ne
      have n2 := n1.symm
      go_cut [8] (fun s8 wx => s8 = (Value.int .i64) 0 ∧ Has wx (blk (w.heap.size + 1) #[Value.bool true, Value.bool lf, (Value.int .i64) rg, Value.bool us, Value.bool di, (Value.int .i64) fr] 58 * (blk w.heap.size #[(Value.int .i64) lm.page, (Value.int .i64) lm.size, (Value.int .i64) lm.frame, (Value.int .i64) lm.rights] 27 * old w w.heap.size)) ∧ Ext w wx)
      case first =>
        go_region_held3 (fun w' => w'.cell? ⟨X2, 0, none⟩ = some (.slice A tabs.length c) ∧ w'.cell? ⟨X2, 1, none⟩ = some (Value.bool true) ∧ w'.cell? ⟨X2, 2, none⟩ = some (Value.bool lf) ∧ w'.cell? ⟨X2, 3, none⟩ = some ((Value.int .i64) rg) ∧ w'.cell? ⟨X2, 4, none⟩ = some (Value.bool us) ∧ w'.cell? ⟨X2, 5, none⟩ = some (Value.bool di) ∧ w'.cell? ⟨X2, 6, none⟩ = some ((Value.int .i64) fr) ∧ w'.cell? ⟨X2, 7, none⟩ = some ((Value.int .i64) lev)) (first | (with_reducible exact HK.out _ _ h5.right) | (with_reducible exact HK.out _ _ g5.right) | (with_reducible exact HK.out _ _ h4.drew.right) | (with_reducible exact HK.out _ _ h3.drew.right) | go_keep) (first | (go_at_call 108; ((with_reducible refine (HL.out _).mono ?_); rintro e2 w5 ⟨rfl, b5⟩; first | (have h5 := h3.drew.below b5; have x5 := x2.drew.below b5; obtain ⟨y0, y1, y2, y3, y4, y5⟩ := h5.cells6; obtain ⟨z0, z1, z2, z3, z4, z5⟩ := h5.frees6; have yl := h5.lt; obtain ⟨c0, c1, c2, c3⟩ := h5.right.right.cells4; obtain ⟨g0, g1, g2, g3⟩ := h5.right.right.frees4; have cl := h5.right.right.lt; have nn := h5.p2.right.ne; have nn' := nn.symm; have mm := h5.right.ne; have mm' := mm.symm) | (have g5 := h4.drew.below b5; have y5 := (((((((x2.set _ _).set _ _).set _ _).set _ _).set _ _).set _ _).drew).below b5; obtain ⟨c0, c1, c2, c3⟩ := g5.right.right.cells4; obtain ⟨g0, g1, g2, g3⟩ := g5.right.right.frees4; have cl := g5.right.right.lt; have mm := g5.right.ne; have mm' := mm.symm))))
        all_goals
          go_wp2_with fail
          go_meet
          case rel =>
            have h6 : Has w5 (blk w.heap.size #[(Value.int .i64) 0, (Value.int .i64) 0, (Value.int .i64) 0, (Value.int .i64) 0] 27 * (blk (w.heap.size + 1) #[Value.bool false, Value.bool false, (Value.int .i64) 0, Value.bool false, Value.bool false, (Value.int .i64) 0] 58 * (blk X2 #[.slice A tabs.length c, Value.bool true, Value.bool lf, (Value.int .i64) rg, Value.bool us, Value.bool di, (Value.int .i64) fr, (Value.int .i64) lev] 60 * old w w.heap.size))) := h5.eq (by ac_rfl)
            have h7 := h6.set4 ((Value.int .i64) lm.page) ((Value.int .i64) lm.size) ((Value.int .i64) lm.frame) ((Value.int .i64) lm.rights)
            have h8 := h7.p2.set6 (Value.bool true) (Value.bool lf) ((Value.int .i64) rg) (Value.bool us) (Value.bool di) ((Value.int .i64) fr)
            exact ⟨rfl, h8.drop3, by (repeat (first | with_reducible assumption | with_reducible exact Ext.refl _ | with_reducible refine Ext.set ?_ _ _ | with_reducible refine Ext.alloc ?_ _ | with_reducible refine Ext.drew ?_ | with_reducible refine Ext.drewN ?_ _ | assumption | exact Ext.refl _ | refine Ext.alloc ?_ _ | refine Ext.set ?_ _ _ | refine Ext.drew ?_ | refine Ext.drewN ?_ _ | refine Ext.below ?_ (by assumption) | refine Ext.trans ?_ (by assumption)))⟩
      case rest =>
        obtain ⟨rfl, h9, x9⟩ := hcut
        go_wp2_with fail
        refine ret_via (fun wz => Has wz (blk (w.heap.size + 1) #[Value.bool true, Value.bool lf, (Value.int .i64) rg, Value.bool us, Value.bool di, (Value.int .i64) fr] 58 * (blk w.heap.size #[(Value.int .i64) lm.page, (Value.int .i64) lm.size, (Value.int .i64) lm.frame, (Value.int .i64) lm.rights] 27 * old w w.heap.size)) ∧ Ext w wz) ⟨h9, x9⟩ ?_
        rintro wz ⟨hz, xz⟩
        exact bodyPost_ret (results_cct Try.results28 rfl rfl rfl (load_map hz.right) (load_entry hz)) rfl ⟨by rw [HF.out.1, HF.out.2.1, HF.out.2.2]; rfl, below_of1 hz.right.right xz⟩
end Go.Proofs.Ytndhgomikpokpaa
