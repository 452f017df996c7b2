/- Contract of table.Find. -/
import Derived.Test.YtmfheghbgihdmaaTabI
import Derived.Test.YtmfheghbgihdmaaInsM2
import Derived.Test.YtmfheghbgihdmaaWkFind
import Derived.Shelf.Abstract
import Derived.Test.YtmfheghbgihdmaaFrames2
import Derived.Test.YtmfheghbgihdmaaSep
import Derived.Test.YtmfheghbgihdmaaTblM3
import Derived.Lib.Hide
import Derived.Lib.SliceRun
import Derived.Laws.OwnMore
import Derived.Outline
import Derived.BigQuiet
import Derived.Deep.LoopGhost
import Derived.Test.YtmfheghbgihdmaaEntMap
namespace Go.Proofs.Ytmfheghbgihdmaa
open Go.RowKit
set_option maxRecDepth 100000
set_option maxHeartbeats 1000000 in
theorem findTb (f : Nat) (s : Ms) (root p : Int) (R : HProp) (w : World) (hs : s.Ok) (h : Has w (framesAt f s * R)) :
    Calls Try.prog 32 #[.pointer (some ⟨f, 0, none⟩), (Value.int .i64) root, (Value.int .i64) p] w (Pure (.tuple #[(findM s root p).val, enV (findE s root p), (Value.int .i64) (findC s root p)]) w) := by
  have h0 := ((has_old w).new #[(Value.int .i64) 0, (Value.int .i64) 0, (Value.int .i64) 0, (Value.int .i64) 0] 31).new #[Value.bool false, Value.bool false, (Value.int .i64) 0, Value.bool false, Value.bool false, (Value.int .i64) 0] 51
  have x0 := ((Ext.refl w).alloc (.cells #[(Value.int .i64) 0, (Value.int .i64) 0, (Value.int .i64) 0, (Value.int .i64) 0] 31)).alloc (.cells #[Value.bool false, Value.bool false, (Value.int .i64) 0, Value.bool false, Value.bool false, (Value.int .i64) 0] 51)
  simp only [World.size_alloc] at h0
  have hq := (h.alloc (.cells #[(Value.int .i64) 0, (Value.int .i64) 0, (Value.int .i64) 0, (Value.int .i64) 0] 31)).alloc (.cells #[Value.bool false, Value.bool false, (Value.int .i64) 0, Value.bool false, Value.bool false, (Value.int .i64) 0] 51)
  have W1 := Lib.hid (leafT f s root p R _ hs hq)
  have hfe : findE s root p = if findC s root p = 0 then (way s root p).e else En.zero := rfl
  have hfm : findC s root p ≠ 0 → findM s root p = Mp.zero := fun hn => by unfold findM; rw [if_neg hn]
  unfold Leafed at W1
  generalize findC s root p = fc at *
  generalize findM s root p = fm at *
  generalize findE s root p = fe at *
  generalize way s root p = y at *
  have HFE := Lib.hid hfe
  have HFM := Lib.hid hfm
  clear h hq hfe hfm
  go_enter Try.func32, Try.ntmps32
  go_wp2_with fail
  refine W1.out.mono ?_; rintro e w1 hF
  generalize (w.alloc (.cells #[(Value.int .i64) 0, (Value.int .i64) 0, (Value.int .i64) 0, (Value.int .i64) 0] 31)).alloc (.cells #[Value.bool false, Value.bool false, (Value.int .i64) 0, Value.bool false, Value.bool false, (Value.int .i64) 0] 51) = w0 at *
  rcases hF with ⟨hfc, A, B, c, d, rfl, h1, x1⟩ | ⟨hfc, rfl, b1⟩
  · have h2 := (h0.onto' (h1.a2)).a1
    have h3 : Has w1 (blk (w.heap.size + 1) #[Value.bool false, Value.bool false, (Value.int .i64) 0, Value.bool false, Value.bool false, (Value.int .i64) 0] 51 * (blk w.heap.size #[(Value.int .i64) 0, (Value.int .i64) 0, (Value.int .i64) 0, (Value.int .i64) 0] 31 * old w w.heap.size)) := h2.right.right
    have x3 := x0.trans x1
    have hfe := HFE.out
    rw [if_pos hfc] at hfe
    subst hfc
    clear h0 x0 h1 x1 W1 h2 HFE HFM
    have h4 := (h3.new #[(Value.int .i64) y.lev, Value.bool y.e.there, Value.bool y.e.leaf, (Value.int .i64) y.e.rights, Value.bool y.e.used, Value.bool y.e.dirty, (Value.int .i64) y.e.frame, .slice A y.tabs.length c, .slice B y.tabs.length d] 122).new #[(Value.int .i64) fm.page, (Value.int .i64) fm.size, (Value.int .i64) fm.frame, (Value.int .i64) fm.rights] 31
    simp only [World.size_alloc] at h4
    have x4 := (x3.alloc (.cells #[(Value.int .i64) y.lev, Value.bool y.e.there, Value.bool y.e.leaf, (Value.int .i64) y.e.rights, Value.bool y.e.used, Value.bool y.e.dirty, (Value.int .i64) y.e.frame, .slice A y.tabs.length c, .slice B y.tabs.length d] 122)).alloc (.cells #[(Value.int .i64) fm.page, (Value.int .i64) fm.size, (Value.int .i64) fm.frame, (Value.int .i64) fm.rights] 31)
    have HFE := Lib.hid hfe
    clear h3 x3 hfe
    unfold spotA
    go_upto_region 2 with fail
    generalize (w1.alloc (.cells #[(Value.int .i64) y.lev, Value.bool y.e.there, Value.bool y.e.leaf, (Value.int .i64) y.e.rights, Value.bool y.e.used, Value.bool y.e.dirty, (Value.int .i64) y.e.frame, .slice A y.tabs.length c, .slice B y.tabs.length d] 122)).alloc (.cells #[(Value.int .i64) fm.page, (Value.int .i64) fm.size, (Value.int .i64) fm.frame, (Value.int .i64) fm.rights] 31) = w3 at *
    generalize w1.heap.size = X2 at *
    obtain ⟨m0, m1, m2, m3⟩ := h4.cells4
    have ml := h4.lt
    obtain ⟨k0, k1, k2, k3, k4, k5, k6, k7, k8⟩ := h4.right.cells9
    have kl := h4.right.lt
    obtain ⟨d0, d1, d2, d3, d4, d5⟩ := h4.right.right.cells6
    obtain ⟨f0, f1, f2, f3, f4, f5⟩ := h4.right.right.frees6
    have dl := h4.right.right.lt
    obtain ⟨c0, c1, c2, c3⟩ := h4.right.right.right.cells4
    obtain ⟨g0, g1, g2, g3⟩ := h4.right.right.right.frees4
    have cl := h4.right.right.right.lt
    have h6 : Has w3 (blk w.heap.size #[(Value.int .i64) 0, (Value.int .i64) 0, (Value.int .i64) 0, (Value.int .i64) 0] 31 * (blk (w.heap.size + 1) #[Value.bool false, Value.bool false, (Value.int .i64) 0, Value.bool false, Value.bool false, (Value.int .i64) 0] 51 * (blk (X2 + 1) #[(Value.int .i64) fm.page, (Value.int .i64) fm.size, (Value.int .i64) fm.frame, (Value.int .i64) fm.rights] 31 * (blk X2 #[(Value.int .i64) y.lev, Value.bool y.e.there, Value.bool y.e.leaf, (Value.int .i64) y.e.rights, Value.bool y.e.used, Value.bool y.e.dirty, (Value.int .i64) y.e.frame, .slice A y.tabs.length c, .slice B y.tabs.length d] 122 * old w w.heap.size)))) := h4.eq (by ac_rfl)
    have a1 := h6.ne
    have a2 := h6.p2.right.ne
    have a3 := (h6.eq (show _ = blk w.heap.size #[(Value.int .i64) 0, (Value.int .i64) 0, (Value.int .i64) 0, (Value.int .i64) 0] 31 * (blk X2 #[(Value.int .i64) y.lev, Value.bool y.e.there, Value.bool y.e.leaf, (Value.int .i64) y.e.rights, Value.bool y.e.used, Value.bool y.e.dirty, (Value.int .i64) y.e.frame, .slice A y.tabs.length c, .slice B y.tabs.length d] 122 * (blk (w.heap.size + 1) #[Value.bool false, Value.bool false, (Value.int .i64) 0, Value.bool false, Value.bool false, (Value.int .i64) 0] 51 * (blk (X2 + 1) #[(Value.int .i64) fm.page, (Value.int .i64) fm.size, (Value.int .i64) fm.frame, (Value.int .i64) fm.rights] 31 * old w w.heap.size))) by ac_rfl)).ne
    have a4 := h6.right.ne
    have a5 := h6.right.p2.right.ne
    have b1' := a1.symm
    have b2' := a2.symm
    have b3' := a3.symm
    have b4' := a4.symm
    have b5' := a5.symm
    have h7 := (h6.set4 ((Value.int .i64) fm.page) ((Value.int .i64) fm.size) ((Value.int .i64) fm.frame) ((Value.int .i64) fm.rights)).p2.set6 (Value.bool y.e.there) (Value.bool y.e.leaf) ((Value.int .i64) y.e.rights) (Value.bool y.e.used) (Value.bool y.e.dirty) ((Value.int .i64) y.e.frame)
    have h8 := (h6.p2.set6 (Value.bool y.e.there) (Value.bool y.e.leaf) ((Value.int .i64) y.e.rights) (Value.bool y.e.used) (Value.bool y.e.dirty) ((Value.int .i64) y.e.frame)).p2.set4 ((Value.int .i64) fm.page) ((Value.int .i64) fm.size) ((Value.int .i64) fm.frame) ((Value.int .i64) fm.rights)
    have h7d := (h6.drew.set4 ((Value.int .i64) fm.page) ((Value.int .i64) fm.size) ((Value.int .i64) fm.frame) ((Value.int .i64) fm.rights)).p2.set6 (Value.bool y.e.there) (Value.bool y.e.leaf) ((Value.int .i64) y.e.rights) (Value.bool y.e.used) (Value.bool y.e.dirty) ((Value.int .i64) y.e.frame)
    have h8d := (h6.drew.p2.set6 (Value.bool y.e.there) (Value.bool y.e.leaf) ((Value.int .i64) y.e.rights) (Value.bool y.e.used) (Value.bool y.e.dirty) ((Value.int .i64) y.e.frame)).p2.set4 ((Value.int .i64) fm.page) ((Value.int .i64) fm.size) ((Value.int .i64) fm.frame) ((Value.int .i64) fm.rights)
    go_upto_region 4 with fail
    go_region
    all_goals
      go_wp2_with fail
      refine ret_via (fun wz => Has wz (blk (w.heap.size + 1) #[Value.bool y.e.there, Value.bool y.e.leaf, (Value.int .i64) y.e.rights, Value.bool y.e.used, Value.bool y.e.dirty, (Value.int .i64) y.e.frame] 51 * (blk w.heap.size #[(Value.int .i64) fm.page, (Value.int .i64) fm.size, (Value.int .i64) fm.frame, (Value.int .i64) fm.rights] 31 * old w w.heap.size)) ∧ Ext w wz) ⟨by first | with_reducible exact h7.drop3.drop3 | with_reducible exact h7.drew.drop3.drop3 | with_reducible exact h8.p2.drop3.drop3 | with_reducible exact h8.drew.p2.drop3.drop3 | with_reducible exact h7d.drop3.drop3 | with_reducible exact h8d.p2.drop3.drop3, by (repeat (first | with_reducible assumption | with_reducible exact Ext.refl _ | with_reducible refine Ext.set ?_ _ _ | with_reducible refine Ext.alloc ?_ _ | with_reducible refine Ext.drew ?_ | with_reducible refine Ext.drewN ?_ _ | assumption | exact Ext.refl _ | refine Ext.alloc ?_ _ | refine Ext.set ?_ _ _ | refine Ext.drew ?_ | refine Ext.drewN ?_ _ | refine Ext.below ?_ (by assumption) | refine Ext.trans ?_ (by assumption)))⟩ ?_
      rintro wz ⟨hz, xz⟩
      exact bodyPost_ret (results_cct Try.results32 rfl rfl rfl (load_map hz.right) (load_entry hz)) rfl ⟨by rw [HFE.out]; rfl, below_of1 hz.right.right xz⟩
  · have h3 : Has w1 (blk (w.heap.size + 1) #[Value.bool false, Value.bool false, (Value.int .i64) 0, Value.bool false, Value.bool false, (Value.int .i64) 0] 51 * (blk w.heap.size #[(Value.int .i64) 0, (Value.int .i64) 0, (Value.int .i64) 0, (Value.int .i64) 0] 31 * old w w.heap.size)) := h0.below b1
    have x3 := x0.below b1
    have hfe := HFE.out
    rw [if_neg hfc] at hfe
    have hfm := HFM.out hfc
    have hn : (fc != 0) = true := by simpa using hfc
    clear h0 x0 b1 W1 HFE HFM hfc
    have h4 := (h3.new #[(Value.int .i64) 0, Value.bool false, Value.bool false, (Value.int .i64) 0, Value.bool false, Value.bool false, (Value.int .i64) 0, .slice none 0 0, .slice none 0 0] 122).new #[(Value.int .i64) 0, (Value.int .i64) 0, (Value.int .i64) 0, (Value.int .i64) 0] 31
    simp only [World.size_alloc] at h4
    have x4 := (x3.alloc (.cells #[(Value.int .i64) 0, Value.bool false, Value.bool false, (Value.int .i64) 0, Value.bool false, Value.bool false, (Value.int .i64) 0, .slice none 0 0, .slice none 0 0] 122)).alloc (.cells #[(Value.int .i64) 0, (Value.int .i64) 0, (Value.int .i64) 0, (Value.int .i64) 0] 31)
    have HFE := Lib.hid (And.intro hfe hfm)
    clear h3 x3 hfe hfm
    unfold zspot
    go_upto_region 2 with fail
    generalize (w1.alloc (.cells #[(Value.int .i64) 0, Value.bool false, Value.bool false, (Value.int .i64) 0, Value.bool false, Value.bool false, (Value.int .i64) 0, .slice none 0 0, .slice none 0 0] 122)).alloc (.cells #[(Value.int .i64) 0, (Value.int .i64) 0, (Value.int .i64) 0, (Value.int .i64) 0] 31) = w3 at *
    generalize w1.heap.size = X2 at *
    obtain ⟨m0, m1, m2, m3⟩ := h4.cells4
    have ml := h4.lt
    obtain ⟨k0, k1, k2, k3, k4, k5, k6, k7, k8⟩ := h4.right.cells9
    have kl := h4.right.lt
    obtain ⟨d0, d1, d2, d3, d4, d5⟩ := h4.right.right.cells6
    obtain ⟨f0, f1, f2, f3, f4, f5⟩ := h4.right.right.frees6
    have dl := h4.right.right.lt
    obtain ⟨c0, c1, c2, c3⟩ := h4.right.right.right.cells4
    obtain ⟨g0, g1, g2, g3⟩ := h4.right.right.right.frees4
    have cl := h4.right.right.right.lt
    have h6 : Has w3 (blk w.heap.size #[(Value.int .i64) 0, (Value.int .i64) 0, (Value.int .i64) 0, (Value.int .i64) 0] 31 * (blk (w.heap.size + 1) #[Value.bool false, Value.bool false, (Value.int .i64) 0, Value.bool false, Value.bool false, (Value.int .i64) 0] 51 * (blk (X2 + 1) #[(Value.int .i64) 0, (Value.int .i64) 0, (Value.int .i64) 0, (Value.int .i64) 0] 31 * (blk X2 #[(Value.int .i64) 0, Value.bool false, Value.bool false, (Value.int .i64) 0, Value.bool false, Value.bool false, (Value.int .i64) 0, .slice none 0 0, .slice none 0 0] 122 * old w w.heap.size)))) := h4.eq (by ac_rfl)
    have a1 := h6.ne
    have a2 := h6.p2.right.ne
    have a3 := (h6.eq (show _ = blk w.heap.size #[(Value.int .i64) 0, (Value.int .i64) 0, (Value.int .i64) 0, (Value.int .i64) 0] 31 * (blk X2 #[(Value.int .i64) 0, Value.bool false, Value.bool false, (Value.int .i64) 0, Value.bool false, Value.bool false, (Value.int .i64) 0, .slice none 0 0, .slice none 0 0] 122 * (blk (w.heap.size + 1) #[Value.bool false, Value.bool false, (Value.int .i64) 0, Value.bool false, Value.bool false, (Value.int .i64) 0] 51 * (blk (X2 + 1) #[(Value.int .i64) 0, (Value.int .i64) 0, (Value.int .i64) 0, (Value.int .i64) 0] 31 * old w w.heap.size))) by ac_rfl)).ne
    have a4 := h6.right.ne
    have a5 := h6.right.p2.right.ne
    have b1' := a1.symm
    have b2' := a2.symm
    have b3' := a3.symm
    have b4' := a4.symm
    have b5' := a5.symm
    have h7 := (h6.set4 ((Value.int .i64) 0) ((Value.int .i64) 0) ((Value.int .i64) 0) ((Value.int .i64) 0)).p2.set6 (Value.bool false) (Value.bool false) ((Value.int .i64) 0) (Value.bool false) (Value.bool false) ((Value.int .i64) 0)
    go_wp2_with fail
    refine ret_via (fun wz => Has wz (blk (w.heap.size + 1) #[Value.bool false, Value.bool false, (Value.int .i64) 0, Value.bool false, Value.bool false, (Value.int .i64) 0] 51 * (blk w.heap.size #[(Value.int .i64) 0, (Value.int .i64) 0, (Value.int .i64) 0, (Value.int .i64) 0] 31 * old w w.heap.size)) ∧ Ext w wz) ⟨h7.drop3.drop3, by (repeat (first | with_reducible assumption | with_reducible exact Ext.refl _ | with_reducible refine Ext.set ?_ _ _ | with_reducible refine Ext.alloc ?_ _ | with_reducible refine Ext.drew ?_ | with_reducible refine Ext.drewN ?_ _ | assumption | exact Ext.refl _ | refine Ext.alloc ?_ _ | refine Ext.set ?_ _ _ | refine Ext.drew ?_ | refine Ext.drewN ?_ _ | refine Ext.below ?_ (by assumption) | refine Ext.trans ?_ (by assumption)))⟩ ?_
    rintro wz ⟨hz, xz⟩
    exact bodyPost_ret (results_cct Try.results32 rfl rfl rfl (load_map hz.right) (load_entry hz)) rfl ⟨by rw [HFE.out.1, HFE.out.2]; rfl, below_of1 hz.right.right xz⟩
end Go.Proofs.Ytmfheghbgihdmaa
namespace Go.Proofs.Ytmfheghbgihdmaa
open Go.RowKit
set_option maxRecDepth 100000
/-- What Remove hands back. -/
def Removed (f : Nat) (s : Ms) (r p : Int) (R : HProp) (w : World) (e : Ending) (w' : World) : Prop :=
  ∃ A n c, Res (.tuple #[(findM s r p).val, .slice A n c, (Value.int .i64) (findC s r p)]) (irow (.slice A n c) (remG s r p) * (framesAt f (remS s r p) * R)) w e w'
set_option maxHeartbeats 8000000 in
theorem remT (f : Nat) (s : Ms) (root p : Int) (R : HProp) (w : World) (hs : s.Ok) (h : Has w (framesAt f s * R)) :
    Calls Try.prog 37 #[.pointer (some ⟨f, 0, none⟩), (Value.int .i64) root, (Value.int .i64) p] w (Removed f s root p R w) := by
  have h0 := h.new #[(Value.int .i64) 0, (Value.int .i64) 0, (Value.int .i64) 0, (Value.int .i64) 0] 31
  have x0 := (Ext.refl w).alloc (.cells #[(Value.int .i64) 0, (Value.int .i64) 0, (Value.int .i64) 0, (Value.int .i64) 0] 31)
  have W1 := Lib.hid (leafT f s root p _ _ hs h0.p2)
  unfold Leafed at W1
  unfold Removed
  by_cases hfc : findC s root p = 0
  · have hcode : (way s root p).code = 0 := by
      unfold findC at hfc
      split at hfc
      · rename_i hn; exact absurd hfc hn
      · rename_i hn; simpa using hn
    obtain ⟨hp, n, hn, hn3, hl, hu⟩ := way_tabs hcode
    have hRS : remS s root p = (cutT p (way s root p).tabs n (s.setW ((way s root p).tabs.getD n 0).toNat (index p (3 - n : Nat)).toNat 0)).1 := by
      unfold remS; rw [if_pos hfc, hn, Nat.add_sub_cancel, cutR_T]
    have hRG : remG s root p = (cutT p (way s root p).tabs n (s.setW ((way s root p).tabs.getD n 0).toNat (index p (3 - n : Nat)).toNat 0)).2 := by
      unfold remG; rw [if_pos hfc, hn, Nat.add_sub_cancel, cutR_T]
    rw [hfc] at W1 ⊢
    have hHas : ∀ k, (hk : k < (way s root p).tabs.length) → s.has ((way s root p).tabs.getD k 0) = true := fun k hk => by
      rw [List.getD_eq_getElem?_getD, List.getElem?_eq_getElem hk]
      exact hu _ (List.getElem_mem hk)
    have hTk : ∀ k, k < (way s root p).tabs.length → (way s root p).tabs[k]? = some ((way s root p).tabs.getD k 0) := fun k hk => by
      rw [List.getD_eq_getElem?_getD, List.getElem?_eq_getElem hk]
      rfl
    have hPk : ∀ k, k < n + 1 → (placesOf p (way s root p).tabs.length)[k]? = some (index p (3 - k : Nat)) := fun k hk => by
      rw [placesOf_get p (by omega)]
      congr 2
      omega
    -- a store on the way
    have hSt : ∀ (σ : Ms), (∀ u, σ.has u = s.has u) → ∀ k, k < n + 1 → ∀ R w, Has w (framesAt f σ * R) → Calls Try.prog 64 #[.pointer (some ⟨f, 0, none⟩), (Value.int .i64) ((way s root p).tabs.getD k 0), (Value.int .i64) (index p (3 - k : Nat)), (Value.int .u64) 0] w (Res (Value.bool true) (framesAt f (σ.setW ((way s root p).tabs.getD k 0).toNat (index p (3 - k : Nat)).toNat 0) * R) w) := fun σ hσ k hk R w h => by
      have hw : σ.hasW ((way s root p).tabs.getD k 0) (index p (3 - k : Nat)) = true := by
        rw [hasW_index hp (by omega) (by omega), hσ]
        exact hHas k (by omega)
      have := storeF f σ ((way s root p).tabs.getD k 0) (index p (3 - k : Nat)) 0 R w h
      unfold storeS at this
      rw [if_pos hw, hw] at this
      exact this
    have hEm : ∀ (σ : Ms), (∀ u, σ.has u = s.has u) → ∀ k, k < n + 1 → ∀ R w, Has w (framesAt f σ * R) → Calls Try.prog 65 #[.pointer (some ⟨f, 0, none⟩), (Value.int .i64) ((way s root p).tabs.getD k 0)] w (Same (Value.bool (allZ σ ((way s root p).tabs.getD k 0))) w) := fun σ hσ k hk R w h => by
      have := emptyT f ((way s root p).tabs.getD k 0) σ R w h
      rw [emptyV_eq (by rw [hσ]; exact hHas k (by omega))] at this
      exact this
    have HST := Lib.hid hSt
    have HEM := Lib.hid hEm
    have HTK := Lib.hid hTk
    have HPK := Lib.hid hPk
    have HRS := Lib.hid hRS
    have HRG := Lib.hid hRG
    clear hSt hEm hTk hPk hRS hRG hHas hu hl hcode h hfc
    generalize remS s root p = rs at *
    generalize remG s root p = rg at *
    generalize findM s root p = fm at *
    generalize way s root p = y at *
    generalize placesOf p y.tabs.length = pls at *
    generalize hix : (fun k : Nat => index p (3 - k : Nat)) = ixs
    have HIX := Lib.hid hix
    clear hix
    have HN := Lib.hid hn
    clear hn
    go_enter Try.func37, Try.ntmps37
    go_wp2_with fail
    refine W1.out.mono ?_; rintro e w1 hF
    rcases hF with ⟨_, A, B, c, d, rfl, h1, x1⟩ | ⟨hfc, _⟩
    · have h2 := (h0.onto' (h1.a2)).a1
      have x2 := x0.trans x1
      clear h0 x0 h1 x1 W1
      have h4 := (h2.new #[(Value.int .i64) y.lev, Value.bool y.e.there, Value.bool y.e.leaf, (Value.int .i64) y.e.rights, Value.bool y.e.used, Value.bool y.e.dirty, (Value.int .i64) y.e.frame, .slice A y.tabs.length c, .slice B y.tabs.length d] 122).new #[(Value.int .i64) fm.page, (Value.int .i64) fm.size, (Value.int .i64) fm.frame, (Value.int .i64) fm.rights] 31
      simp only [World.size_alloc] at h4
      have x4 := (x2.alloc (.cells #[(Value.int .i64) y.lev, Value.bool y.e.there, Value.bool y.e.leaf, (Value.int .i64) y.e.rights, Value.bool y.e.used, Value.bool y.e.dirty, (Value.int .i64) y.e.frame, .slice A y.tabs.length c, .slice B y.tabs.length d] 122)).alloc (.cells #[(Value.int .i64) fm.page, (Value.int .i64) fm.size, (Value.int .i64) fm.frame, (Value.int .i64) fm.rights] 31)
      clear h2 x2
      unfold spotA
      go_upto_region 4 with fail
      generalize (w1.alloc (.cells #[(Value.int .i64) y.lev, Value.bool y.e.there, Value.bool y.e.leaf, (Value.int .i64) y.e.rights, Value.bool y.e.used, Value.bool y.e.dirty, (Value.int .i64) y.e.frame, .slice A y.tabs.length c, .slice B y.tabs.length d] 122)).alloc (.cells #[(Value.int .i64) fm.page, (Value.int .i64) fm.size, (Value.int .i64) fm.frame, (Value.int .i64) fm.rights] 31) = w3 at *
      generalize w1.heap.size = X2 at *
      generalize w.heap.size = X0 at *
      have hNo := HN.out
      obtain ⟨bA, hA1, -, -⟩ := irow_at (h4.right.right) (k := n) (by omega)
      have hpll : pls.length = y.tabs.length := (irow_len h4.right.right.right).symm
      obtain ⟨bB, hB1, -, -⟩ := irow_at (h4.right.right.right) (k := n) (by omega)
      subst hA1; subst hB1
      have hlen1 : ((y.tabs.length : Nat) : Int) - 1 = (n : Int) := by omega
      have h6 : Has w3 (framesAt f s * (blk (X2 + 1) #[(Value.int .i64) fm.page, (Value.int .i64) fm.size, (Value.int .i64) fm.frame, (Value.int .i64) fm.rights] 31 * (blk X2 #[(Value.int .i64) y.lev, Value.bool y.e.there, Value.bool y.e.leaf, (Value.int .i64) y.e.rights, Value.bool y.e.used, Value.bool y.e.dirty, (Value.int .i64) y.e.frame, .slice (some ⟨bA, 0, none⟩) y.tabs.length c, .slice (some ⟨bB, 0, none⟩) y.tabs.length d] 122 * (irow (.slice (some ⟨bA, 0, none⟩) y.tabs.length c) y.tabs * (irow (.slice (some ⟨bB, 0, none⟩) y.tabs.length d) pls * (blk X0 #[(Value.int .i64) 0, (Value.int .i64) 0, (Value.int .i64) 0, (Value.int .i64) 0] 31 * R)))))) := h4.eq (by ac_rfl)
      have HK := Lib.hid (fun (k : Nat) (hk : k < n + 1) (w' : World) (P Q : HProp) (h : Has w' (P * (Q * (blk X2 #[(Value.int .i64) y.lev, Value.bool y.e.there, Value.bool y.e.leaf, (Value.int .i64) y.e.rights, Value.bool y.e.used, Value.bool y.e.dirty, (Value.int .i64) y.e.frame, .slice (some ⟨bA, 0, none⟩) y.tabs.length c, .slice (some ⟨bB, 0, none⟩) y.tabs.length d] 122 * (irow (.slice (some ⟨bA, 0, none⟩) y.tabs.length c) y.tabs * (irow (.slice (some ⟨bB, 0, none⟩) y.tabs.length d) pls * (blk X0 #[(Value.int .i64) 0, (Value.int .i64) 0, (Value.int .i64) 0, (Value.int .i64) 0] 31 * R))))))) => (by
        have hno := HN.out
        obtain ⟨b1, e1, l1, q1⟩ := irow_at (h.right.right.right) (k := k) (by omega)
        have hpl2 : pls.length = y.tabs.length := (irow_len h.right.right.right.right).symm
        obtain ⟨b2, e2, l2, q2⟩ := irow_at (h.right.right.right.right) (k := k) (by omega)
        injection e1 with e1; injection e1 with e1
        injection e2 with e2; injection e2 with e2
        subst e1; subst e2
        rw [(List.getElem?_eq_some_iff.1 (HTK.out k (by omega))).2] at q1
        rw [(List.getElem?_eq_some_iff.1 (HPK.out k hk)).2] at q2
        exact ⟨h.right.right.cell 7, h.right.right.cell 8, q1, q2, h.right.right.lt, l1, l2⟩ : w'.cell? ⟨X2, 7, none⟩ = some (.slice (some ⟨bA, 0, none⟩) y.tabs.length c) ∧ w'.cell? ⟨X2, 8, none⟩ = some (.slice (some ⟨bB, 0, none⟩) y.tabs.length d) ∧ w'.cell? ⟨bA, k, none⟩ = some ((Value.int .i64) (y.tabs.getD k 0)) ∧ w'.cell? ⟨bB, k, none⟩ = some ((Value.int .i64) (index p (3 - k : Nat))) ∧ X2 < w'.heap.size ∧ bA < w'.heap.size ∧ bB < w'.heap.size))
      obtain ⟨k7, k8, _, _, kl, _, _⟩ := HK.out n (by omega) _ _ _ h6
      have HLN := Lib.hid hlen1
      clear hNo hpll hlen1 h4
      go_upto_region 5 with fail
      go_cut [13] from 26 to 30 (fun s13 wx => s13 = (Value.int .i64) n ∧ wx = w3)
      case first =>
        have hlen1 := HLN.out
        go_wp2_with fail
        go_meet
        case rel => exact ⟨by first | rfl | (rw [← hlen1]; done) | (rw [← hlen1]; go_num), rfl⟩
      case rest =>
      obtain ⟨rfl, hwr⟩ := hcut
      replace hwr := hwr.symm
      subst hwr
      clear k7 k8 kl
      obtain ⟨k7, k8, kA, kB, kl, lA, lB⟩ := HK.out n (by omega) _ _ _ h6
      have hni : (n : Int) < y.tabs.length := by have := HN.out; omega
      have hn0 : ¬ ((n : Int) < 0) := by omega
      have hS1 := Lib.hid (HST.out s (fun _ => rfl) n (by omega))
      have HKn := Lib.hid (HK.out n (by omega))
      have HRS' := Lib.hid HRS.out
      have HRG' := Lib.hid HRG.out
      have hhas : ∀ u, (s.setW (y.tabs.getD n 0).toNat (index p (3 - n : Nat)).toNat 0).has u = s.has u := fun u => rfl
      have HHA := Lib.hid hhas
      clear HRS HRG hhas
      generalize s.setW (y.tabs.getD n 0).toNat (index p (3 - n : Nat)).toNat 0 = s1 at *
      generalize y.tabs.getD n 0 = t at kA hS1 HKn
      generalize index p (3 - n : Nat) = ix at kB hS1 HKn
      have h7 := h6.drew
      have x7 := x4.drew
      go_upto_region 6 with fail
      go_region_held3 (fun w' => w'.cell? ⟨X2, 7, none⟩ = some (.slice (some ⟨bA, 0, none⟩) y.tabs.length c) ∧ w'.cell? ⟨X2, 8, none⟩ = some (.slice (some ⟨bB, 0, none⟩) y.tabs.length d) ∧ w'.cell? ⟨bA, n, none⟩ = some ((Value.int .i64) t) ∧ w'.cell? ⟨bB, n, none⟩ = some ((Value.int .i64) ix)) (first | (with_reducible exact ⟨(HKn.out _ _ _ h7).1, (HKn.out _ _ _ h7).2.1, (HKn.out _ _ _ h7).2.2.1, (HKn.out _ _ _ h7).2.2.2.1⟩) | (with_reducible exact ⟨(HKn.out _ _ _ h8).1, (HKn.out _ _ _ h8).2.1, (HKn.out _ _ _ h8).2.2.1, (HKn.out _ _ _ h8).2.2.2.1⟩) | go_keep) (first | (go_at_call 64; (with_reducible refine (hS1.out _ _ h7).mono ?_); rintro e w8 ⟨rfl, h8, x8⟩))
      have x9 := x7.trans x8
      have h9 : Has w8 (irow (.slice none 0 0) [] * (framesAt f s1 * (blk (X2 + 1) #[(Value.int .i64) fm.page, (Value.int .i64) fm.size, (Value.int .i64) fm.frame, (Value.int .i64) fm.rights] 31 * (blk X2 #[(Value.int .i64) y.lev, Value.bool y.e.there, Value.bool y.e.leaf, (Value.int .i64) y.e.rights, Value.bool y.e.used, Value.bool y.e.dirty, (Value.int .i64) y.e.frame, .slice (some ⟨bA, 0, none⟩) y.tabs.length c, .slice (some ⟨bB, 0, none⟩) y.tabs.length d] 122 * (irow (.slice (some ⟨bA, 0, none⟩) y.tabs.length c) y.tabs * (irow (.slice (some ⟨bB, 0, none⟩) y.tabs.length d) pls * (blk X0 #[(Value.int .i64) 0, (Value.int .i64) 0, (Value.int .i64) 0, (Value.int .i64) 0] 31 * R))))))) := Has.rowNil h8
      clear h6 x4 h7 x7 h8 x8 hS1 HKn k7 k8 kA kB kl lA lB hni hn0
      go_wp2_with fail
      go_loopw [12, 13] (fun t12 t13 wr => ∃ (k : Nat) (σ : Ms) (g : List Int) (G : Option Addr) (gc : Nat), k < n + 1 ∧ t13 = (Value.int .i64) k ∧ t12 = .slice G g.length gc ∧ Hid (∀ u, σ.has u = s.has u) ∧ Hid (rs = (cutT p y.tabs k σ).1 ∧ rg = g ++ (cutT p y.tabs k σ).2) ∧ g.length + k ≤ n ∧ Has wr (irow (.slice G g.length gc) g * (framesAt f σ * (blk (X2 + 1) #[(Value.int .i64) fm.page, (Value.int .i64) fm.size, (Value.int .i64) fm.frame, (Value.int .i64) fm.rights] 31 * (blk X2 #[(Value.int .i64) y.lev, Value.bool y.e.there, Value.bool y.e.leaf, (Value.int .i64) y.e.rights, Value.bool y.e.used, Value.bool y.e.dirty, (Value.int .i64) y.e.frame, .slice (some ⟨bA, 0, none⟩) y.tabs.length c, .slice (some ⟨bB, 0, none⟩) y.tabs.length d] 122 * (irow (.slice (some ⟨bA, 0, none⟩) y.tabs.length c) y.tabs * (irow (.slice (some ⟨bB, 0, none⟩) y.tabs.length d) pls * (blk X0 #[(Value.int .i64) 0, (Value.int .i64) 0, (Value.int .i64) 0, (Value.int .i64) 0] 31 * R))))))) ∧ Ext w wr) (fun _ t13 _ => (intOf t13).toNat)
      case atStart => exact ⟨n, s1, [], none, 0, by omega, rfl, rfl, HHA, Lib.hid ⟨HRS'.out, by rw [List.nil_append]; exact HRG'.out⟩, by simp, h9, x9⟩
      case round =>
        clear h9 x9 HRS' HRG' HHA
        obtain ⟨k, σ, g, G, gc, hk, rfl, rfl, HHS, HCU, hgl, hr, hx⟩ := hrel
        have hEk := Lib.hid (HEM.out σ HHS.out k hk)
        obtain ⟨k7, k8, kA, kB, kl, lA, lB⟩ := HK.out k hk _ _ _ hr.right
        have hki : (k : Int) < y.tabs.length := by have := HN.out; omega
        have hkn : ¬ ((k : Int) < 0) := by omega
        have hz : Has _ (blk X0 #[(Value.int .i64) 0, (Value.int .i64) 0, (Value.int .i64) 0, (Value.int .i64) 0] 31 * (irow (.slice G g.length gc) g * (framesAt f σ * (blk (X2 + 1) #[(Value.int .i64) fm.page, (Value.int .i64) fm.size, (Value.int .i64) fm.frame, (Value.int .i64) fm.rights] 31 * (blk X2 #[(Value.int .i64) y.lev, Value.bool y.e.there, Value.bool y.e.leaf, (Value.int .i64) y.e.rights, Value.bool y.e.used, Value.bool y.e.dirty, (Value.int .i64) y.e.frame, .slice (some ⟨bA, 0, none⟩) y.tabs.length c, .slice (some ⟨bB, 0, none⟩) y.tabs.length d] 122 * (irow (.slice (some ⟨bA, 0, none⟩) y.tabs.length c) y.tabs * (irow (.slice (some ⟨bB, 0, none⟩) y.tabs.length d) pls * R))))))) := hr.eq (by ac_rfl)
        obtain ⟨r0, r1, r2, r3⟩ := hz.cells4
        obtain ⟨q0, q1, q2, q3⟩ := hz.frees4
        have rl := hz.lt
        obtain ⟨m0, m1, m2, m3⟩ := hr.right.right.cells4
        have ml := hr.right.right.lt
        by_cases hk0 : k = 0
        · have hcut := cutT_no p y.tabs (k := k) (s := σ) (.inl hk0)
          subst hk0
          have HF := Lib.hid (show rs = σ ∧ rg = g by have := HCU.out; rw [hcut] at this; exact ⟨this.1, by rw [this.2]; simp⟩)
          clear hcut HCU hEk
          go_wp2_with fail
          refine ret_via (fun wz => Has wz (blk X0 #[(Value.int .i64) fm.page, (Value.int .i64) fm.size, (Value.int .i64) fm.frame, (Value.int .i64) fm.rights] 31 * (irow (.slice G g.length gc) g * (framesAt f σ * (blk (X2 + 1) #[(Value.int .i64) fm.page, (Value.int .i64) fm.size, (Value.int .i64) fm.frame, (Value.int .i64) fm.rights] 31 * (blk X2 #[(Value.int .i64) y.lev, Value.bool y.e.there, Value.bool y.e.leaf, (Value.int .i64) y.e.rights, Value.bool y.e.used, Value.bool y.e.dirty, (Value.int .i64) y.e.frame, .slice (some ⟨bA, 0, none⟩) y.tabs.length c, .slice (some ⟨bB, 0, none⟩) y.tabs.length d] 122 * (irow (.slice (some ⟨bA, 0, none⟩) y.tabs.length c) y.tabs * (irow (.slice (some ⟨bB, 0, none⟩) y.tabs.length d) pls * R))))))) ∧ Ext w wz) ⟨hz.set4 _ _ _ _, by (repeat (first | with_reducible assumption | with_reducible exact Ext.refl _ | with_reducible refine Ext.set ?_ _ _ | with_reducible refine Ext.alloc ?_ _ | with_reducible refine Ext.drew ?_ | with_reducible refine Ext.drewN ?_ _ | assumption | exact Ext.refl _ | refine Ext.alloc ?_ _ | refine Ext.set ?_ _ _ | refine Ext.drew ?_ | refine Ext.drewN ?_ _ | refine Ext.below ?_ (by assumption) | refine Ext.trans ?_ (by assumption)))⟩ ?_
          rintro wz ⟨hw, xw⟩
          have hw2 : Has wz (irow (.slice (some ⟨bB, 0, none⟩) y.tabs.length d) pls * (irow (.slice (some ⟨bA, 0, none⟩) y.tabs.length c) y.tabs * (blk X2 #[(Value.int .i64) y.lev, Value.bool y.e.there, Value.bool y.e.leaf, (Value.int .i64) y.e.rights, Value.bool y.e.used, Value.bool y.e.dirty, (Value.int .i64) y.e.frame, .slice (some ⟨bA, 0, none⟩) y.tabs.length c, .slice (some ⟨bB, 0, none⟩) y.tabs.length d] 122 * (blk (X2 + 1) #[(Value.int .i64) fm.page, (Value.int .i64) fm.size, (Value.int .i64) fm.frame, (Value.int .i64) fm.rights] 31 * (blk X0 #[(Value.int .i64) fm.page, (Value.int .i64) fm.size, (Value.int .i64) fm.frame, (Value.int .i64) fm.rights] 31 * (irow (.slice G g.length gc) g * (framesAt f σ * R))))))) := hw.eq (by ac_rfl)
          exact bodyPost_ret (results_ctt Try.results37 rfl rfl rfl (load_map hw)) rfl ⟨G, g.length, gc, rfl, by rw [HF.out.1, HF.out.2]; exact hw2.right.right.right.right.right, xw⟩
        · obtain ⟨j, hj⟩ : ∃ j, k = j + 1 := ⟨k - 1, by omega⟩
          have hk0' : (0 : Int) < (k : Int) := by omega
          have hji : (k : Int) - 1 = (j : Int) := by omega
          have HJ := Lib.hid hj
          have hjn : j < n + 1 := by omega
          clear hj
          cases hez : allZ σ (y.tabs.getD k 0) with
          | false =>
            have hcut := cutT_no p y.tabs (k := k) (s := σ) (.inr hez)
            have HF := Lib.hid (show rs = σ ∧ rg = g by have := HCU.out; rw [hcut] at this; exact ⟨this.1, by rw [this.2]; simp⟩)
            rw [hez] at hEk
            clear hcut HCU hez
            generalize y.tabs.getD k 0 = t at kA hEk
            go_wp2_with fail
            refine (hEk.out _ _ hr.right).mono ?_; rintro e w2 ⟨rfl, rfl⟩
            go_wp2_with fail
            refine ret_via (fun wz => Has wz (blk X0 #[(Value.int .i64) fm.page, (Value.int .i64) fm.size, (Value.int .i64) fm.frame, (Value.int .i64) fm.rights] 31 * (irow (.slice G g.length gc) g * (framesAt f σ * (blk (X2 + 1) #[(Value.int .i64) fm.page, (Value.int .i64) fm.size, (Value.int .i64) fm.frame, (Value.int .i64) fm.rights] 31 * (blk X2 #[(Value.int .i64) y.lev, Value.bool y.e.there, Value.bool y.e.leaf, (Value.int .i64) y.e.rights, Value.bool y.e.used, Value.bool y.e.dirty, (Value.int .i64) y.e.frame, .slice (some ⟨bA, 0, none⟩) y.tabs.length c, .slice (some ⟨bB, 0, none⟩) y.tabs.length d] 122 * (irow (.slice (some ⟨bA, 0, none⟩) y.tabs.length c) y.tabs * (irow (.slice (some ⟨bB, 0, none⟩) y.tabs.length d) pls * R))))))) ∧ Ext w wz) ⟨hz.set4 _ _ _ _, by (repeat (first | with_reducible assumption | with_reducible exact Ext.refl _ | with_reducible refine Ext.set ?_ _ _ | with_reducible refine Ext.alloc ?_ _ | with_reducible refine Ext.drew ?_ | with_reducible refine Ext.drewN ?_ _ | assumption | exact Ext.refl _ | refine Ext.alloc ?_ _ | refine Ext.set ?_ _ _ | refine Ext.drew ?_ | refine Ext.drewN ?_ _ | refine Ext.below ?_ (by assumption) | refine Ext.trans ?_ (by assumption)))⟩ ?_
            rintro wz ⟨hw, xw⟩
            have hw2 : Has wz (irow (.slice (some ⟨bB, 0, none⟩) y.tabs.length d) pls * (irow (.slice (some ⟨bA, 0, none⟩) y.tabs.length c) y.tabs * (blk X2 #[(Value.int .i64) y.lev, Value.bool y.e.there, Value.bool y.e.leaf, (Value.int .i64) y.e.rights, Value.bool y.e.used, Value.bool y.e.dirty, (Value.int .i64) y.e.frame, .slice (some ⟨bA, 0, none⟩) y.tabs.length c, .slice (some ⟨bB, 0, none⟩) y.tabs.length d] 122 * (blk (X2 + 1) #[(Value.int .i64) fm.page, (Value.int .i64) fm.size, (Value.int .i64) fm.frame, (Value.int .i64) fm.rights] 31 * (blk X0 #[(Value.int .i64) fm.page, (Value.int .i64) fm.size, (Value.int .i64) fm.frame, (Value.int .i64) fm.rights] 31 * (irow (.slice G g.length gc) g * (framesAt f σ * R))))))) := hw.eq (by ac_rfl)
            exact bodyPost_ret (results_ctt Try.results37 rfl rfl rfl (load_map hw)) rfl ⟨G, g.length, gc, rfl, by rw [HF.out.1, HF.out.2]; exact hw2.right.right.right.right.right, xw⟩
          | true =>
            have hcut := cutT_yes p y.tabs (k := k) (j := j) (s := σ) HJ.out hez
            rw [hez] at hEk
            have HCU' := Lib.hid (show rs = (cutT p y.tabs j (σ.setW (y.tabs.getD j 0).toNat (index p (3 - j : Nat)).toNat 0)).1 ∧ rg = (g ++ [y.tabs.getD k 0]) ++ (cutT p y.tabs j (σ.setW (y.tabs.getD j 0).toNat (index p (3 - j : Nat)).toNat 0)).2 by
              have := HCU.out
              rw [hcut] at this
              exact ⟨this.1, by rw [this.2]; simp⟩)
            have hSj := Lib.hid (HST.out σ HHS.out j hjn)
            have HKj := Lib.hid (HK.out j hjn)
            have HKk := Lib.hid (HK.out k hk)
            have HHS' := Lib.hid (show ∀ u, (σ.setW (y.tabs.getD j 0).toNat (index p (3 - j : Nat)).toNat 0).has u = s.has u from HHS.out)
            clear hcut HCU hez HHS
            generalize σ.setW (y.tabs.getD j 0).toNat (index p (3 - j : Nat)).toNat 0 = σ' at *
            obtain ⟨j7, j8, jA, jB, _, _, _⟩ := HKj.out _ _ _ hr.right
            generalize y.tabs.getD k 0 = t at kA hEk HCU' HKk
            generalize y.tabs.getD j 0 = tj at jA hSj HKj
            generalize index p (3 - j : Nat) = ij at jB hSj HKj
            generalize index p (3 - k : Nat) = ik at kB HKk
            have hjl : (j : Int) < y.tabs.length := by have := HN.out; omega
            have hj0 : ¬ ((j : Int) < 0) := by omega
            have hj00 : (0 : Int) ≤ (j : Int) := by omega
            have hj3 : j ≤ 3 := by omega
            have hwj : IntKind.i64.wrap (j : Int) = (j : Int) := by rw [IntKind.wrap_i64]; omega
            have hwk : IntKind.i64.wrap ((k : Int) - 1) = (j : Int) := by rw [hji]; exact hwj
            go_wp2_with fail
            refine (hEk.out _ _ hr.right).mono ?_; rintro e w2 ⟨rfl, rfl⟩
            have h7 : Has _ (framesAt f σ * ((irow (.slice G g.length gc) g * blk (X2 + 1) #[(Value.int .i64) fm.page, (Value.int .i64) fm.size, (Value.int .i64) fm.frame, (Value.int .i64) fm.rights] 31) * (blk X2 #[(Value.int .i64) y.lev, Value.bool y.e.there, Value.bool y.e.leaf, (Value.int .i64) y.e.rights, Value.bool y.e.used, Value.bool y.e.dirty, (Value.int .i64) y.e.frame, .slice (some ⟨bA, 0, none⟩) y.tabs.length c, .slice (some ⟨bB, 0, none⟩) y.tabs.length d] 122 * (irow (.slice (some ⟨bA, 0, none⟩) y.tabs.length c) y.tabs * (irow (.slice (some ⟨bB, 0, none⟩) y.tabs.length d) pls * (blk X0 #[(Value.int .i64) 0, (Value.int .i64) 0, (Value.int .i64) 0, (Value.int .i64) 0] 31 * R)))))) := (hr.eq (by ac_rfl)).drew
            have x7 := hx.drew
            go_upto_region 9 with fail
            go_region_held3 (fun w' => w'.cell? ⟨X2, 7, none⟩ = some (.slice (some ⟨bA, 0, none⟩) y.tabs.length c) ∧ w'.cell? ⟨X2, 8, none⟩ = some (.slice (some ⟨bB, 0, none⟩) y.tabs.length d) ∧ w'.cell? ⟨bA, j, none⟩ = some ((Value.int .i64) tj) ∧ w'.cell? ⟨bB, j, none⟩ = some ((Value.int .i64) ij)) (first | (with_reducible exact ⟨(HKj.out _ _ _ h7).1, (HKj.out _ _ _ h7).2.1, (HKj.out _ _ _ h7).2.2.1, (HKj.out _ _ _ h7).2.2.2.1⟩) | (with_reducible exact ⟨(HKj.out _ _ _ h8).1, (HKj.out _ _ _ h8).2.1, (HKj.out _ _ _ h8).2.2.1, (HKj.out _ _ _ h8).2.2.2.1⟩) | go_keep) (first | (go_at_call 64; (with_reducible refine (hSj.out _ _ h7).mono ?_); rintro e w8 ⟨rfl, h8, x8⟩))
            have x9 := x7.trans x8
            have h9 : Has w8 (row 3 1 (.slice G g.length gc) g.length (g.map (Value.int .i64)) * (framesAt f σ' * (blk (X2 + 1) #[(Value.int .i64) fm.page, (Value.int .i64) fm.size, (Value.int .i64) fm.frame, (Value.int .i64) fm.rights] 31 * (blk X2 #[(Value.int .i64) y.lev, Value.bool y.e.there, Value.bool y.e.leaf, (Value.int .i64) y.e.rights, Value.bool y.e.used, Value.bool y.e.dirty, (Value.int .i64) y.e.frame, .slice (some ⟨bA, 0, none⟩) y.tabs.length c, .slice (some ⟨bB, 0, none⟩) y.tabs.length d] 122 * (irow (.slice (some ⟨bA, 0, none⟩) y.tabs.length c) y.tabs * (irow (.slice (some ⟨bB, 0, none⟩) y.tabs.length d) pls * (blk X0 #[(Value.int .i64) 0, (Value.int .i64) 0, (Value.int .i64) 0, (Value.int .i64) 0] 31 * R))))))) := h8.eq (by unfold irow; ac_rfl)
            obtain ⟨k7', k8', kA', kB', kl', lA', lB'⟩ := HKk.out _ _ _ h8
            clear hr hx hz r0 r1 r2 r3 q0 q1 q2 q3 rl m0 m1 m2 m3 ml k7 k8 kA kB kl lA lB j7 j8 jA jB h7 x7 h8 x8 hEk hSj
            have hrow := h9.alloc (.cells #[(Value.int .i64) t] 3)
            go_wp2_with (first | (at_builtin; refine wpList_append_has rfl _ _ 47 rfl Try.underlying47 elemI _ _ _ rfl hrow ⟨w8.heap.size, 0, none⟩ 1 1 [(Value.int .i64) t] rfl rfl (news_one w8 ((Value.int .i64) t) 3) ?c1 ?c2 ?c3 ?_))
            case c1 => intro u hu; simp at hu; subst hu; rfl
            case c2 => unfold maxLen; omega
            case c3 => omega
            intro v' w10 h10 x10
            obtain ⟨G', gc', rfl⟩ := h10.rowForm
            go_wp2_with fail
            go_roundw
            case rel => exact ⟨j, σ', g ++ [t], G', gc', hjn, by go_num, by simp, HHS', HCU', by simp; have := HJ.out; omega, by unfold irow; simp only [List.length_append, List.length_singleton, List.map_append, List.map_cons, List.map_nil]; exact h10, (x9.alloc _).trans x10⟩
            case measure => have := HJ.out; simp [intOf]; omega
    · exact absurd rfl hfc
  · have hrs : remS s root p = s := by unfold remS; rw [if_neg hfc]
    have hrg : remG s root p = [] := by unfold remG; rw [if_neg hfc]
    have hm : findM s root p = Mp.zero := by unfold findM; rw [if_neg hfc]
    have hn : (findC s root p != 0) = true := by simpa using hfc
    have HF := Lib.hid (And.intro hrs (And.intro hrg hm))
    generalize findC s root p = fc at *
    generalize remS s root p = rs at *
    generalize remG s root p = rg at *
    generalize findM s root p = fm at *
    clear hrs hrg hm h
    go_enter Try.func37, Try.ntmps37
    go_wp2_with fail
    refine W1.out.mono ?_; rintro e w1 hF
    rcases hF with ⟨h0', _⟩ | ⟨_, rfl, b1⟩
    · exact absurd h0' hfc
    · have h1 := h0.below b1
      have x1 := x0.below b1
      clear h0 x0 b1 W1 hfc
      have h4 : Has _ (blk w.heap.size #[(Value.int .i64) 0, (Value.int .i64) 0, (Value.int .i64) 0, (Value.int .i64) 0] 31 * (framesAt f s * (blk (w1.heap.size + 1) #[(Value.int .i64) 0, (Value.int .i64) 0, (Value.int .i64) 0, (Value.int .i64) 0] 31 * (blk w1.heap.size #[(Value.int .i64) 0, Value.bool false, Value.bool false, (Value.int .i64) 0, Value.bool false, Value.bool false, (Value.int .i64) 0, .slice none 0 0, .slice none 0 0] 122 * R)))) := ((h1.new #[(Value.int .i64) 0, Value.bool false, Value.bool false, (Value.int .i64) 0, Value.bool false, Value.bool false, (Value.int .i64) 0, .slice none 0 0, .slice none 0 0] 122).new #[(Value.int .i64) 0, (Value.int .i64) 0, (Value.int .i64) 0, (Value.int .i64) 0] 31).eq (by simp only [World.size_alloc]; ac_rfl)
      have x4 := (x1.alloc (.cells #[(Value.int .i64) 0, Value.bool false, Value.bool false, (Value.int .i64) 0, Value.bool false, Value.bool false, (Value.int .i64) 0, .slice none 0 0, .slice none 0 0] 122)).alloc (.cells #[(Value.int .i64) 0, (Value.int .i64) 0, (Value.int .i64) 0, (Value.int .i64) 0] 31)
      clear h1 x1
      unfold zspot
      go_upto_region 2 with fail
      generalize (w1.alloc (.cells #[(Value.int .i64) 0, Value.bool false, Value.bool false, (Value.int .i64) 0, Value.bool false, Value.bool false, (Value.int .i64) 0, .slice none 0 0, .slice none 0 0] 122)).alloc (.cells #[(Value.int .i64) 0, (Value.int .i64) 0, (Value.int .i64) 0, (Value.int .i64) 0] 31) = w3 at *
      generalize w1.heap.size = X2 at *
      generalize w.heap.size = X0 at *
      obtain ⟨r0, r1, r2, r3⟩ := h4.cells4
      obtain ⟨q0, q1, q2, q3⟩ := h4.frees4
      have rl := h4.lt
      go_wp2_with fail
      refine ret_via (fun wz => Has wz (blk X0 #[(Value.int .i64) 0, (Value.int .i64) 0, (Value.int .i64) 0, (Value.int .i64) 0] 31 * (framesAt f s * (blk (X2 + 1) #[(Value.int .i64) 0, (Value.int .i64) 0, (Value.int .i64) 0, (Value.int .i64) 0] 31 * (blk X2 #[(Value.int .i64) 0, Value.bool false, Value.bool false, (Value.int .i64) 0, Value.bool false, Value.bool false, (Value.int .i64) 0, .slice none 0 0, .slice none 0 0] 122 * R)))) ∧ Ext w wz) ⟨h4.set4 _ _ _ _, by (repeat (first | with_reducible assumption | with_reducible exact Ext.refl _ | with_reducible refine Ext.set ?_ _ _ | with_reducible refine Ext.alloc ?_ _ | with_reducible refine Ext.drew ?_ | with_reducible refine Ext.drewN ?_ _ | assumption | exact Ext.refl _ | refine Ext.alloc ?_ _ | refine Ext.set ?_ _ _ | refine Ext.drew ?_ | refine Ext.drewN ?_ _ | refine Ext.below ?_ (by assumption) | refine Ext.trans ?_ (by assumption)))⟩ ?_
      rintro wz ⟨hw, xw⟩
      have hw2 : Has wz (blk (X2 + 1) #[(Value.int .i64) 0, (Value.int .i64) 0, (Value.int .i64) 0, (Value.int .i64) 0] 31 * (blk X2 #[(Value.int .i64) 0, Value.bool false, Value.bool false, (Value.int .i64) 0, Value.bool false, Value.bool false, (Value.int .i64) 0, .slice none 0 0, .slice none 0 0] 122 * (framesAt f s * R))) := hw.right.eq (by ac_rfl)
      exact bodyPost_ret (results_ctt Try.results37 rfl rfl rfl (load_map hw)) rfl ⟨none, 0, 0, by rw [HF.out.2.2]; rfl, by rw [HF.out.1, HF.out.2.1]; exact Has.rowNil hw2.right.right, xw⟩
end Go.Proofs.Ytmfheghbgihdmaa
namespace Go.Proofs.Ytmfheghbgihdmaa
open Go.RowKit
set_option maxRecDepth 100000
/-- A visit that may be. -/
structure VOk (v : Vis) : Prop where
  l0 : 0 ≤ v.lev
  l3 : v.lev ≤ 3
  a0 : 0 ≤ v.at_
  a4 : v.at_ * pow8 v.lev.toNat < 4096
def subM : Nat → Nat | 0 => 0 | L + 1 => most L
theorem most_eq (L : Nat) : most L = 8 * (1 + subM L) := by
  cases L with
  | zero => rfl
  | succ L => show 8 + 8 * most L = 8 * (1 + most L); omega
theorem range'_cons {i : Nat} (h : i < 8) : List.range' i (8 - i) = i :: List.range' (i + 1) (8 - (i + 1)) := by
  rw [show 8 - i = (8 - (i + 1)) + 1 by omega, List.range'_succ]
theorem scan_bad {s : Ms} {L : Nat} {t a : Int} {sub : Int → Int → Vs} {i : Nat} {is : List Nat} (h : decC (wordV s t i) L ≠ 0) : scanV s L t a sub (i :: is) = ⟨decC (wordV s t i) L, []⟩ := by
  rw [scanV, if_pos h]
theorem scan_plain {s : Ms} {L : Nat} {t a : Int} {sub : Int → Int → Vs} {i : Nat} {is : List Nat} (h : decC (wordV s t i) L = 0) (hn : ¬ ((decE (wordV s t i) L).there = true ∧ (decE (wordV s t i) L).leaf = false)) :
    scanV s L t a sub (i :: is) = ⟨(scanV s L t a sub is).code, ⟨t, L, a * 8 + i, decE (wordV s t i) L⟩ :: (scanV s L t a sub is).vs⟩ := by
  rw [scanV, if_neg (by rw [h]; simp)]
  dsimp only
  rw [if_neg hn]
  simp
theorem scan_sub {s : Ms} {L : Nat} {t a : Int} {sub : Int → Int → Vs} {i : Nat} {is : List Nat} (h : decC (wordV s t i) L = 0) (hn : (decE (wordV s t i) L).there = true ∧ (decE (wordV s t i) L).leaf = false)
    (hc : (sub (decE (wordV s t i) L).frame (a * 8 + i)).code = 0) :
    scanV s L t a sub (i :: is) = ⟨(scanV s L t a sub is).code, ⟨t, L, a * 8 + i, decE (wordV s t i) L⟩ :: ((sub (decE (wordV s t i) L).frame (a * 8 + i)).vs ++ (scanV s L t a sub is).vs)⟩ := by
  rw [scanV, if_neg (by rw [h]; simp)]
  dsimp only
  rw [if_pos hn, if_neg (by rw [hc]; simp)]
theorem scan_subbad {s : Ms} {L : Nat} {t a : Int} {sub : Int → Int → Vs} {i : Nat} {is : List Nat} (h : decC (wordV s t i) L = 0) (hn : (decE (wordV s t i) L).there = true ∧ (decE (wordV s t i) L).leaf = false)
    (hc : (sub (decE (wordV s t i) L).frame (a * 8 + i)).code ≠ 0) :
    scanV s L t a sub (i :: is) = ⟨(sub (decE (wordV s t i) L).frame (a * 8 + i)).code, ⟨t, L, a * 8 + i, decE (wordV s t i) L⟩ :: (sub (decE (wordV s t i) L).frame (a * 8 + i)).vs⟩ := by
  rw [scanV, if_neg (by rw [h]; simp)]
  dsimp only
  rw [if_pos hn, if_pos hc]
theorem sub_at {L : Nat} {a : Int} {i : Nat} (hL : L ≤ 3) (h0 : 0 ≤ a) (h : a * pow8 (L + 1) < 4096) (hi : i < 8) : 0 ≤ a * 8 + i ∧ (a * 8 + i) * pow8 L < 4096 ∧ a < 4096 := by
  refine ⟨by omega, bnd hL h0 h hi, ?_⟩
  have hp := pow8_pos' (L + 1)
  have : a * 1 ≤ a * pow8 (L + 1) := Int.mul_le_mul_of_nonneg_left (by omega) h0
  omega
section
variable (f : Nat) (s : Ms) (hs : s.Ok) (g : Nat) (cap : Array Value) (eg : ∀ args w, (callFunc g args).run Try.prog w = .ok (.enter g args) w) (I : List Vis → HProp) (B : Nat)
  (hsee : ∀ (P : HProp) (vs : List Vis) (v : Vis) (W : World), VOk v → vs.length < B → Has W (I vs * P) →
    Calls Try.prog g (#[(Value.int .i64) v.t, (Value.int .i64) v.lev, (Value.int .i64) v.at_, .agg #[Value.bool v.e.there, Value.bool v.e.leaf, (Value.int .i64) v.e.rights, Value.bool v.e.used, Value.bool v.e.dirty, (Value.int .i64) v.e.frame]] ++ cap) W (Res (.tuple #[]) (I (vs ++ [v]) * P) W))
include hs eg hsee
/-- What each comes to at a level. -/
def EachAt (L : Nat) : Prop := ∀ (R : HProp) (t a : Int) (vs0 : List Vis) (w : World), 0 ≤ a → a * pow8 (L + 1) < 4096 → vs0.length + most L ≤ B → Has w (I vs0 * (framesAt f s * R)) →
    Calls Try.prog 52 #[.pointer (some ⟨f, 0, none⟩), (Value.int .i64) t, (Value.int .i64) L, (Value.int .i64) a, .func (.func g) #[] cap] w (Res ((Value.int .i64) (eachV s L t a).code) (I (vs0 ++ (eachV s L t a).vs) * (framesAt f s * R)) w)
set_option maxHeartbeats 4000000 in
theorem each_step (L : Nat) (hL : L ≤ 3) (ih : ∀ K, L = K + 1 → EachAt f s g cap I B K) : EachAt f s g cap I B L := by
    intro R t a vs0 w ha ha4 hB h
    have IH := Lib.hid ih
    clear ih
    have HSEE := Lib.hid hsee
    have hmo := most_eq L
    go_enter Try.func52, Try.ntmps52
    go_wp2_with fail
    go_loopw [18] (fun s18 wr => ∃ (i : Nat) (vs : List Vis), i ≤ 8 ∧ s18 = (Value.int .i64) i ∧ vs.length ≤ i * (1 + subM L) ∧ (0 < i → s.has t = true) ∧
        Hid (s.has t = true → eachV s L t a = ⟨(scanV s L t a (subV s L) (List.range' i (8 - i))).code, vs ++ (scanV s L t a (subV s L) (List.range' i (8 - i))).vs⟩) ∧
        Has wr (I (vs0 ++ vs) * (framesAt f s * R)) ∧ Ext w wr) (fun s18 _ => 8 - (intOf s18).toNat)
    case atStart =>
      refine ⟨0, [], by omega, rfl, by simp, fun h => by omega, Lib.hid fun ht => ?_, by simpa using h, Ext.refl _⟩
      rw [eachV_eq, if_neg (by rw [ht]; simp), List.range_eq_range']
      rfl
    case round =>
      clear h
      obtain ⟨i, vs, hi, rfl, hvl, hti, HE, hr, hx⟩ := hrel
      by_cases hlt : i < 8
      · have hLD := loadF f s t i _ wr hr.p2
        cases ht : s.has t with
        | false =>
          have hi0 : i = 0 := by
            rcases Nat.eq_zero_or_pos i with h | h
            · exact h
            · rw [hti h] at ht; cases ht
          subst hi0
          have hv0 : vs = [] := List.eq_nil_of_length_eq_zero (by omega)
          subst hv0
          have hy := Lib.hid (show eachV s L t a = ⟨12, []⟩ by rw [eachV_eq, if_pos ht])
          have hw : s.hasW t ((0 : Nat) : Int) = false := by unfold Ms.hasW; rw [ht]; rfl
          rw [hw] at hLD
          clear hw ht hti HE
          generalize loadV s t ((0 : Nat) : Int) = v at *
          go_wp2_with fail
          refine hLD.mono ?_; rintro e w2 ⟨rfl, rfl⟩
          go_wp2_with fail
          go_ret
          rw [hy.out]
          exact ⟨rfl, hr, hx⟩
        | true =>
          have hw : s.hasW t (i : Int) = true := hasW_iff.2 ⟨ht, by omega, by omega⟩
          have hlv : loadV s t (i : Int) = wordV s t i := by unfold loadV wordV; rw [if_pos hw]
          rw [hw, hlv] at hLD
          clear hw hlv
          have hb := hs.inv.wok t.toNat ((i : Int)).toNat
          have HD := Lib.hid (fun W => decode_any (wordV s t i) L W hb.1 hb.2)
          clear hb
          have hEq := HE.out ht
          rw [range'_cons hlt] at hEq
          have HEQ := Lib.hid hEq
          clear hEq HE hti
          have HT := Lib.hid ht
          clear ht
          obtain ⟨hat0, hat4, ha6⟩ := sub_at hL ha ha4 hlt
          have hm1 : IntKind.i64.wrap (a * 8) = a * 8 := by rw [IntKind.wrap_i64]; omega
          have hm2 : IntKind.i64.wrap (a * 8 + i) = a * 8 + i := by rw [IntKind.wrap_i64]; omega
          by_cases hc : decC (wordV s t i) L = 0
          case neg =>
            have hy := Lib.hid (show eachV s L t a = ⟨decC (wordV s t i) L, vs⟩ by rw [HEQ.out, scan_bad hc]; simp)
            have hv := Lib.hid (decV_no (w := wordV s t i) (l := L) rfl (.inl hc))
            rw [hv.out] at HD
            have hn : (decC (wordV s t i) L != 0) = true := by simpa using hc
            clear hv hc HEQ
            generalize decC (wordV s t i) L = code at *
            generalize wordV s t i = v at *
            go_wp2_with fail
            refine hLD.mono ?_; rintro e w2 ⟨rfl, rfl⟩
            go_wp2_with fail
            refine (HD.out _).mono ?_; rintro e w2 ⟨rfl, b2⟩
            go_wp2_with fail
            go_ret
            rw [hy.out]
            exact ⟨rfl, (hr.below b2).alloc _, (hx.below b2).alloc _⟩
          have hp1 := Lib.hid (fun hn => scan_plain (a := a) (sub := subV s L) (is := List.range' (i + 1) (8 - (i + 1))) hc hn)
          have hp2 := Lib.hid (fun hn hk => scan_sub (a := a) (sub := subV s L) (is := List.range' (i + 1) (8 - (i + 1))) hc hn hk)
          have hp3 := Lib.hid (fun hn hk => scan_subbad (a := a) (sub := subV s L) (is := List.range' (i + 1) (8 - (i + 1))) hc hn hk)
          have hv := Lib.hid (show decV (wordV s t i) L = .tuple #[.agg #[Value.bool (decE (wordV s t i) L).there, Value.bool (decE (wordV s t i) L).leaf, (Value.int .i64) (decE (wordV s t i) L).rights, Value.bool (decE (wordV s t i) L).used, Value.bool (decE (wordV s t i) L).dirty, (Value.int .i64) (decE (wordV s t i) L).frame], (Value.int .i64) 0] by unfold decV; rw [hc])
          rw [hv.out] at HD
          have hK := Lib.hid (show (decE (wordV s t i) L).there = true ∧ (decE (wordV s t i) L).leaf = false → ∃ K, L = K + 1 by
            intro hn
            cases L with
            | zero =>
              rcases dec0_leaf hc with h | h
              · have := hn.1.symm.trans h
                cases this
              · have := hn.2.symm.trans h
                cases this
            | succ K => exact ⟨K, rfl⟩)
          clear hv hc
          have hvis : VOk ⟨t, L, a * 8 + i, decE (wordV s t i) L⟩ := ⟨by show (0 : Int) ≤ (L : Int); omega, by show (L : Int) ≤ 3; omega, hat0, hat4⟩
          have HS := fun P => HSEE.out P (vs0 ++ vs) ⟨t, L, a * 8 + i, decE (wordV s t i) L⟩
          generalize decE (wordV s t i) L = e at *
          have hbnd : (vs0 ++ vs).length < B := by
            have h1 := Nat.mul_le_mul_right (1 + subM L) (show i ≤ 7 by omega)
            have h2 : 8 * (1 + subM L) = 7 * (1 + subM L) + (1 + subM L) := by omega
            rw [List.length_append]
            omega
          generalize wordV s t i = v at *
          have HSA := Lib.hid (fun P W hW => HS P W hvis hbnd hW)
          clear HS hvis hbnd
          go_wp2_with fail
          refine hLD.mono ?_; rintro e2 w2 ⟨rfl, rfl⟩
          go_wp2_with fail
          refine (HD.out _).mono ?_; rintro e2 w2 ⟨rfl, b2⟩
          have h2 := hr.below b2
          have x2 := hx.below b2
          have h3 := (h2.new #[Value.bool e.there, Value.bool e.leaf, (Value.int .i64) e.rights, Value.bool e.used, Value.bool e.dirty, (Value.int .i64) e.frame] 51)
          have x3 := x2.alloc (.cells #[Value.bool e.there, Value.bool e.leaf, (Value.int .i64) e.rights, Value.bool e.used, Value.bool e.dirty, (Value.int .i64) e.frame] 51)
          have h3 := h3.p2
          clear hLD HD hr hx h2 x2 b2
          go_wp2_with fail
          refine (HSA.out _ _ h3).mono ?_; rintro e2 w5 ⟨rfl, h5, x5⟩
          have x5 := x3.trans x5
          obtain ⟨e0, e1, e2', e3, e4, e5⟩ := h5.right.cells6
          have el := h5.right.lt
          have hlen1 : i * (1 + subM L) + (1 + subM L) = (i + 1) * (1 + subM L) := by rw [Nat.add_mul, Nat.one_mul]
          have hv1 : vs0 ++ vs ++ [⟨t, L, a * 8 + i, e⟩] = vs0 ++ (vs ++ [⟨t, L, a * 8 + i, e⟩]) := List.append_assoc _ _ _
          have HV1 := Lib.hid hv1
          clear hv1 h3 x3
          by_cases hn : e.there = true ∧ e.leaf = false
          · obtain ⟨K, hLK⟩ := hK.out hn
            have hLKH := Lib.hid hLK
            have hwr : IntKind.i64.wrap ((L : Int) - 1) = (K : Int) := by rw [IntKind.wrap_i64]; omega
            have hlv : vs.length ≤ 7 * (1 + subM L) := Nat.le_trans hvl (Nat.mul_le_mul_right _ (by omega))
            have hIH := IH.out K hLK _ e.frame (a * 8 + i) (vs0 ++ (vs ++ [⟨t, (L : Int), a * 8 + i, e⟩])) w5 hat0 (by rw [← hLKH.out]; exact hat4) (by
              have hsm : subM L = most K := by rw [hLKH.out]; rfl
              rw [List.length_append, List.length_append, List.length_singleton]
              omega) (by
              rw [← HV1.out]
              exact h5.eq (by rw [star_left_comm (blk _ _ _)]))
            have hsub : subV s L = eachV s K := by rw [hLKH.out]; rfl
            have HP2 := Lib.hid (fun hk => hp2.out hn hk)
            have HP3 := Lib.hid (fun hk => hp3.out hn hk)
            rw [← hsub] at hIH
            have hrl := Lib.hid (show (subV s L e.frame (a * 8 + i)).vs.length ≤ most K by rw [hsub]; exact eachV_len s K e.frame (a * 8 + i))
            clear hLK hsub
            obtain ⟨n1, n2⟩ := hn
            generalize subV s L e.frame (a * 8 + i) = r at *
            go_wp2_with fail
            refine hIH.mono ?_; rintro e2 w6 ⟨rfl, h6, x6⟩
            have x6 := x5.trans x6
            by_cases hk : r.code = 0
            · have hfin := Lib.hid (HP2.out hk)
              go_wp2_with fail
              go_roundw
              case rel =>
                refine ⟨i + 1, vs ++ (⟨t, (L : Int), a * 8 + i, e⟩ :: r.vs), by omega, by go_num, ?_, by intros; first | trivial | exact HT.out, Lib.hid fun _ => ?_, ?_, x6⟩
                · have := hrl.out
                  have hsm : subM L = most K := by rw [hLKH.out]; rfl
                  rw [List.length_append, List.length_cons]
                  omega
                · rw [HEQ.out, hfin.out]
                  simp
                · have h7 := h6.p2.p2
                  have e7 : vs0 ++ (vs ++ [⟨t, (L : Int), a * 8 + i, e⟩]) ++ r.vs = vs0 ++ (vs ++ (⟨t, (L : Int), a * 8 + i, e⟩ :: r.vs)) := by simp
                  rw [e7] at h6
                  exact h6.drop3
              case measure => simp [intOf]; omega
            · have hfin := Lib.hid (HP3.out hk)
              have hkn : (r.code != 0) = true := by simpa using hk
              go_wp2_with fail
              go_ret
              rw [HEQ.out, hfin.out]
              have e7 : vs0 ++ (vs ++ [⟨t, (L : Int), a * 8 + i, e⟩]) ++ r.vs = vs0 ++ (vs ++ (⟨t, (L : Int), a * 8 + i, e⟩ :: r.vs)) := by simp
              rw [e7] at h6
              exact ⟨rfl, h6.drop3, x6⟩
          · have hfin := Lib.hid (hp1.out hn)
            rw [HV1.out] at h5
            have hcase : e.there = false ∨ (e.there = true ∧ e.leaf = true) := by
              cases h1 : e.there <;> cases h2 : e.leaf <;> simp_all
            have hround : ∀ wz, Has wz (I (vs0 ++ (vs ++ [⟨t, (L : Int), a * 8 + i, e⟩])) * (blk w2.heap.size #[Value.bool e.there, Value.bool e.leaf, (Value.int .i64) e.rights, Value.bool e.used, Value.bool e.dirty, (Value.int .i64) e.frame] 51 * (framesAt f s * R))) → Has wz (I (vs0 ++ (vs ++ [⟨t, (L : Int), a * 8 + i, e⟩])) * (framesAt f s * R)) := fun _ h => h.p2.right
            have HR := Lib.hid hround
            clear hround hn
            rcases hcase with h1 | ⟨h1, h2⟩
            · go_wp2_with fail
              go_roundw
              case rel =>
                refine ⟨i + 1, vs ++ [⟨t, (L : Int), a * 8 + i, e⟩], by omega, by go_num, by rw [List.length_append, List.length_singleton]; omega, by intros; first | trivial | exact HT.out, Lib.hid fun _ => ?_, HR.out _ h5, x5⟩
                rw [HEQ.out, hfin.out]
                simp
              case measure => simp [intOf]; omega
            · go_wp2_with fail
              go_roundw
              case rel =>
                refine ⟨i + 1, vs ++ [⟨t, (L : Int), a * 8 + i, e⟩], by omega, by go_num, by rw [List.length_append, List.length_singleton]; omega, by intros; first | trivial | exact HT.out, Lib.hid fun _ => ?_, HR.out _ h5, x5⟩
                rw [HEQ.out, hfin.out]
                simp
              case measure => simp [intOf]; omega
      · obtain rfl : i = 8 := by omega
        have hy := Lib.hid (HE.out (hti (by omega)))
        go_wp2_with fail
        go_ret
        rw [hy.out]
        exact ⟨rfl, by simpa [scanV] using hr, hx⟩
theorem each_any : ∀ (L : Nat), L ≤ 3 → EachAt f s g cap I B L
  | 0, h => each_step f s hs g cap eg I B hsee 0 h fun _ e => by cases e
  | L + 1, h => each_step f s hs g cap eg I B hsee (L + 1) h fun K e => by
    obtain rfl : L = K := by omega
    exact each_any L (by omega)
end
end Go.Proofs.Ytmfheghbgihdmaa
namespace Go.Proofs.Ytmfheghbgihdmaa
open Go.RowKit
set_option maxRecDepth 100000
def mpZero : Value := .agg #[(Value.int .i64) 0, (Value.int .i64) 0, (Value.int .i64) 0, (Value.int .i64) 0]
theorem elemMp : Elem Try.prog 31 mpZero 4 32 := ⟨by kernel_rfl, rfl, by omega⟩
theorem mp_len (x : Mp) : x.cells.length = 4 := rfl
/-- Cells of many mappings. -/
def mcells (l : List Mp) : List Value := flat Mp.cells l
theorem mcells_snoc (l : List Mp) (m : Mp) : mcells (l ++ [m]) = mcells l ++ m.cells := by unfold mcells; rw [flat_append]; simp [flat]
/-- A row of mappings. -/
def mrow (v : Value) (l : List Mp) : HProp := row 31 4 v l.length (mcells l)
theorem oneMp (x : Mp) : ∀ u ∈ x.cells, u.oneCell' = true := by
  intro u hx
  simp [Mp.cells] at hx
  rcases hx with rfl | rfl | rfl | rfl <;> rfl
theorem mrow_len {w : World} {R : HProp} {A : Option Addr} {n c : Nat} {l : List Mp} (h : Has w (mrow (.slice A n c) l * R)) : n = l.length := by
  rcases (Has.rowCases (e := 31) (size := 4) h) with ⟨hv, h0, _⟩ | ⟨g, cap, cur, hv, _⟩
  · injection hv with a b
    omega
  · injection hv
theorem mrow_small {w : World} {R : HProp} {A : Option Addr} {n c : Nat} {l : List Mp} (h : Has w (mrow (.slice A n c) l * R)) : n ≤ 9223372036854775807 := by
  obtain rfl := mrow_len h
  exact (Has.rowLens (e := 31) (size := 4) h).2
theorem mrow_at {w : World} {R : HProp} {A : Option Addr} {n c : Nat} {l : List Mp} (h : Has w (mrow (.slice A n c) l * R)) {k : Nat} (hk : k < l.length) :
    ∃ b, A = some ⟨b, 0, none⟩ ∧ b < w.heap.size ∧
      (w.cell? ⟨b, k * 4, none⟩ = some ((Value.int .i64) l[k].page) ∧ w.cell? ⟨b, k * 4 + 1, none⟩ = some ((Value.int .i64) l[k].size) ∧ w.cell? ⟨b, k * 4 + 2, none⟩ = some ((Value.int .i64) l[k].frame) ∧ w.cell? ⟨b, k * 4 + 3, none⟩ = some ((Value.int .i64) l[k].rights)) := by
  obtain rfl := mrow_len h
  have g := fun t (ht : t < 4) => Has.rowGet (e := 31) (size := 4) h (i := k * 4 + t) (u := (l[k].cells[t]'(by rw [mp_len]; exact ht))) (by
    have := flat_get (cells := Mp.cells) mp_len hk ht
    rw [List.getElem?_eq_getElem (l := l[k].cells) (by rw [mp_len]; exact ht)] at this
    exact this)
  obtain ⟨b, rfl, hb, c0, _⟩ := g 0 (by omega)
  obtain ⟨b1, e1, _, c1, _⟩ := g 1 (by omega)
  obtain ⟨b2, e2, _, c2, _⟩ := g 2 (by omega)
  obtain ⟨b3, e3, _, c3, _⟩ := g 3 (by omega)
  injection e1 with e1; injection e1 with e1; subst e1
  injection e2 with e2; injection e2 with e2; subst e2
  injection e3 with e3; injection e3 with e3; subst e3
  exact ⟨b, rfl, hb, c0, c1, c2, c3⟩
theorem sameMaps_any (l : List Mp) (A B : Option Addr) (n c n' c' : Nat) (R : HProp) (w : World) (h : Has w (mrow (.slice A n c) l * (mrow (.slice B n' c') l * R))) :
    Calls Try.prog 10 #[.slice A n c, .slice B n' c'] w (Pure (Value.bool true) w) := by
  have hn := mrow_len h
  have hn' := mrow_len h.right
  subst hn
  subst hn'
  have hbig := mrow_small h
  go_enter Try.func10, Try.ntmps10
  go_wp2_with fail
  go_loopw [5] (fun s5 wr => ∃ i : Nat, i ≤ l.length ∧ s5 = (Value.int .i64) i ∧ Below w.heap.size w wr) (fun s5 _ => l.length - (intOf s5).toNat)
  case atStart => exact ⟨0, Nat.zero_le _, rfl, Below.refl _ _⟩
  case round =>
    obtain ⟨i, hi, rfl, BW⟩ := hrel
    have h' := h.below BW
    clear h
    have BW' := Lib.hid BW
    clear BW
    by_cases hlt : i < l.length
    · obtain ⟨b, rfl, hb, c0, c1, c2, c3⟩ := mrow_at h' hlt
      obtain ⟨b', rfl, hb', d0, d1, d2, d3⟩ := mrow_at h'.right hlt
      clear h'
      generalize l[i] = x at c0 c1 c2 c3 d0 d1 d2 d3
      have v0 := via_cell c0
      have v1 := via_cell c1
      have v2 := via_cell c2
      have v3 := via_cell c3
      have u0 := via_cell d0
      have u1 := via_cell d1
      have u2 := via_cell d2
      have u3 := via_cell d3
      clear c0 c1 c2 c3 d0 d1 d2 d3
      go_wp2_with fail
      refine wp_region_via (by kernel_rfl) (by kernel_rfl) ?_
      repeat (first | go_big_quiet_step (fail) | quiet_step (fail))
      refine wpQuiet_nil ?_
      intro _ hw'
      obtain ⟨uq, hw''⟩ := hw'
      subst hw''
      go_wp2_with fail
      go_roundw
      case rel => exact ⟨i + 1, by omega, by go_num, BW'.out.trans ((via_below _ _).mono BW'.out.size)⟩
      case measure => simp [intOf]; omega
    · go_wp2_with fail
      go_ret
      exact ⟨rfl, BW'.out⟩
end Go.Proofs.Ytmfheghbgihdmaa
namespace Go.Proofs.Ytmfheghbgihdmaa
open Go.RowKit
set_option maxRecDepth 100000
/-- What List has gathered, at block O. -/
def gathM (O : Nat) (vs : List Vis) : HProp := ex fun A => ex fun c => blk O #[.slice A (mapsOf vs).length c] 43 * mrow (.slice A (mapsOf vs).length c) (mapsOf vs)
theorem gathM_open {O : Nat} {vs : List Vis} {P : HProp} {w : World} (h : Has w (gathM O vs * P)) : ∃ A c, Has w (blk O #[.slice A (mapsOf vs).length c] 43 * (mrow (.slice A (mapsOf vs).length c) (mapsOf vs) * P)) := by
  unfold gathM at h
  obtain ⟨A, h⟩ := has_ex_star.1 h
  obtain ⟨c, h⟩ := has_ex_star.1 h
  exact ⟨A, c, h.a1⟩
theorem gathM_shut {O c : Nat} {A : Option Addr} {vs : List Vis} {P : HProp} {w : World} (h : Has w (blk O #[.slice A (mapsOf vs).length c] 43 * (mrow (.slice A (mapsOf vs).length c) (mapsOf vs) * P))) : Has w (gathM O vs * P) := by
  unfold gathM
  exact has_ex_star.2 ⟨A, has_ex_star.2 ⟨c, h.a2⟩⟩
theorem mapsOf_len (vs : List Vis) : (mapsOf vs).length ≤ vs.length := List.length_filterMap_le _ _
theorem pow8_mono {i j : Nat} (h : i ≤ j) : pow8 i ≤ pow8 j := by
  induction h with
  | refl => exact Int.le_refl _
  | step _ ih => rw [pow8_succ]; have := pow8_pos' i; omega
set_option maxHeartbeats 2000000 in
theorem seeM (O : Nat) (P : HProp) (vs : List Vis) (v : Vis) (W : World) (hv : VOk v) (hl : vs.length < 5000) (h : Has W (gathM O vs * P)) :
    Calls Try.prog 53 #[(Value.int .i64) v.t, (Value.int .i64) v.lev, (Value.int .i64) v.at_, .agg #[Value.bool v.e.there, Value.bool v.e.leaf, (Value.int .i64) v.e.rights, Value.bool v.e.used, Value.bool v.e.dirty, (Value.int .i64) v.e.frame], .pointer (some ⟨O, 0, none⟩)] W (Res (.tuple #[]) (gathM O (vs ++ [v]) * P) W) := by
  obtain ⟨A, c, h⟩ := gathM_open h
  have hml := mapsOf_len vs
  obtain ⟨t, lev, at_, ⟨th, lf, rg, us, di, fr⟩⟩ := v
  obtain ⟨l0, l3, ha0, ha4⟩ := hv
  dsimp only at *
  have h1 := h.new #[Value.bool th, Value.bool lf, (Value.int .i64) rg, Value.bool us, Value.bool di, (Value.int .i64) fr] 51
  have x1 := (Ext.refl W).alloc (.cells #[Value.bool th, Value.bool lf, (Value.int .i64) rg, Value.bool us, Value.bool di, (Value.int .i64) fr] 51)
  obtain ⟨e0, e1, e2, e3, e4, e5⟩ := h1.cells6
  have el := h1.lt
  cases lf with
  | false =>
    have hm : mapsOf (vs ++ [⟨t, lev, at_, ⟨th, false, rg, us, di, fr⟩⟩]) = mapsOf vs := by rw [mapsOf_append]; simp [mapsOf]
    have hfin : Has (W.alloc (.cells #[Value.bool th, Value.bool false, (Value.int .i64) rg, Value.bool us, Value.bool di, (Value.int .i64) fr] 51)) (gathM O (vs ++ [⟨t, lev, at_, ⟨th, false, rg, us, di, fr⟩⟩]) * P) := by
      refine gathM_shut (A := A) (c := c) ?_
      rw [hm]
      exact h1.right
    go_enter Try.func53, Try.ntmps53
    go_wp2_with fail
    exact bodyPost_ret (v := .tuple #[]) (by simp [results, Try.results53]) rfl ⟨rfl, hfin, x1⟩
  | true =>
    obtain ⟨k, rfl⟩ := Int.eq_ofNat_of_zero_le l0
    have hk3 : k ≤ 3 := by omega
    rw [Int.toNat_natCast] at ha4
    have hm := Lib.hid (show mapsOf (vs ++ [⟨t, k, at_, ⟨th, true, rg, us, di, fr⟩⟩]) = mapsOf vs ++ [leafMap ⟨th, true, rg, us, di, fr⟩ k (at_ * pow8 k)] by rw [mapsOf_append]; simp [mapsOf])
    have HE := Lib.hid (entMap_any ⟨th, true, rg, us, di, fr⟩ k (at_ * pow8 k))
    generalize leafMap ⟨th, true, rg, us, di, fr⟩ k (at_ * pow8 k) = m at *
    go_enter Try.func53, Try.ntmps53
    go_wp2_with fail
    go_loopw [9, 14] (fun s9 s14 wr => ∃ j : Nat, j ≤ k ∧ s14 = (Value.int .i64) j ∧ s9 = (Value.int .i64) (at_ * pow8 j) ∧ (W.alloc (.cells #[Value.bool th, Value.bool true, (Value.int .i64) rg, Value.bool us, Value.bool di, (Value.int .i64) fr] 51)) = wr) (fun _ s14 _ => k - (intOf s14).toNat)
    case atStart => exact ⟨0, Nat.zero_le _, rfl, by simp [pow8], rfl⟩
    case round =>
      obtain ⟨j, hj, rfl, rfl, rfl⟩ := hrel
      by_cases hlt : j < k
      · have hpw : at_ * pow8 j * 8 = at_ * pow8 (j + 1) := by rw [pow8_succ, Int.mul_assoc, Int.mul_comm (pow8 j) 8]
        have hle : at_ * pow8 (j + 1) ≤ at_ * pow8 k := Int.mul_le_mul_of_nonneg_left (pow8_mono (by omega)) ha0
        have hge : 0 ≤ at_ * pow8 (j + 1) := Int.mul_nonneg ha0 (Int.le_of_lt (pow8_pos' _))
        have hwr : IntKind.i64.wrap (at_ * pow8 j * 8) = at_ * pow8 (j + 1) := by rw [hpw, IntKind.wrap_i64]; omega
        clear hpw hle hge
        go_wp2_with fail
        go_roundw
        case rel => exact ⟨j + 1, by omega, by go_num, rfl, trivial⟩
        case measure => simp [intOf]; omega
      · obtain rfl : j = k := by omega
        have c0 : (W.alloc (.cells #[Value.bool th, Value.bool true, (Value.int .i64) rg, Value.bool us, Value.bool di, (Value.int .i64) fr] 51)).cell? ⟨O, 0, none⟩ = some (.slice A (mapsOf vs).length c) := h1.right.cell 0
        generalize at_ * pow8 j = pg at *
        generalize W.alloc (.cells #[Value.bool th, Value.bool true, (Value.int .i64) rg, Value.bool us, Value.bool di, (Value.int .i64) fr] 51) = w4 at *
        generalize W.heap.size = E at *
        go_wp2_with fail
        refine region_L (S := fun L w' => Till 6 0 (fun w' => w'.cell? ⟨O, 0, none⟩ = some (.slice A (mapsOf vs).length c)) L w' ∧ Till 4 1 (fun w' => w'.cell? ⟨E, 0, none⟩ = some (Value.bool th) ∧ w'.cell? ⟨E, 1, none⟩ = some (Value.bool true) ∧ w'.cell? ⟨E, 2, none⟩ = some ((Value.int .i64) rg) ∧ w'.cell? ⟨E, 3, none⟩ = some (Value.bool us) ∧ w'.cell? ⟨E, 4, none⟩ = some (Value.bool di) ∧ w'.cell? ⟨E, 5, none⟩ = some ((Value.int .i64) fr)) L w') (by kernel_rfl) ⟨Till.start c0, Till.start ⟨e0, e1, e2, e3, e4, e5⟩⟩ (fun hHeld => ?_)
        refine anyL_take (i := 0) (v := ?_) rfl (by kernel_rfl) (by kernel_rfl) (by kernel_rfl) (fun _ _ _ h => h) (Good.and (Good.till (by decide) ⟨_, ⟨0, .data⟩, rfl, by simp, rfl, rfl⟩) (Good.till (by decide) ⟨_, ⟨1, .data⟩, rfl, by simp, rfl, rfl⟩)) (Or.inl ⟨by kernel_rfl, ?_⟩) hHeld (fun hHeld => ?_)
        rotate_left
        focus (intro wS hSw; obtain ⟨Lx, hLx, hs1, hs2⟩ := hSw; have cS := hs1.still hLx; go_simp; first | done | with_reducible rfl)
        try go_simp
        refine anyL_take (i := 1) (v := ?_) rfl (by kernel_rfl) (by kernel_rfl) (by kernel_rfl) (fun _ _ _ h => h) (Good.and (Good.till (by decide) ⟨_, ⟨0, .data⟩, rfl, by simp, rfl, rfl⟩) (Good.till (by decide) ⟨_, ⟨1, .data⟩, rfl, by simp, rfl, rfl⟩)) (Or.inl ⟨by kernel_rfl, ?_⟩) hHeld (fun hHeld => ?_)
        rotate_left
        focus (intro wS hSw; obtain ⟨Lx, hLx, hs1, hs2⟩ := hSw; obtain ⟨s0, s1, s2, s3, s4, s5⟩ := hs2.still hLx; go_simp; first | done | with_reducible rfl)
        try go_simp
        refine anyL_take (i := 2) (v := ?_) rfl (by kernel_rfl) (by kernel_rfl) (by kernel_rfl) (fun _ _ _ h => h) (Good.and (Good.till (by decide) ⟨_, ⟨0, .data⟩, rfl, by simp, rfl, rfl⟩) (Good.till (by decide) ⟨_, ⟨1, .data⟩, rfl, by simp, rfl, rfl⟩)) (Or.inl ⟨by kernel_rfl, ?_⟩) hHeld (fun hHeld => ?_)
        rotate_left
        focus (intro wS hSw; obtain ⟨Lx, hLx, hs1, hs2⟩ := hSw; skip; go_simp; first | done | with_reducible rfl)
        try go_simp
        refine anyL_take (i := 3) (v := ?_) rfl (by kernel_rfl) (by kernel_rfl) (by kernel_rfl) (fun _ _ _ h => h) (Good.and (Good.till (by decide) ⟨_, ⟨0, .data⟩, rfl, by simp, rfl, rfl⟩) (Good.till (by decide) ⟨_, ⟨1, .data⟩, rfl, by simp, rfl, rfl⟩)) (Or.inl ⟨by kernel_rfl, ?_⟩) hHeld (fun hHeld => ?_)
        rotate_left
        focus (intro wS hSw; obtain ⟨Lx, hLx, hs1, hs2⟩ := hSw; skip; go_simp; first | done | with_reducible rfl)
        try go_simp
        refine anyL_ready (rs := [4]) (by kernel_rfl) (by simp) ?_
        refine OneOf.cons rfl (fun K hK => ?_) OneOf.nil
        go_simp
        go_wp2_with (refine (HE.out _).mono ?_; rintro e2 w5 ⟨rfl, b5⟩)
        have h5 := (h1.drew.right.below b5)
        have x5 := x1.drew.below b5
        refine hK.out _ _ ⟨⟨fun _ => by kernel_rfl, fun _ => h5.cell 0⟩, ⟨fun _ => by kernel_rfl, fun h => till_gone (by kernel_rfl) h⟩⟩ (fun hHeld => ?_)
        clear hK K
        refine anyL_ready (rs := [5]) (by kernel_rfl) (by simp) ?_
        refine OneOf.cons rfl (fun K hK => ?_) OneOf.nil
        go_simp
        have h6 := (h5.p2).alloc (.cells #[(Value.int .i64) m.page, (Value.int .i64) m.size, (Value.int .i64) m.frame, (Value.int .i64) m.rights] 31)
        refine hK.out _ _ ⟨⟨fun _ => by kernel_rfl, fun _ => h6.right.cell 0⟩, ⟨fun _ => by kernel_rfl, fun h => till_gone (by kernel_rfl) h⟩⟩ (fun hHeld => ?_)
        clear hK K
        refine anyL_ready (rs := [6]) (by kernel_rfl) (by simp) ?_
        refine OneOf.cons rfl (fun K hK => ?_) OneOf.nil
        refine step_append_has rfl (.tmp 19) (.tmp 24) 43 rfl Try.underlying43 elemMp _ _ _ (by simp [Act.eval]) h6 ⟨w5.heap.size, 0, none⟩ 1 1 m.cells (by simp [Act.eval]) rfl (news_many w5 m.cells 31) (oneMp m) (by unfold maxLen; omega) (by omega) ?_
        intro A' c' w7 h7 x7
        try go_simp
        refine hK.out _ _ ⟨⟨fun _ => by kernel_rfl, fun h => till_gone (by kernel_rfl) h⟩, ⟨fun _ => by kernel_rfl, fun h => till_gone (by kernel_rfl) h⟩⟩ (fun hHeld => ?_)
        clear hK K
        have y0 := h7.right.cell 0
        have y1 := h7.right.free 0
        have yl := h7.right.lt
        refine anyL_ready (rs := [7]) (by kernel_rfl) (by simp) ?_
        refine OneOf.cons rfl (fun K hK => ?_) OneOf.nil
        go_simp
        refine hK.out _ _ ⟨⟨fun _ => by kernel_rfl, fun h => till_gone (by kernel_rfl) h⟩, ⟨fun _ => by kernel_rfl, fun h => till_gone (by kernel_rfl) h⟩⟩ (fun hHeld => ?_)
        clear hK K
        refine anyL_done (by kernel_rfl) ?_
        have hfin : Has (w7.setCell ⟨O, 0, none⟩ (.slice A' ((mapsOf vs).length + 1) c')) (gathM O (vs ++ [⟨t, j, at_, ⟨th, true, rg, us, di, fr⟩⟩]) * P) := by
          refine gathM_shut (A := A') (c := c') ?_
          unfold mrow
          rw [hm.out, mcells_snoc, List.length_append, List.length_singleton]
          exact h7.p2.set 0 _
        go_wp2_with fail
        exact bodyPost_ret (v := .tuple #[]) (by simp [results, Try.results53]) rfl ⟨rfl, hfin, ((x5.alloc _).trans x7).set _ _⟩
/-- What List hands back. -/
def listM (y : Vs) : List Mp := if y.code = 0 then mapsOf y.vs else []
def ListedM (y : Vs) (R : HProp) (w : World) (e : Ending) (w' : World) : Prop :=
  ∃ A c, e = .returned (.tuple #[.slice A (listM y).length c, (Value.int .i64) y.code]) ∧ Has w' (mrow (.slice A (listM y).length c) (listM y) * R) ∧ Ext w w'
theorem list_any (f : Nat) (s : Ms) (root : Int) (R : HProp) (w : World) (hs : s.Ok) (h : Has w (framesAt f s * R)) :
    Calls Try.prog 28 #[.pointer (some ⟨f, 0, none⟩), (Value.int .i64) root] w (ListedM (eachV s 3 root 0) (framesAt f s * R) w) := by
  have hmf : ∀ (fn : Fn) (first cap : Array Value) (w : World), (Instr.makeFunc fn first cap).run Try.prog w = .ok (.func fn first cap) w := fun _ _ _ _ => rfl
  have h1 := h.new #[.slice none 0 0] 43
  have h2 : Has (w.alloc (.cells #[.slice none 0 0] 43)) (gathM w.heap.size [] * (framesAt f s * R)) := gathM_shut (A := none) (c := 0) (Has.p2 (Has.rowNil h1))
  have x1 := (Ext.refl w).alloc (.cells #[.slice none 0 0] 43)
  have hE := each_any f s hs 53 #[.pointer (some ⟨w.heap.size, 0, none⟩)] (enters_of Try.func53 (by kernel_rfl) rfl) (gathM w.heap.size) 5000
    (fun P vs v W hv hl h => seeM w.heap.size P vs v W hv hl h) 3 (by omega) R root 0 [] _ (by omega) (by decide) (by decide) h2
  rw [List.nil_append] at hE
  have hln := Lib.hid (show (listM (eachV s 3 root 0)) = if (eachV s 3 root 0).code = 0 then mapsOf (eachV s 3 root 0).vs else [] from rfl)
  generalize eachV s 3 root 0 = y at *
  by_cases hc : y.code = 0
  · have hm : listM y = mapsOf y.vs := by rw [hln.out, if_pos hc]
    have HM := Lib.hid hm
    clear hm
    go_enter Try.func28, Try.ntmps28
    go_wp2_with (refine hE.mono ?_; rintro e w2 ⟨rfl, h3, x3⟩; obtain ⟨A, c, h4⟩ := gathM_open h3; have c0 := h4.cell 0; have cl := h4.lt)
    exact bodyPost_ret (v := .tuple #[.slice A (mapsOf y.vs).length c, (Value.int .i64) 0]) (by simp [results, Try.results28]) rfl ⟨A, c, by rw [HM.out, hc], by rw [HM.out]; exact h4.right, x1.trans x3⟩
  · have hm : listM y = [] := by rw [hln.out, if_neg hc]
    have HM := Lib.hid hm
    have hn : (y.code != 0) = true := by simpa using hc
    clear hm
    go_enter Try.func28, Try.ntmps28
    go_wp2_with (refine hE.mono ?_; rintro e w2 ⟨rfl, h3, x3⟩)
    exact bodyPost_ret (v := .tuple #[.slice none 0 0, (Value.int .i64) y.code]) (by simp [results, Try.results28]) rfl ⟨none, 0, by rw [HM.out]; rfl, by rw [HM.out]; exact Has.rowNil h3.right, x1.trans x3⟩
end Go.Proofs.Ytmfheghbgihdmaa
namespace Go.Proofs.Ytmfheghbgihdmaa
open Go.RowKit
def frA (f : Nat) (s : Ms) : HProp := ex fun s' => lift (s'.Ok ∧ Agree s' s) * framesAt f s'
section
variable {f : Nat} {s : Ms} {R : HProp} {w : World}
theorem frA_open (h : Has w (frA f s * R)) : ∃ s', s'.Ok ∧ Agree s' s ∧ Has w (framesAt f s' * R) := by
  unfold frA at h
  obtain ⟨s', h⟩ := has_ex_star.1 h
  rw [star_assoc] at h
  obtain ⟨⟨a, b⟩, h⟩ := has_lift.1 h
  exact ⟨s', a, b, h⟩
theorem frA_shut {s' : Ms} (h : Has w (framesAt f s' * R)) (ho : s'.Ok) (ha : Agree s' s) : Has w (frA f s * R) := by
  unfold frA
  refine has_ex_star.2 ⟨s', ?_⟩
  rw [star_assoc]
  exact has_lift.2 ⟨⟨ho, ha⟩, h⟩
end
section
variable (f : Nat) (s : Ms) (R : HProp) (w : World) (h : Has w (frA f s * R))
include h
theorem insA (root : Int) (x : Mp) : Calls Try.prog 36 #[.pointer (some ⟨f, 0, none⟩), (Value.int .i64) root, .agg #[(Value.int .i64) x.page, (Value.int .i64) x.size, (Value.int .i64) x.frame, (Value.int .i64) x.rights]] w (Res ((Value.int .i64) (insC s root x)) (frA f (insS s root x) * R) w) := by
  obtain ⟨s', ho, ha, h'⟩ := frA_open h
  refine (insT f s' root x R w ho h').mono ?_
  rintro e w' ⟨s2, ho2, ha2, he, h2, x2⟩
  rw [ha.insC] at he
  exact ⟨he, frA_shut h2 ho2 (ha2.trans (ha.insS root x)), x2⟩
omit h in
/-- What Remove comes to. -/
def RemovedA (f : Nat) (s : Ms) (r p : Int) (R : HProp) (w : World) (e : Ending) (w' : World) : Prop :=
  ∃ A n c, Res (.tuple #[(findM s r p).val, .slice A n c, (Value.int .i64) (findC s r p)]) (irow (.slice A n c) (remG s r p) * (frA f (remS s r p) * R)) w e w'
theorem remA (root p : Int) : Calls Try.prog 37 #[.pointer (some ⟨f, 0, none⟩), (Value.int .i64) root, (Value.int .i64) p] w (RemovedA f s root p R w) := by
  obtain ⟨s', ho, ha, h'⟩ := frA_open h
  refine (remT f s' root p R w ho h').mono ?_
  rintro e w' ⟨A, n, c, he, h2, x2⟩
  obtain ⟨ag, eg⟩ := ha.rem root p
  rw [ha.findC, ha.findM] at he
  rw [eg] at h2
  exact ⟨A, n, c, he, (frA_shut h2.p2 (remS_ok ho root p) ag).p2, x2⟩
theorem prA (root p ri : Int) : Calls Try.prog 39 #[.pointer (some ⟨f, 0, none⟩), (Value.int .i64) root, (Value.int .i64) p, (Value.int .i64) ri] w (Res (.tuple #[(prM s root p ri).val, (Value.int .i64) (prC s root p ri)]) (frA f (prS s root p ri) * R) w) := by
  obtain ⟨s', ho, ha, h'⟩ := frA_open h
  refine (prT f s' root p ri R w ho h').mono ?_
  rintro e w' ⟨he, h2, x2⟩
  obtain ⟨ag, ec, em⟩ := ha.pr root p ri
  rw [ec, em] at he
  exact ⟨he, frA_shut h2 (prS_ok ho root p ri) ag, x2⟩
theorem findA (root p : Int) : Calls Try.prog 32 #[.pointer (some ⟨f, 0, none⟩), (Value.int .i64) root, (Value.int .i64) p] w (Pure (.tuple #[(findM s root p).val, enV (findE s root p), (Value.int .i64) (findC s root p)]) w) := by
  obtain ⟨s', ho, ha, h'⟩ := frA_open h
  refine (findTb f s' root p R w ho h').mono ?_
  rintro e w' hp
  rw [ha.findC, ha.findM, ha.findE] at hp
  exact hp
theorem giveA (k : Int) : Calls Try.prog 50 #[.pointer (some ⟨f, 0, none⟩), .int .i64 k] w (Res (Value.bool (s.has k)) (frA f (s.giveS k) * R) w) := by
  obtain ⟨s', ho, ha, h'⟩ := frA_open h
  refine (giveF f s' k R w h' ho).mono ?_
  rintro e w' ⟨he, h2, x2⟩
  rw [ha.has] at he
  exact ⟨he, frA_shut h2 (ho.giveS k) (ha.giveS k), x2⟩
theorem takeA : Calls Try.prog 18 #[.pointer (some ⟨f, 0, none⟩)] w (Res ((Value.int .i64) s.topV) (frA f s.takeS * R) w) := by
  obtain ⟨s', ho, ha, h'⟩ := frA_open h
  refine (takeF f s' R w h' ho).mono ?_
  rintro e w' ⟨he, h2, x2⟩
  have : s'.topV = s.topV := by unfold Ms.topV; rw [ha.top]
  rw [this] at he
  exact ⟨he, frA_shut h2 ho.takeS ha.takeS, x2⟩
theorem freeA : Calls Try.prog 29 #[.pointer (some ⟨f, 0, none⟩)] w (Same ((Value.int .i64) (s.frees.length : Nat)) w) := by
  obtain ⟨s', ho, ha, h'⟩ := frA_open h
  have := freeF f s' R w h'
  rw [ha.fr] at this
  exact this
theorem listA (root : Int) : Calls Try.prog 28 #[.pointer (some ⟨f, 0, none⟩), (Value.int .i64) root] w (ListedM (eachV s 3 root 0) (frA f s * R) w) := by
  obtain ⟨s', ho, ha, h'⟩ := frA_open h
  have := list_any f s' root R w ho h'
  rw [ha.eachV] at this
  refine this.mono ?_
  rintro e w' ⟨A, c, he, h2, x2⟩
  exact ⟨A, c, he, (frA_shut h2.p2 ho ha).p2, x2⟩
end
end Go.Proofs.Ytmfheghbgihdmaa
