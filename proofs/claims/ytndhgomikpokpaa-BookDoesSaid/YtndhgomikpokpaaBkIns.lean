/- The contract of slices.Insert at mappings: one that lies in a block of its own. -/
import Derived.Test.YtndhgomikpokpaaBkSl
import Derived.Shelf.Spec.SlicesInsert
import Derived.Laws.NewBlocks
import Derived.Lib.AppendZerosOnto
namespace Go.Proofs.Ytndhgomikpokpaa
open Go.RowKit
set_option maxRecDepth 100000

def Inserted (l : List Mp) (R : HProp) (w : World) (e : Ending) (w' : World) : Prop := ∃ A c, e = .returned (.slice A l.length c) ∧ Has w' (mrow (.slice A l.length c) l * R) ∧ Ext w w'
/-- At the end. -/
theorem insert_end (l : List Mp) (m : Mp) (n c V : Nat) (A : Option Addr) (R : HProp) (w : World) (hbig : l.length ≤ 1000000)
    (h : Has w (mrow (.slice A n c) l * (blk V #[(Value.int .i64) m.page, (Value.int .i64) m.size, (Value.int .i64) m.frame, (Value.int .i64) m.rights] 27 * R))) :
    Calls Try.prog 95 #[.slice A n c, .int .i64 l.length, .slice (some ⟨V, 0, none⟩) 1 1] w (Inserted (l ++ [m]) R w) := by
  obtain rfl := mrow_len h
  obtain ⟨hb1, hb2⟩ := mrow_small2 h
  have hrow : Has w (row 27 4 (.slice A l.length c) l.length (mcells l) * (blk V #[(Value.int .i64) m.page, (Value.int .i64) m.size, (Value.int .i64) m.frame, (Value.int .i64) m.rights] 27 * R)) := h
  have hne : Hid (∀ j u, m.cells[j]? = some u → w.cell? ((⟨V, 0, none⟩ : Addr).add j) = some u) := fun j u hu => by
    rw [Addr.add_lit, Nat.zero_add, h.right.cell]
    simpa [Mp.cells] using hu
  go_enter Try.func95, Try.ntmps95
  go_wp2_with (at_builtin; refine wpList_append_has rfl _ _ 35 rfl Try.underlying35 elemMp _ _ _ rfl hrow ⟨V, 0, none⟩ 1 1 m.cells rfl rfl hne.out (oneMp m) (by unfold maxLen; omega) (by omega) ?_)
  all_goals
    intro v' w2 h' x'
    obtain ⟨A', c', rfl⟩ := h'.rowForm
    go_wp2_with fail
    go_ret
    refine ⟨A', c', by rw [List.length_append]; rfl, ?_, x'⟩
    unfold mrow
    rw [List.length_append, mcells_snoc]
    exact h'.p2.right
/-- In place: there is room. -/
theorem insert_shift (l : List Mp) (m : Mp) (n c V i g : Nat) (R : HProp) (w : World) (hbig : l.length ≤ 1000000) (hi : i < l.length) (hc : l.length + 1 ≤ c)
    (h : Has w (mrow (.slice (some ⟨g, 0, none⟩) n c) l * (blk V #[(Value.int .i64) m.page, (Value.int .i64) m.size, (Value.int .i64) m.frame, (Value.int .i64) m.rights] 27 * R))) :
    Calls Try.prog 95 #[.slice (some ⟨g, 0, none⟩) n c, .int .i64 i, .slice (some ⟨V, 0, none⟩) 1 1] w (Inserted (l.take i ++ m :: l.drop i) R w) := by
  obtain rfl := mrow_len h
  obtain ⟨hb1, hb2⟩ := mrow_small2 h
  obtain ⟨hn1, cur, hcg, h1, h2, h3, h4, hb⟩ := Has.rowAt (e := 27) (size := 4) h (by omega)
  injection hcg with hcg
  injection hcg with hcg
  subst hcg
  have hc63 : c ≤ 9223372036854775807 := by unfold maxLen at h2; omega
  have hVg : V ≠ g := fun e => by
    have := hb.ne
    exact this e.symm
  have hsV : w.shape? V = some (27, 4) := by
    have := h.right.heap
    simp [World.shape?, this]
  have hsg : w.shape? g = some (27, c * 4) := by
    have := hb.heap
    simp [World.shape?, this, h3]
  have hfa := h.right.free 0
  have hfe := h.right.free 4
  have hov : ∀ lb cb, (callFunc 137 #[.slice (some ⟨V, 0, none⟩) 1 1, .slice (some ⟨g, (i + 1) * 4, none⟩) lb cb]).run Try.prog w = .ok (.value (.bool false)) w := fun lb cb => by
    rw [run_callFunc_extern Try.func137 (by kernel_rfl) (by kernel_rfl) (by kernel_rfl) (e := Extern.SlicesOverlaps.overlaps #[35, 35] #[4]) (by kernel_rfl),
      Lib.run_overlaps_apart w 35 4 27 Try.underlying35 4 (by intro w; rfl) ⟨V, 0, none⟩ ⟨g, (i + 1) * 4, none⟩ 1 1 lb cb hVg _ _ 4 (c * 4) hsV hsg (by omega) hfa hfe]
    rfl
  have hi0 := h
  have hdl : ((mcells l).drop (i * 4)).length = (l.length - i) * 4 := by rw [List.length_drop, mcells_len]; omega
  have hcap := mrow_small2 h
  -- every cell of its room is there
  have hcell : ∀ k, k < c * 4 → (w.cell? ⟨g, k, none⟩).isSome = true := fun k hk => by
    rw [hb.cell, Array.getElem?_eq_getElem (by omega)]; rfl
  have hfree : ∀ k, w.frozen? ⟨g, k, none⟩ = false := fun k => hb.free k
  have hsz : (Try.prog.info? 27).map (·.size) = some 4 := by
    obtain ⟨i0, hi0, _, hz, _⟩ := info_parts info_mp
    rw [hi0]; simp [hz]
  have hcp1 : ∀ ty dc sc, (Builtin.copy_ #[35, 35] ty #[.slice (some ⟨g, (i + 1) * 4, none⟩) (l.length - i) dc, .slice (some ⟨g, i * 4, none⟩) (l.length + 1 - i) sc]).run Try.prog w.drew = .ok (goInt (l.length - i : Nat)) (w.drew.setCells g ((i + 1) * 4) ((mcells l).drop (i * 4))) := fun ty dc sc =>
    run_copy_many w.drew _ _ ty 27 g ((i + 1) * 4) (l.length - i) dc ⟨g, i * 4, none⟩ (l.length + 1 - i) sc 4 (l.length - i) ((mcells l).drop (i * 4)) Try.underlying35 hsz (by simp only [Nat.min_def]; split <;> omega) hdl
      (fun j v hj => by
        rw [Addr.add_lit]
        exact mrow_news h i j v hj)
      (fun j hj => hcell _ (by omega)) (fun j hj => hfree _) (fun v hv => mcells_one l v (List.mem_of_mem_drop hv))
  have hfin := Has.rowShift (e := 27) (size := 4) (i := i) (m := 1) h.drew (by omega) hc m.cells rfl
  have hV := (Has.rowShift (e := 27) (size := 4) (i := i) (m := 1) h.drew (by omega) hc m.cells rfl).right
  obtain ⟨W1, hW1⟩ : ∃ W1, W1 = w.drew.setCells g ((i + 1) * 4) ((mcells l).drop (i * 4)) := ⟨_, rfl⟩
  rw [← hW1] at hcp1 hfin
  have hcp2 : ∀ (W : World), (∀ x, W.cell? x = W1.cell? x) → (∀ x, W.frozen? x = W1.frozen? x) → ∀ ty dc, (Builtin.copy_ #[35, 35] ty #[.slice (some ⟨g, i * 4, none⟩) (l.length + 1 - i) dc, .slice (some ⟨V, 0, none⟩) 1 1]).run Try.prog W = .ok (goInt (1 : Nat)) (W.setCells g (i * 4) m.cells) := fun W hWc hWf ty dc =>
    run_copy_many W _ _ ty 27 g (i * 4) (l.length + 1 - i) dc ⟨V, 0, none⟩ 1 1 4 1 m.cells Try.underlying35 hsz (by simp only [Nat.min_def]; split <;> omega) rfl
      (fun j v hj => by
        rw [Addr.add_lit, hWc, hW1, World.cell?_setCells_out g _ _ _ _ (fun h _ => absurd h hVg), Nat.zero_add]
        show w.cell? _ = _
        rw [h.right.cell]
        simpa [Mp.cells] using hj)
      (fun j hj => by
        rw [hWc, hW1]
        have h4 : m.cells.length = 4 := rfl
        refine Go.Proofs.isSome_setCells g ((mcells l).drop (i * 4)) ((i + 1) * 4) w.drew (fun t ht => ?_) (i * 4 + j) (hcell (i * 4 + j) (by omega))
        exact hcell _ (by omega)) (fun j hj => by rw [hWf, hW1, World.frozen?_setCells]; exact hfree _) (oneMp m)
  have hw1 : IntKind.i64.wrap ((i : Int) + 1) = (i : Int) + 1 := by rw [IntKind.wrap_i64]; omega
  have hb2 : ¬ (c = i + 1) := by omega
  have hb4 : ¬ (c = i) := by omega
  have hb3 : (i : Int) ≤ (l.length : Int) + 1 := by omega
  have hz2 : ¬ ((i : Int) = (l.length : Int)) := by omega
  have htn : ((i : Int) + 1).toNat = i + 1 := by omega
  have hb0 : (0 : Int) ≤ (i : Int) + 1 := by omega
  have hil : i ≤ l.length := by omega
  have mixed : Try.prog.follows .mixedOrders = true := by kernel_rfl
  clear hi0 hcell hfree hsz hdl hb hV hsV hsg hfa hfe h1 h2 h3 h4 hcap
  have HF := Lib.hid hfin
  have HW := Lib.hid hW1
  clear hfin hW1 h
  go_enter Try.func95, Try.ntmps95
  go_wp2_with (simp only [hov])
  go_region_law_o (refine Go.Proofs.step_copy_runI rfl _ _ 35 35 rfl _ _ (by simp [Act.eval, Act.put]) (by simp [Act.eval, Act.put]) (hcp1 _ _ _) ?_)
  go_wp2_with (at_builtin; refine Go.Proofs.wpList_copy_runI _ rfl _ _ 35 35 rfl _ _ rfl rfl (hcp2 _ (fun _ => rfl) (fun _ => rfl) _ _) ?_)
  go_ret
  have hlen : (l.take i ++ m :: l.drop i).length = l.length + 1 := by simp; omega
  refine ⟨some ⟨g, 0, none⟩, c, by rw [hlen]; rfl, ?_, ?_⟩
  · unfold mrow
    rw [hlen]
    have e1 : (mcells l).take (i * 4) ++ (m.cells ++ (mcells l).drop (i * 4)) = mcells (l.take i ++ m :: l.drop i) := by
      rw [mcells_append, show (mcells l).take (i * 4) = mcells (l.take i) from flat_take mp_len l i, show (mcells l).drop (i * 4) = mcells (l.drop i) from flat_drop mp_len l i]
      rfl
    rw [← e1]
    exact HF.out.p2.right
  · rw [HW.out]
    exact Ext.cells _ _ _ (Ext.cells _ _ _ (Ext.refl w).drew)
set_option maxHeartbeats 4000000 in
/-- No room: a new row. -/
theorem insert_grow (l : List Mp) (m : Mp) (n c V i g : Nat) (R : HProp) (w : World) (hbig : l.length ≤ 1000000) (hi : i < l.length) (hc : c < l.length + 1)
    (h : Has w (mrow (.slice (some ⟨g, 0, none⟩) n c) l * (blk V #[(Value.int .i64) m.page, (Value.int .i64) m.size, (Value.int .i64) m.frame, (Value.int .i64) m.rights] 27 * R))) :
    Calls Try.prog 95 #[.slice (some ⟨g, 0, none⟩) n c, .int .i64 i, .slice (some ⟨V, 0, none⟩) 1 1] w (Inserted (l.take i ++ m :: l.drop i) R w) := by
  obtain rfl := mrow_len h
  obtain ⟨hb1, hb2⟩ := mrow_small2 h
  obtain ⟨i0, hi0, hz0, hzs, hzb⟩ := info_parts info_mp
  have hVw := h.right.lt
  have hgw : g < w.heap.size := by
    obtain ⟨b, hb, hlt, _⟩ := mrow_at h hi
    injection hb with hb
    injection hb with hb
    subst hb
    exact hlt
  have hsz : (Try.prog.info? 27).map (·.size) = some 4 := by rw [hi0]; simp [hzs]
  have hti : (mcells (l.take i)).length = i * 4 := by rw [mcells_len, List.length_take]; omega
  have hte : mcells (l.take i) = (mcells l).take (i * 4) := (flat_take mp_len l i).symm
  have hold : (Builtin.firstCells i0.size i (.slice (some ⟨g, 0, none⟩) i c)).run Try.prog w.drew = .ok (mcells (l.take i)).toArray w.drew := by
    rw [hzs]
    exact run_firstCells_some w.drew 4 i ⟨g, 0, none⟩ i c (mcells (l.take i)) hti (fun j v hj => by
      rw [Addr.add_lit]
      rw [hte, List.getElem?_take] at hj
      split at hj
      · have := mrow_news h 0 j v (by simpa using hj)
        rwa [Nat.zero_mul] at this
      · cases hj)
  have hkk : (l.length : Int) + 1 - (i : Int) = ((l.length + 1 - i : Nat) : Int) := by omega
  have hik : i + (l.length + 1 - i) = l.length + 1 := by omega
  have hrz : ∀ ty, (Builtin.append_ #[35, 3] ty #[.slice (some ⟨g, 0, none⟩) i c, .int .i64 ((l.length : Int) + 1 - (i : Int))]).run Try.prog w =
      .ok (.slice (some ⟨w.heap.size, 0, none⟩) (l.length + 1) (grownCap w (l.length + 1) c 27)) (w.drew.alloc (.cells ((mcells (l.take i)).toArray ++ Builtin.zeroCells mpZero.cells (l.length + 1 - i) ++ Builtin.zeroCells mpZero.cells (grownCap w (l.length + 1) c 27 - (l.length + 1))) 27)) := fun ty => by
    have h := Lib.run_append_grow_zeros w 35 3 ty 27 i0 _ .i64 .i64 Try.underlying35 Try.underlying3 hi0 hz0 (some ⟨g, 0, none⟩) i c (mcells (l.take i)) hold (l.length + 1 - i) (by omega) (by omega) (by omega) (by omega) (by rw [hzb]; omega) (by rw [hzb, hik]; exact growslice_fits hc (by omega))
    rw [hik] at h
    rw [hkk]
    exact h
  have hGn : l.length + 1 ≤ grownCap w (l.length + 1) c 27 := grownCap_ge w _ _ _
  have hGm := grownCap_le_maxLen w (l.length + 1) c 27 (by unfold maxLen; omega)
  generalize grownCap w (l.length + 1) c 27 = G at *
  have hzz : ∀ k, (Builtin.zeroCells mpZero.cells k).size = k * 4 := fun k => size_zeroCells _ _
  have hzl : ∀ k, (Builtin.zeroCells mpZero.cells k).toList.length = k * 4 := fun k => by rw [Array.length_toList]; exact hzz k
  obtain ⟨ROW, hROW⟩ : ∃ ROW : Array Value, ROW = (mcells (l.take i)).toArray ++ Builtin.zeroCells mpZero.cells (l.length + 1 - i) ++ Builtin.zeroCells mpZero.cells (G - (l.length + 1)) := ⟨_, rfl⟩
  rw [← hROW] at hrz
  have hRs : ROW.size = G * 4 := by
    rw [hROW]
    simp only [Array.size_append, hzz, List.size_toArray, hti]
    omega
  have hRt : ROW.toList.take ((l.length + 1) * 4) = mcells (l.take i) ++ (Builtin.zeroCells mpZero.cells (l.length + 1 - i)).toList := by
    have hs : (mcells (l.take i) ++ (Builtin.zeroCells mpZero.cells (l.length + 1 - i)).toList).length = (l.length + 1) * 4 := by
      rw [List.length_append, hzl, hti]
      omega
    rw [hROW, Array.toList_append, Array.toList_append]
    show ((mcells (l.take i) ++ _) ++ _).take _ = _
    rw [← hs, List.take_left]
  have H1 := (h.new ROW 27).drew.rowOf (size := 4) (n := l.length + 1) (cap := G) (by rw [List.length_append, hzl, hti]; omega) hGn hGm hRs hRt
  have hfin := Has.rowGapD H1 (k := i) hti m.cells (mcells (l.drop i)) (by rw [hzl, mcells_len, List.length_drop]; have : m.cells.length = 4 := rfl; omega)
  obtain ⟨W1, hW1⟩ : ∃ W1, W1 = w.drew.alloc (.cells ROW 27) := ⟨_, rfl⟩
  rw [← hW1] at hrz
  have hm4 : m.cells.length = 4 := rfl
  rw [hm4, show i * 4 + 4 = (i + 1) * 4 by omega] at hfin
  have hN : ∀ j, j < (l.length + 1) * 4 → (W1.cell? ⟨w.heap.size, j, none⟩).isSome = true := fun j hj => by
    rw [hW1, World.cell?_alloc_at (w := w.drew) ROW _ w.heap.size j rfl, Array.getElem?_eq_getElem (by omega)]; rfl
  have hNf : ∀ j, W1.frozen? ⟨w.heap.size, j, none⟩ = false := fun j => by rw [hW1]; exact World.frozen?_alloc_at (w := w.drew) ROW _ w.heap.size j rfl
  have hOb : ∀ j v, w.cell? ⟨g, j, none⟩ = some v → W1.cell? ⟨g, j, none⟩ = some v := fun j v h => by rw [hW1, World.cell?_alloc_past (w := w.drew) _ g j hgw]; exact h
  have hOv : ∀ j v, w.cell? ⟨V, j, none⟩ = some v → W1.cell? ⟨V, j, none⟩ = some v := fun j v h => by rw [hW1, World.cell?_alloc_past (w := w.drew) _ V j hVw]; exact h
  have hcpA : ∀ (W : World), (∀ x, W.cell? x = W1.cell? x) → (∀ x, W.frozen? x = W1.frozen? x) → ∀ ty dc, (Builtin.copy_ #[35, 35] ty #[.slice (some ⟨w.heap.size, i * 4, none⟩) (l.length + 1 - i) dc, .slice (some ⟨V, 0, none⟩) 1 1]).run Try.prog W = .ok (goInt (1 : Nat)) (W.setCells w.heap.size (i * 4) m.cells) := fun W hWc hWf ty dc =>
    run_copy_many W _ _ ty 27 w.heap.size (i * 4) (l.length + 1 - i) dc ⟨V, 0, none⟩ 1 1 4 1 m.cells Try.underlying35 hsz (by simp only [Nat.min_def]; split <;> omega) rfl
      (fun j v hj => by
        rw [Addr.add_lit, hWc, Nat.zero_add]
        refine hOv _ _ ?_
        rw [h.right.cell]
        simpa [Mp.cells] using hj)
      (fun j hj => by rw [hWc]; exact hN _ (by omega)) (fun j hj => by rw [hWf]; exact hNf _) (oneMp m)
  have hdl : (mcells (l.drop i)).length = (l.length - i) * 4 := by rw [mcells_len, List.length_drop]
  have hde : mcells (l.drop i) = (mcells l).drop (i * 4) := (flat_drop mp_len l i).symm
  have hgN : g ≠ w.heap.size := by omega
  have hcpB : ∀ (W : World), (∀ x, W.cell? x = (W1.setCells w.heap.size (i * 4) m.cells).cell? x) → (∀ x, W.frozen? x = (W1.setCells w.heap.size (i * 4) m.cells).frozen? x) → ∀ ty dc sc, (Builtin.copy_ #[35, 35] ty #[.slice (some ⟨w.heap.size, (i + 1) * 4, none⟩) (l.length + 1 - (i + 1)) dc, .slice (some ⟨g, i * 4, none⟩) (l.length - i) sc]).run Try.prog W = .ok (goInt (l.length - i : Nat)) (W.setCells w.heap.size ((i + 1) * 4) (mcells (l.drop i))) := fun W hWc hWf ty dc sc =>
    run_copy_many W _ _ ty 27 w.heap.size ((i + 1) * 4) (l.length + 1 - (i + 1)) dc ⟨g, i * 4, none⟩ (l.length - i) sc 4 (l.length - i) (mcells (l.drop i)) Try.underlying35 hsz (by simp only [Nat.min_def]; split <;> omega) hdl
      (fun j v hj => by
        rw [Addr.add_lit, hWc, World.cell?_setCells_out _ _ _ _ _ (fun h _ => absurd h hgN)]
        refine hOb _ v (mrow_news h i j v ?_)
        rwa [← hde])
      (fun j hj => by rw [hWc]; exact Go.Proofs.isSome_setCells _ _ _ _ (fun t ht => hN _ (by omega)) _ (hN _ (by omega)))
      (fun j hj => by rw [hWf, World.frozen?_setCells]; exact hNf _) (fun v hv => mcells_one _ v hv)
  have hx : Ext w ((((w.alloc (.cells ROW 27)).drew.setCells w.heap.size (i * 4) m.cells).drew).setCells w.heap.size ((i + 1) * 4) (mcells (l.drop i))) :=
    Ext.cells _ _ _ (Ext.cells _ _ _ ((Ext.refl w).alloc _).drew).drew
  subst hW1
  have hE1 : ∀ x, ((w.alloc (.cells ROW 27)).drew).cell? x = (w.drew.alloc (.cells ROW 27)).cell? x := fun x => rfl
  have hE2 : ∀ x, ((w.alloc (.cells ROW 27)).drew).frozen? x = (w.drew.alloc (.cells ROW 27)).frozen? x := fun x => rfl
  have hF1 : ∀ x, (((w.alloc (.cells ROW 27)).drew.setCells w.heap.size (i * 4) m.cells).drew).cell? x = ((w.drew.alloc (.cells ROW 27)).setCells w.heap.size (i * 4) m.cells).cell? x := fun x => rfl
  have hF2 : ∀ x, (((w.alloc (.cells ROW 27)).drew.setCells w.heap.size (i * 4) m.cells).drew).frozen? x = ((w.drew.alloc (.cells ROW 27)).setCells w.heap.size (i * 4) m.cells).frozen? x := fun x => rfl
  have hz2 : ¬ ((i : Int) = (l.length : Int)) := by omega
  have hz3 : (c : Int) < (l.length : Int) + 1 := by omega
  have hG63 : G ≤ 9223372036854775807 := by unfold maxLen at hGm; omega
  have hGi : ¬ (G = i) := by omega
  have hGim : ¬ (G = i + 1) := by omega
  have hci : ¬ (c = i) := by omega
  have hw1 : IntKind.i64.wrap ((i : Int) + 1) = (i : Int) + 1 := by rw [IntKind.wrap_i64]; omega
  have hb0 : (0 : Int) ≤ (i : Int) + 1 := by omega
  have hil : i ≤ l.length := by omega
  have htn : ((i : Int) + 1).toNat = i + 1 := by omega
  have hb3 : (i : Int) ≤ (l.length : Int) := by omega
  have mixed : Try.prog.follows .mixedOrders = true := by kernel_rfl
  have HF := Lib.hid hfin
  have HX := Lib.hid hx
  clear hkk hik hzz hzl hold hROW hRs hRt H1 hfin hx hi0 hz0 hzs hzb hsz h hti hte hdl hde hN hNf hOb hOv hm4 hGm
  go_enter Try.func95, Try.ntmps95
  go_wp2_with (first
    | (at_builtin; refine Lib.wpList_append_run _ rfl _ _ _ _ rfl _ _ rfl rfl _ _ (hrz _) ?_)
    | (at_builtin; refine Go.Proofs.wpList_copy_runI _ rfl _ _ 35 35 rfl _ _ rfl rfl (hcpA _ hE1 hE2 _ _) ?_)
    | (at_builtin; refine Go.Proofs.wpList_copy_runI _ rfl _ _ 35 35 rfl _ _ rfl rfl (hcpB _ (fun _ => rfl) (fun _ => rfl) _ _ _) ?_))
  go_region_law_o (refine Go.Proofs.step_copy_runI rfl _ _ 35 35 rfl (.slice (some ⟨w.heap.size, (i + 1) * 4, none⟩) (l.length + 1 - (i + 1)) (G - (i + 1))) (.slice (some ⟨g, i * 4, none⟩) (l.length - i) (c - i)) (by simp [Act.eval, Act.put]) (by simp [Act.eval, Act.put]) (hcpB _ hF1 hF2 _ (G - (i + 1)) (c - i)) ?_)
  go_wp2_with fail
  go_ret
  have hlen : (l.take i ++ m :: l.drop i).length = l.length + 1 := by simp; omega
  refine ⟨some ⟨w.heap.size, 0, none⟩, G, by rw [hlen]; rfl, ?_, HX.out⟩
  unfold mrow
  rw [hlen]
  have e1 : mcells (l.take i) ++ (m.cells ++ mcells (l.drop i)) = mcells (l.take i ++ m :: l.drop i) := by
    rw [mcells_append]
    rfl
  rw [← e1]
  exact HF.out.p2.right.p2.right
theorem insert_mp (l : List Mp) (m : Mp) (n c V i : Nat) (A : Option Addr) (R : HProp) (w : World) (hbig : l.length ≤ 1000000) (hi : i ≤ l.length)
    (h : Has w (mrow (.slice A n c) l * (blk V #[(Value.int .i64) m.page, (Value.int .i64) m.size, (Value.int .i64) m.frame, (Value.int .i64) m.rights] 27 * R))) :
    Calls Try.prog 95 #[.slice A n c, .int .i64 i, .slice (some ⟨V, 0, none⟩) 1 1] w (Inserted (l.take i ++ m :: l.drop i) R w) := by
  rcases Nat.lt_or_ge i l.length with hlt | hge
  · obtain ⟨g, rfl, _⟩ := mrow_at h hlt
    rcases Nat.lt_or_ge c (l.length + 1) with hc | hc
    · exact insert_grow l m n c V i g R w hbig hlt hc h
    · exact insert_shift l m n c V i g R w hbig hlt hc h
  · obtain rfl : i = l.length := by omega
    rw [List.take_length, List.drop_length]
    exact insert_end l m n c V A R w hbig h
end Go.Proofs.Ytndhgomikpokpaa
