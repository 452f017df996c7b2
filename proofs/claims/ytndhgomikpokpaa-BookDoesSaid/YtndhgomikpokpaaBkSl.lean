/- Contracts of package slices at mappings: Delete, Clone. -/
import Derived.Test.YtndhgomikpokpaaMpRow
import Derived.Test.YtndhgomikpokpaaRowIns
namespace Go.Proofs.Ytndhgomikpokpaa
open Go.RowKit
set_option maxRecDepth 100000

theorem Ext.cells {w0 : World} (b : Nat) : ∀ (vs : List Value) (o : Nat) {w : World}, Ext w0 w → Ext w0 (w.setCells b o vs)
  | [], _, _, h => h
  | _ :: r, o, _, h => Ext.cells b r (o + 1) (h.set _ _)
theorem mzero_v : ∀ w, (zeroValue 27).run Try.prog w = .ok mpZero w := Try.zeroValue27
theorem mrow_small2 {w : World} {R : HProp} {A : Option Addr} {n c : Nat} {l : List Mp} (h : Has w (mrow (.slice A n c) l * R)) : n ≤ 9223372036854775807 ∧ n ≤ c := by
  obtain rfl := mrow_len h
  refine ⟨mrow_small h, ?_⟩
  rcases Has.rowCases (e := 27) (size := 4) h with ⟨hv, h0, _⟩ | ⟨g, cap, cur, hv, h1, _⟩
  · injection hv with a b
    omega
  · injection hv with a b d
    omega
theorem info_mp : (Try.prog.info? 27).map (fun i => (i.zero, i.size, i.bytes)) = some (some mpZero, 4, 32) := by kernel_rfl
theorem mrow_news {w : World} {R : HProp} {g n c : Nat} {l : List Mp} (h : Has w (mrow (.slice (some ⟨g, 0, none⟩) n c) l * R)) (k : Nat) :
    ∀ j u, ((mcells l).drop (k * 4))[j]? = some u → w.cell? ⟨g, k * 4 + j, none⟩ = some u := by
  intro j u hu
  rw [List.getElem?_drop] at hu
  obtain rfl := mrow_len h
  obtain ⟨b, hb, _, hc, _⟩ := Has.rowGet (e := 27) (size := 4) h hu
  injection hb with hb
  injection hb with hb
  subst hb
  exact hc

/-- Delete, of elements that are there. -/
theorem delete_mp (l : List Mp) (i j g n c : Nat) (R : HProp) (w : World) (hij : i < j) (hj : j ≤ n) (h : Has w (mrow (.slice (some ⟨g, 0, none⟩) n c) l * R)) :
    Calls Try.prog 92 #[.slice (some ⟨g, 0, none⟩) n c, .int .i64 i, .int .i64 j] w
      (Res (.slice (some ⟨g, 0, none⟩) (i + (n - j)) c) (mrow (.slice (some ⟨g, 0, none⟩) (i + (n - j)) c) (l.take i ++ l.drop j) * R) w) := by
  obtain rfl := mrow_len h
  obtain ⟨hbig, hnc⟩ := mrow_small2 h
  obtain ⟨i0, hi0, hz0, hz1, hz2⟩ := info_parts info_mp
  obtain ⟨A, hA, hnews⟩ : ∃ A : Addr, (if c = j then some (⟨g, 0, none⟩ : Addr) else some ⟨g, j * 4, none⟩) = some A ∧ Hid (∀ t u, ((mcells l).drop (j * 4))[t]? = some u → w.drew.cell? (A.add t) = some u) := by
    by_cases hc : c = j
    · refine ⟨⟨g, 0, none⟩, by simp [hc], fun t u hu => ?_⟩
      rw [List.drop_eq_nil_of_le (by rw [mcells_len]; omega)] at hu
      simp at hu
    · refine ⟨⟨g, j * 4, none⟩, by simp [hc], fun t u hu => ?_⟩
      rw [Addr.add_lit]
      exact mrow_news h j t u hu
  have s1 : Hid (((mcells l).drop (j * 4)).length = (l.length - j) * 4) := by rw [List.length_drop, mcells_len]; show _ = _; omega
  have s2 : Hid (∀ u ∈ (mcells l).drop (j * 4), u.oneCell' = true) := fun u hu => mcells_one l u (List.mem_of_mem_drop hu)
  have s3 : Hid (∀ t, t < ((mcells l).drop (j * 4)).length → (w.drew.cell? ⟨g, 0 + i * 4 + t, none⟩).isSome = true ∧ w.drew.frozen? ⟨g, 0 + i * 4 + t, none⟩ = false) := by
    intro t ht
    rw [s1.out] at ht
    obtain ⟨b, hb, _, hc, hf⟩ := Has.rowGet (e := 27) (size := 4) h (i := i * 4 + t) (u := (mcells l)[i * 4 + t]'(by rw [mcells_len]; omega)) (List.getElem?_eq_getElem _)
    injection hb with hb
    injection hb with hb
    subst hb
    rw [Nat.zero_add]
    exact ⟨by show (w.cell? _).isSome = true; rw [hc]; rfl, hf⟩
  have hic : i ≤ c := by omega
  have hne : ((i : Int) == (j : Int)) = false := beq_eq_false_iff_ne.2 (by omega)
  go_enter Try.func92, Try.ntmps92
  go_wp2_with fail
  go_region_law (refine step_append_room rfl (.tmp 22) (.tmp 25) 35 rfl 27 i0 4 Try.underlying35 hi0 hz1 g 0 i c (by simp [Act.eval, Act.put]) A (l.length - j) (c - j) ((mcells l).drop (j * 4)) (by simp [Act.eval, Act.put]) s1.out hnews.out s2.out (by omega) s3.out ?_)
  have hn' : i + (l.length - j) < l.length := by omega
  have h1 := Has.rowSetCells (e := 27) (size := 4) ((mcells l).drop (j * 4)) (i * 4) h.drew (by rw [s1.out]; omega)
  have hz : (l.take i ++ l.drop j).length = i + (l.length - j) := by simp; omega
  obtain ⟨zs, hcl⟩ : ∃ zs, ∀ ty, (Builtin.clear_ #[35] ty #[.slice (some ⟨g, (i + (l.length - j)) * 4, none⟩) (l.length - (i + (l.length - j))) (c - (i + (l.length - j)))]).run Try.prog (w.drew.setCells g (i * 4) ((mcells l).drop (j * 4))) = .ok (.tuple #[]) ((w.drew.setCells g (i * 4) ((mcells l).drop (j * 4))).setCells g ((i + (l.length - j)) * 4) zs) := by
    refine ⟨_, fun ty => run_clear_cells _ _ _ ty mpZero 4 Try.underlying35 mzero_v rfl (by intro v hv; simp [mpZero, Value.cells] at hv; subst hv; rfl) g _ _ _ (by omega) (by omega) (fun t ht => ?_) (fun t ht => ?_)⟩
    all_goals
      obtain ⟨b, hb, _, hc, hf⟩ := Has.rowGet (e := 27) (size := 4) h1 (i := (i + (l.length - j)) * 4 + t) (List.getElem?_eq_getElem (by rw [h1.rowLens.1]; omega))
      injection hb with hb
      injection hb with hb
      subst hb
    · rw [hc]; rfl
    · exact hf
  have hfin : Has ((w.drew.setCells g (i * 4) ((mcells l).drop (j * 4))).setCells g ((i + (l.length - j)) * 4) zs) (mrow (.slice (some ⟨g, 0, none⟩) (i + (l.length - j)) c) (l.take i ++ l.drop j) * R) := by
    have := Has.rowDelete (e := 27) (size := 4) (i := i) (j := j) h.drew (by omega) hj zs
    unfold mrow
    rw [hz, mcells_append]
    have e1 : (mcells l).take (i * 4) = mcells (l.take i) := flat_take mp_len l i
    have e2 : (mcells l).drop (j * 4) = mcells (l.drop j) := flat_drop mp_len l j
    rw [← e1, ← e2]
    exact this
  have hx : Ext w ((w.drew.setCells g (i * 4) ((mcells l).drop (j * 4))).setCells g ((i + (l.length - j)) * 4) zs) := Ext.cells _ _ _ (Ext.cells _ _ _ (Ext.refl w).drew)
  clear h1 s1 s2 s3 hnews hA h hz
  generalize (w.drew.setCells g (i * 4) ((mcells l).drop (j * 4))) = w1 at *
  generalize i + (l.length - j) = n' at *
  have hcn : ¬ c ≤ n' := by omega
  have hnn : (n' : Int) ≤ (l.length : Int) := by omega
  go_wp2_with fail
  go_ret
  exact ⟨rfl, hfin, hx⟩

/-- A slice of the call's own that reads these mappings, behind all that was there. -/
def ClonedM (l : List Mp) (w : World) (e : Ending) (w' : World) : Prop := ∃ A n c, e = .returned (.slice A n c) ∧ Has w' (mrow (.slice A n c) l * old w w.heap.size) ∧ Ext w w'
theorem clone_mp (l : List Mp) (A : Option Addr) (n c : Nat) (R : HProp) (w : World) (hs : l.length ≤ 1000000) (h : Has w (mrow (.slice A n c) l * R)) :
    Calls Try.prog 96 #[.slice A n c] w (ClonedM l w) := by
  have q22 : ∀ (w : World) (a : Option Addr) (n c n' c' : Nat), (binOp .eql 35 (.slice a n c) (.slice none n' c')).run Try.prog w = .ok (.bool a.isNone) w := fun w a n c n' c' => Lib.run_eql_slice_nil w _ _ a n c n' c' Try.underlying35
  have hl0 := mrow_len h
  subst hl0
  cases A with
  | none =>
    have h0 : l = [] ∧ c = 0 := by
      rcases Has.rowCases (e := 27) (size := 4) h with ⟨hv, h0, _⟩ | ⟨g, cap, cur, hv, _⟩
      · injection hv with a b d
        exact ⟨List.eq_nil_of_length_eq_zero h0, d⟩
      · injection hv with a
        cases a
    obtain ⟨rfl, rfl⟩ := h0
    go_enter Try.func96, Try.ntmps96
    go_wp2_with fail
    go_ret
    exact ⟨none, 0, 0, rfl, Has.rowNil (has_old w), Ext.refl _⟩
  | some a =>
    have h0 : ∃ g, a = ⟨g, 0, none⟩ := by
      rcases Has.rowCases (e := 27) (size := 4) h with ⟨hv, h0, _⟩ | ⟨g, cap, cur, hv, _⟩
      · injection hv with a b d
        cases a
      · injection hv with a
        injection a with a
        exact ⟨g, a⟩
    obtain ⟨g, rfl⟩ := h0
    have h1 := (has_old w).new #[] 27
    have hrow : Has (w.alloc (.cells #[] 27)) (row 27 4 (.slice (some ⟨w.heap.size, 0, none⟩) 0 0) 0 [] * old w w.heap.size) := h1.rowOf rfl (Nat.le_refl _) (by unfold maxLen; omega) rfl rfl
    have hn := mrow_news (h.alloc (.cells #[] 27)) 0
    have hne : Hid (∀ j u, (mcells l)[j]? = some u → (w.alloc (.cells #[] 27)).cell? ((⟨g, 0, none⟩ : Addr).add j) = some u) := fun j u hu => by
      rw [Addr.add_lit]
      exact hn j u (by simpa using hu)
    have x1 := (Ext.refl w).alloc (.cells #[] 27)
    clear hn h1 h
    go_enter Try.func96, Try.ntmps96
    go_wp2_with (at_builtin; refine wpList_append_has rfl _ _ 35 rfl Try.underlying35 elemMp _ _ _ rfl hrow ⟨g, 0, none⟩ l.length c (mcells l) rfl (mcells_len l) hne.out (mcells_one l) ?c2 ?c3 ?_)
    case c2 => unfold maxLen; omega
    case c3 => omega
    intro v' w2 h' x'
    obtain ⟨A', c', rfl⟩ := h'.rowForm
    go_wp2_with fail
    go_ret
    exact ⟨A', _, c', rfl, h', x1.trans x'⟩
end Go.Proofs.Ytndhgomikpokpaa
