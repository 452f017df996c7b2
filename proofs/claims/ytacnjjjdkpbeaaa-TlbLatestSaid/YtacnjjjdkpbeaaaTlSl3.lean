/- Contracts of package slices at lines: Delete, Clone. -/
import Derived.Test.YtacnjjjdkpbeaaaTlSl2
namespace Go.Proofs.Ytacnjjjdkpbeaaa
open Go.RowKit
set_option maxRecDepth 100000

theorem info_ln : (Try.prog.info? 39).map (fun i => (i.zero, i.size, i.bytes)) = some (some lnZero, 5, 40) := by kernel_rfl
theorem lrow_one {l : List Ln} : ∀ u ∈ lcells l, u.oneCell' = true := by
  intro u hu
  obtain ⟨x, _, hx⟩ := List.mem_flatMap.1 hu
  simp [Ln.cells] at hx
  rcases hx with rfl | rfl | rfl | rfl | rfl <;> rfl
theorem lrow_news {w : World} {R : HProp} {g n c : Nat} {l : List Ln} (h : Has w (lrow (.slice (some ⟨g, 0, none⟩) n c) l * R)) (k : Nat) :
    ∀ j u, ((lcells l).drop (k * 5))[j]? = some u → w.cell? ⟨g, k * 5 + j, none⟩ = some u := by
  intro j u hu
  rw [List.getElem?_drop] at hu
  obtain rfl := lrow_len h
  obtain ⟨b, hb, _, hc, _⟩ := Has.rowGet (e := 39) (size := 5) h hu
  injection hb with hb
  injection hb with hb
  subst hb
  exact hc

/-- Delete, of elements that are there. -/
theorem delete_ln (l : List Ln) (i j g n c : Nat) (R : HProp) (w : World) (hij : i < j) (hj : j ≤ n) (h : Has w (lrow (.slice (some ⟨g, 0, none⟩) n c) l * R)) :
    Calls Try.prog 78 #[.slice (some ⟨g, 0, none⟩) n c, .int .i64 i, .int .i64 j] w
      (Res (.slice (some ⟨g, 0, none⟩) (i + (n - j)) c) (lrow (.slice (some ⟨g, 0, none⟩) (i + (n - j)) c) (l.take i ++ l.drop j) * R) w) := by
  obtain rfl := lrow_len h
  obtain ⟨hbig, hnc⟩ := lrow_small h
  obtain ⟨i0, hi0, hz0, hz1, hz2⟩ := info_parts info_ln
  obtain ⟨A, hA, hnews⟩ : ∃ A : Addr, (if c = j then some (⟨g, 0, none⟩ : Addr) else some ⟨g, j * 5, none⟩) = some A ∧ Hid (∀ t u, ((lcells l).drop (j * 5))[t]? = some u → w.drew.cell? (A.add t) = some u) := by
    by_cases hc : c = j
    · refine ⟨⟨g, 0, none⟩, by simp [hc], fun t u hu => ?_⟩
      rw [List.drop_eq_nil_of_le (by rw [lcells_len]; omega)] at hu
      simp at hu
    · refine ⟨⟨g, j * 5, none⟩, by simp [hc], fun t u hu => ?_⟩
      rw [Addr.add_lit]
      exact lrow_news h j t u hu
  have s1 : Hid (((lcells l).drop (j * 5)).length = (l.length - j) * 5) := by rw [List.length_drop, lcells_len]; show _ = _; omega
  have s2 : Hid (∀ u ∈ (lcells l).drop (j * 5), u.oneCell' = true) := fun u hu => lrow_one u (List.mem_of_mem_drop hu)
  have s3 : Hid (∀ t, t < ((lcells l).drop (j * 5)).length → (w.drew.cell? ⟨g, 0 + i * 5 + t, none⟩).isSome = true ∧ w.drew.frozen? ⟨g, 0 + i * 5 + t, none⟩ = false) := by
    intro t ht
    rw [s1.out] at ht
    obtain ⟨b, hb, _, hc, hf⟩ := Has.rowGet (e := 39) (size := 5) h (i := i * 5 + t) (u := (lcells l)[i * 5 + t]'(by rw [lcells_len]; omega)) (List.getElem?_eq_getElem _)
    injection hb with hb
    injection hb with hb
    subst hb
    rw [Nat.zero_add]
    exact ⟨by show (w.cell? _).isSome = true; rw [hc]; rfl, hf⟩
  have hic : i ≤ c := by omega
  have hne : ((i : Int) == (j : Int)) = false := beq_eq_false_iff_ne.2 (by omega)
  go_enter Try.func78, Try.ntmps78
  go_wp2_with fail
  go_region_law (refine step_append_room rfl (.tmp 22) (.tmp 25) 47 rfl 39 i0 5 Try.underlying47 hi0 hz1 g 0 i c (by simp [Act.eval, Act.put]) A (l.length - j) (c - j) ((lcells l).drop (j * 5)) (by simp [Act.eval, Act.put]) s1.out hnews.out s2.out (by omega) s3.out ?_)
  have hn' : i + (l.length - j) < l.length := by omega
  have h1 := Has.rowSetCells (e := 39) (size := 5) ((lcells l).drop (j * 5)) (i * 5) h.drew (by rw [s1.out]; omega)
  have hz : (l.take i ++ l.drop j).length = i + (l.length - j) := by simp; omega
  obtain ⟨zs, hcl⟩ : ∃ zs, ∀ ty, (Builtin.clear_ #[47] ty #[.slice (some ⟨g, (i + (l.length - j)) * 5, none⟩) (l.length - (i + (l.length - j))) (c - (i + (l.length - j)))]).run Try.prog (w.drew.setCells g (i * 5) ((lcells l).drop (j * 5))) = .ok (.tuple #[]) ((w.drew.setCells g (i * 5) ((lcells l).drop (j * 5))).setCells g ((i + (l.length - j)) * 5) zs) := by
    refine ⟨_, fun ty => run_clear_cells _ _ _ ty lnZero 5 Try.underlying47 lzero_v rfl (by intro v hv; simp [lnZero, Value.cells] at hv; rcases hv with rfl | rfl <;> rfl) g _ _ _ (by omega) (by omega) (fun t ht => ?_) (fun t ht => ?_)⟩
    all_goals
      obtain ⟨b, hb, _, hc, hf⟩ := Has.rowGet (e := 39) (size := 5) h1 (i := (i + (l.length - j)) * 5 + t) (List.getElem?_eq_getElem (by rw [h1.rowLens.1]; omega))
      injection hb with hb
      injection hb with hb
      subst hb
    · rw [hc]; rfl
    · exact hf
  have hfin : Has ((w.drew.setCells g (i * 5) ((lcells l).drop (j * 5))).setCells g ((i + (l.length - j)) * 5) zs) (lrow (.slice (some ⟨g, 0, none⟩) (i + (l.length - j)) c) (l.take i ++ l.drop j) * R) := by
    have := Has.rowDelete (e := 39) (size := 5) (i := i) (j := j) h.drew (by omega) hj zs
    unfold lrow
    rw [hz, lcells_append]
    have e1 : (lcells l).take (i * 5) = lcells (l.take i) := flat_take ln_len l i
    have e2 : (lcells l).drop (j * 5) = lcells (l.drop j) := flat_drop ln_len l j
    rw [← e1, ← e2]
    exact this
  have hx : Ext w ((w.drew.setCells g (i * 5) ((lcells l).drop (j * 5))).setCells g ((i + (l.length - j)) * 5) zs) := Ext.setCells _ _ _ (Ext.setCells _ _ _ (Ext.refl w).drew)
  clear h1 s1 s2 s3 hnews hA h hz
  generalize (w.drew.setCells g (i * 5) ((lcells l).drop (j * 5))) = w1 at *
  generalize i + (l.length - j) = n' at *
  have hcn : ¬ c ≤ n' := by omega
  have hnn : (n' : Int) ≤ (l.length : Int) := by omega
  go_wp2_with fail
  go_ret
  exact ⟨rfl, hfin, hx⟩

/-- What stood in a world stands beside what is new. -/
theorem Has.onto {w w' : World} {P Q : HProp} (h : Has w P) (h' : Has w' (Q * old w w.heap.size)) : Has w' (Q * P) := by
  obtain ⟨x, s, px⟩ := h
  obtain ⟨_, s', h1, h2, d, rfl, q, rfl⟩ := h'
  have sub : ∀ b o, x b = some o → (fun b => if b < w.heap.size then w.heap[b]? else none) b = some o := fun b o e => by
    have h0 : w.heap[b]? = some o := s b o e
    have hlt : b < w.heap.size := (Array.getElem?_eq_some_iff.1 h0).1
    show (if b < w.heap.size then w.heap[b]? else none) = some o
    rw [if_pos hlt]
    exact h0
  refine ⟨Hpm.union h1 x, ?_, h1, x, ?_, rfl, q, px⟩
  · refine Hpm.sub_union (Hpm.sub_union_left s') fun b o e => ?_
    exact Hpm.sub_union_right d s' b o (sub b o e)
  · intro b
    rcases d b with e | e
    · exact .inl e
    · right
      cases hx : x b with
      | none => rfl
      | some o => rw [sub b o hx] at e; cases e
/-- A slice of the call's own that reads these lines, behind all that was there. -/
def Cloned (l : List Ln) (w : World) (e : Ending) (w' : World) : Prop := ∃ A n c, e = .returned (.slice A n c) ∧ Has w' (lrow (.slice A n c) l * old w w.heap.size) ∧ Ext w w'
theorem clone_ln (l : List Ln) (A : Option Addr) (n c : Nat) (R : HProp) (w : World) (hs : l.length ≤ 1000000) (h : Has w (lrow (.slice A n c) l * R)) :
    Calls Try.prog 82 #[.slice A n c] w (Cloned l w) := by
  have q22 : ∀ (w : World) (a : Option Addr) (n c n' c' : Nat), (binOp .eql 47 (.slice a n c) (.slice none n' c')).run Try.prog w = .ok (.bool a.isNone) w := fun w a n c n' c' => Lib.run_eql_slice_nil w _ _ a n c n' c' Try.underlying47
  have hl0 := lrow_len h
  subst hl0
  cases A with
  | none =>
    have h0 : l = [] ∧ c = 0 := by
      rcases Has.rowCases (e := 39) (size := 5) h with ⟨hv, h0, _⟩ | ⟨g, cap, cur, hv, _⟩
      · injection hv with a b d
        exact ⟨List.eq_nil_of_length_eq_zero h0, d⟩
      · injection hv with a
        cases a
    obtain ⟨rfl, rfl⟩ := h0
    go_enter Try.func82, Try.ntmps82
    go_wp2_with fail
    go_ret
    exact ⟨none, 0, 0, rfl, Has.rowNil (has_old w), Ext.refl _⟩
  | some a =>
    have h0 : ∃ g, a = ⟨g, 0, none⟩ := by
      rcases Has.rowCases (e := 39) (size := 5) h with ⟨hv, h0, _⟩ | ⟨g, cap, cur, hv, _⟩
      · injection hv with a b d
        cases a
      · injection hv with a
        injection a with a
        exact ⟨g, a⟩
    obtain ⟨g, rfl⟩ := h0
    have h1 := (has_old w).new #[] 39
    have hrow : Has (w.alloc (.cells #[] 39)) (row 39 5 (.slice (some ⟨w.heap.size, 0, none⟩) 0 0) 0 [] * old w w.heap.size) := h1.rowOf rfl (Nat.le_refl _) (by unfold maxLen; omega) rfl rfl
    have hn := lrow_news (h.alloc (.cells #[] 39)) 0
    have hne : Hid (∀ j u, (lcells l)[j]? = some u → (w.alloc (.cells #[] 39)).cell? ((⟨g, 0, none⟩ : Addr).add j) = some u) := fun j u hu => by
      rw [Addr.add_lit]
      exact hn j u (by simpa using hu)
    have x1 := (Ext.refl w).alloc (.cells #[] 39)
    clear hn h1 h
    go_enter Try.func82, Try.ntmps82
    go_wp2_with (at_builtin; refine wpList_append_has rfl _ _ 47 rfl Try.underlying47 elemLn _ _ _ rfl hrow ⟨g, 0, none⟩ l.length c (lcells l) rfl (lcells_len l) hne.out lrow_one ?c2 ?c3 ?_)
    case c2 => unfold maxLen; omega
    case c3 => omega
    intro v' w2 h' x'
    obtain ⟨A', c', rfl⟩ := h'.rowForm
    go_wp2_with fail
    go_ret
    exact ⟨A', _, c', rfl, h', x1.trans x'⟩
end Go.Proofs.Ytacnjjjdkpbeaaa
