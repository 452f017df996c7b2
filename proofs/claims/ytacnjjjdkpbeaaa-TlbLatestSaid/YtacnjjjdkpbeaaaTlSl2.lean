/- Contracts of package slices at lines: DeleteFunc. -/
import Derived.Test.YtacnjjjdkpbeaaaTlSl
namespace Go.Proofs.Ytacnjjjdkpbeaaa
open Go.RowKit
set_option maxRecDepth 100000

theorem lzero_v : ∀ w, (zeroValue 39).run Try.prog w = .ok lnZero w := Try.zeroValue39
section
variable {w : World} {R : HProp} {n c : Nat} {l : List Ln}
/-- What a 'clear' of its last elements comes to. -/
theorem lrow_clear {g i : Nat} (h : Has w (lrow (.slice (some ⟨g, 0, none⟩) n c) l * R)) (hi : i < n) : ∀ ty, (Builtin.clear_ #[47] ty #[.slice (some ⟨g, i * 5, none⟩) (n - i) (c - i)]).run Try.prog w = .ok (.tuple #[]) (w.setCells g (i * 5) (Builtin.zeroCells lnZero.cells (n - i)).toList) := by
  intro ty
  have hl := lrow_len h
  subst hl
  have hg : ∀ j, j < (l.length - i) * 5 → (w.cell? ⟨g, i * 5 + j, none⟩).isSome = true ∧ w.frozen? ⟨g, i * 5 + j, none⟩ = false := fun j hj => by
    obtain ⟨b, hb, _, hc, hf⟩ := Has.rowGet (e := 39) (size := 5) h (i := i * 5 + j) (u := (lcells l)[i * 5 + j]'(by rw [lcells_len]; omega)) (List.getElem?_eq_getElem _)
    injection hb with hb
    injection hb with hb
    subst hb
    exact ⟨by rw [hc]; rfl, hf⟩
  exact run_clear_cells w _ _ ty lnZero 5 Try.underlying47 lzero_v rfl (by intro v hv; simp [lnZero, Value.cells] at hv; rcases hv with rfl | rfl <;> rfl) g (i * 5) _ _ (by omega) (by omega) (fun j hj => (hg j hj).1) (fun j hj => (hg j hj).2)
theorem lrow_cut {g i : Nat} (h : Has w (lrow (.slice (some ⟨g, 0, none⟩) n c) l * R)) (hi : i ≤ n) (zs : List Value) : Has (w.setCells g (i * 5) zs) (lrow (.slice (some ⟨g, 0, none⟩) i c) (l.take i) * R) := by
  have hl := lrow_len h
  subst hl
  have h1 := Has.rowCut (e := 39) (size := 5) h hi
  have h2 := Has.rowSpareCells zs (i * 5) h1 (Nat.le_refl _)
  unfold lrow
  rw [List.length_take, Nat.min_eq_left hi]
  rw [show (lcells l).take (i * 5) = lcells (l.take i) from flat_take ln_len l i] at h2
  exact h2
end
theorem Ext.setCells {w0 : World} (b : Nat) : ∀ (vs : List Value) (o : Nat) {w : World}, Ext w0 w → Ext w0 (w.setCells b o vs)
  | [], _, _, h => h
  | _ :: r, o, _, h => Ext.setCells b r (o + 1) (h.set _ _)
theorem filter_next {p : Ln → Bool} {l : List Ln} {j : Nat} (hj : j < l.length) : (l.take (j + 1)).filter p = (l.take j).filter p ++ (if p l[j] then [l[j]] else []) := by
  rw [List.take_succ_eq_append_getElem hj, List.filter_append]
  cases hq : p l[j] <;> simp [hq]

theorem deleteFunc_ln (l : List Ln) (p : Ln → Bool) (g : Nat) (cap : Array Value) (A : Option Addr) (n c : Nat) (R : HProp) (w : World) (h : Has w (lrow (.slice A n c) l * R))
    (eg : ∀ args w, (callFunc g args).run Try.prog w = .ok (.enter g args) w)
    (hp : ∀ x ∈ l, ∀ W, Has W R → Calls Try.prog g (#[x.val] ++ cap) W (Pure (Value.bool (p x)) W)) :
    Calls Try.prog 75 #[.slice A n c, .func (.func g) #[] cap] w
      (Res (.slice A (l.filter fun x => !p x).length c) (lrow (.slice A (l.filter fun x => !p x).length c) (l.filter fun x => !p x) * R) w) := by
  have hI := indexFunc_ln l p g cap A n c R w h eg hp
  obtain rfl := lrow_len h
  obtain ⟨hbig, hnc⟩ := lrow_small h
  have HP := Lib.hid hp
  clear hp
  rcases fidx_cases p l with ⟨e1, hall⟩ | ⟨k0, hk0, e1, ht, hall⟩
  · rw [e1] at hI
    have hf : (l.filter fun x => !p x) = l := List.filter_eq_self.2 fun x hx => by
      obtain ⟨j, hj, rfl⟩ := List.getElem_of_mem hx
      rw [hall j hj]; rfl
    rw [hf]
    clear hall e1 hf
    go_enter Try.func75, Try.ntmps75
    go_wp2_with (refine hI.mono ?_; rintro e w2 ⟨rfl, b2⟩)
    go_ret
    exact ⟨rfl, h.below b2, (Ext.refl w).below b2⟩
  · rw [e1] at hI
    have hne : ((k0 : Int) == -1) = false := beq_eq_false_iff_ne.2 (by omega)
    have hA := h
    obtain ⟨b, rfl, _⟩ := lrow_at hA hk0
    clear hA
    have HK := Lib.hid (show l.take k0 = (l.take (k0 + 1)).filter fun x => !p x by
      rw [filter_next hk0, ht]
      simp only [Bool.not_true, Bool.false_eq_true, if_false, List.append_nil]
      exact (List.filter_eq_self.2 fun x hx => by
        obtain ⟨j, hj, rfl⟩ := List.getElem_of_mem hx
        rw [List.length_take] at hj
        rw [List.getElem_take, hall j (by omega) (by omega)]; rfl).symm)
    clear hall ht e1
    go_enter Try.func75, Try.ntmps75
    go_wp2_with (refine hI.mono ?_; rintro e w2 ⟨rfl, b2⟩)
    have h2 := h.below b2
    have x2 := (Ext.refl w).below b2
    clear h hI
    go_loopw [5, 6, 7] (fun s5 s6 _ wr => ∃ (i j : Nat) (dk : List Ln), s5 = (Value.int .i64) i ∧ s6 = (Value.int .i64) j ∧ i < j ∧ j ≤ l.length ∧ dk.length = l.length ∧ Hid (dk.take i = (l.take j).filter fun x => !p x) ∧ Hid (dk.drop j = l.drop j) ∧ Has wr (lrow (.slice (some ⟨b, 0, none⟩) l.length c) dk * R) ∧ Ext w wr) (fun _ s6 _ _ => l.length - (intOf s6).toNat)
    case atStart => exact ⟨k0, k0 + 1, l, rfl, by go_num, by omega, by omega, rfl, HK, Lib.hid rfl, h2, x2⟩
    case round =>
      clear h2 x2 b2 HK
      obtain ⟨i, j, dk, rfl, rfl, hij, hjl, hdl, HT, HD, hr, hx⟩ := hrel
      by_cases hlt : j < l.length
      · have hj : j < dk.length := by omega
        have hxj : dk[j] = l[j] := by
          have e1 : (dk.drop j)[0]? = (l.drop j)[0]? := by rw [HD.out]
          simp only [List.getElem?_drop, Nat.add_zero] at e1
          rw [List.getElem?_eq_getElem hj, List.getElem?_eq_getElem hlt] at e1
          injection e1
        obtain ⟨b', hb', hb, ⟨c0, c1, c2, c3, c4⟩, _⟩ := lrow_at hr hj
        injection hb' with hb'
        injection hb' with hb'
        subst hb'
        rw [hxj] at c0 c1 c2 c3 c4
        have HX := Lib.hid (show l[j] ∈ l from List.getElem_mem hlt)
        have HN := Lib.hid (filter_next (p := fun x => !p x) hlt)
        have HDN := Lib.hid (show dk.drop (j + 1) = l.drop (j + 1) by
          have := HD.out
          rw [← List.drop_drop (j := j) (i := 1), ← List.drop_drop (j := j) (i := 1), this])
        clear hxj
        generalize l[j] = x at c0 c1 c2 c3 c4 HX HN
        have h3 := hr.new #[(Value.int .i64) x.m.page, (Value.int .i64) x.m.size, (Value.int .i64) x.m.frame, (Value.int .i64) x.m.rights, Value.bool x.dirty] 39
        have x3 := hx.alloc (.cells #[(Value.int .i64) x.m.page, (Value.int .i64) x.m.size, (Value.int .i64) x.m.frame, (Value.int .i64) x.m.rights, Value.bool x.dirty] 39)
        have hc := HP.out x HX.out _ h3.right.right
        clear hr hx
        cases hq : p x with
        | true =>
          rw [hq] at hc
          go_wp2_with (refine hc.mono ?_; rintro e w' ⟨rfl, b4⟩)
          have h4 := (h3.below b4).right
          have x4 := x3.below b4
          go_roundw
          case rel => exact ⟨i, j + 1, dk, rfl, by go_num, by omega, by omega, hdl, Lib.hid (by rw [HT.out, HN.out, hq]; simp), HDN, h4, x4⟩
          case measure => simp [intOf]; omega
        | false =>
          rw [hq] at hc
          have hi : i < dk.length := by omega
          go_wp2_with (refine hc.mono ?_; rintro e w' ⟨rfl, b4⟩; have h4 := h3.below b4; obtain ⟨a0, a1, a2, a3, a4⟩ := h4.cells5; obtain ⟨b', hb', gb, ⟨g0, g1, g2, g3, g4⟩, f0, f1, f2, f3, f4⟩ := lrow_at h4.right hi; injection hb' with hb'; injection hb' with hb'; subst hb')
          have h5 := lrow_set h4.right hi x
          go_roundw
          case rel =>
            refine ⟨i + 1, j + 1, dk.set i x, by go_num, by go_num, by omega, by omega, by rw [List.length_set]; exact hdl, Lib.hid ?_, Lib.hid ?_, h5, ((((((x3.below b4).set _ _).set _ _).set _ _).set _ _).set _ _)⟩
            · rw [HN.out, hq, ← HT.out, List.take_succ_eq_append_getElem (by rw [List.length_set]; exact hi), List.getElem_set_self, List.take_set_of_le (Nat.le_refl i)]
              simp
            · rw [List.drop_set_of_lt (by omega), HDN.out]
          case measure => simp [intOf]; omega
      · have hje : j = l.length := by omega
        subst hje
        obtain ⟨zs, hcl⟩ : ∃ zs, ∀ ty, (Builtin.clear_ #[47] ty #[.slice (some ⟨b, i * 5, none⟩) (l.length - i) (c - i)]).run Try.prog wr = .ok (.tuple #[]) (wr.setCells b (i * 5) zs) := ⟨_, lrow_clear hr hij⟩
        have hci : ¬ l.length ≤ i := by omega
        have hfin := lrow_cut hr (Nat.le_of_lt hij) zs
        have hf : dk.take i = l.filter fun x => !p x := by rw [HT.out, List.take_length]
        have hfl : (l.filter fun x => !p x).length = i := by rw [← hf, List.length_take]; omega
        have hF := Lib.hid hf
        have hFL := Lib.hid hfl
        clear hf hfl hr
        go_wp2_with fail
        go_ret
        rw [hFL.out, ← hF.out]
        exact ⟨rfl, hfin, Ext.setCells _ _ _ hx⟩
end Go.Proofs.Ytacnjjjdkpbeaaa
