/- Regions that draw their order: a condition on the world that may hang on what has come up already. Plain lemmas. -/
import Derived.Deep.RegionHeld3
namespace Go.Proofs.Ytndhgomikpokpaa

section
variable {P : Program} {md : Region.Mode} {ops : Array Oper} {Q : Exit → Act → World → Prop} (S : Array Bool → World → Prop)
/-- Whatever comes up next: behind it the condition holds, of what has come up then. -/
def anyL (P : Program) (md : Region.Mode) (ops : Array Oper) (Q : Exit → Act → World → Prop) : Nat → Array Bool → Act → World → Prop
  | 0, L, a, w => Region.ready md ops L = [] ∧ Q .normal a w
  | n + 1, L, a, w => (Region.ready md ops L = [] → Q .normal a w) ∧
      ∀ k, k ∈ Region.ready md ops L → wpOp P ops Q k (fun b u => S (L.setIfInBounds k true) u ∧ anyL P md ops Q n (L.setIfInBounds k true) b u) a w
variable {S}
theorem anyL_any : ∀ {n : Nat} {L : Array Bool} {a : Act} {w : World}, anyL S P md ops Q n L a w → wpAny P md ops Q n L a w
  | 0, _, _, _, h => h
  | _ + 1, _, _, _, ⟨h1, h2⟩ => ⟨h1, fun k hk => wpOp_mono (fun _ _ h => anyL_any h.2) (h2 k hk)⟩
/-- The worlds in which number i may come up. -/
def Still (S : Array Bool → World → Prop) (i : Nat) (w : World) : Prop := ∃ L, L.getD i false = false ∧ S L w
/-- What the condition asks of an operation that is taken first. -/
structure Good (md : Region.Mode) (ops : Array Oper) (i : Nat) (S : Array Bool → World → Prop) : Prop where
  up : ∀ L w, S L w → S (L.setIfInBounds i true) w
  back : ∀ (L : Array Bool) (j : Nat) (oj : Oper) (w w' : World), S L w → L.getD i false = false → ops[j]? = some oj → j ≠ i → (∀ e ∈ oj.after, Region.binds md e = true → e.on ≠ i) →
    S ((L.setIfInBounds j true).setIfInBounds i true) w' → S (L.setIfInBounds j true) w'
theorem Good.and {i : Nat} {S T : Array Bool → World → Prop} (h1 : Good md ops i S) (h2 : Good md ops i T) : Good md ops i fun L w => S L w ∧ T L w :=
  ⟨fun L w h => ⟨h1.up L w h.1, h2.up L w h.2⟩, fun L j oj w w' h hi ho hj hn h' => ⟨h1.back L j oj w w' h.1 hi ho hj hn h'.1, h2.back L j oj w w' h.2 hi ho hj hn h'.2⟩⟩
/-- Till number k, which waits for number d, has come up something holds. -/
def Till (k d : Nat) (p : World → Prop) (L : Array Bool) (w : World) : Prop := (L.getD k false = true → L.getD d false = true) ∧ (L.getD k false = false → p w)
theorem getD_set_or {L : Array Bool} {j k : Nat} (h : (L.setIfInBounds j true).getD k false = true) : k = j ∨ L.getD k false = true := by
  by_cases e : j = k
  · exact .inl e.symm
  · rw [getD_set_ne false e] at h
    exact .inr h
theorem Good.till {i k d : Nat} {p : World → Prop} (hk : i ≠ k) (hd : ∃ o e, ops[k]? = some o ∧ e ∈ o.after ∧ Region.binds md e = true ∧ e.on = d) : Good md ops i (Till k d p) := by
  constructor
  · rintro L w ⟨h1, h2⟩
    constructor
    · intro h
      rw [getD_set_ne false hk] at h
      exact getD_set_true (h1 h)
    · intro h
      rw [getD_set_ne false hk] at h
      exact h2 h
  · rintro L j oj w w' ⟨h1, _⟩ hi hoj hj hn ⟨g1, g2⟩
    constructor
    · intro h
      have hd' := g1 (getD_set_true h)
      by_cases e : i = d
      · exfalso
        rcases getD_set_or h with hkj | hkj
        · obtain ⟨o, x, ho, hx, hb, hxd⟩ := hd
          rw [hkj, hoj] at ho
          injection ho with ho
          subst ho
          exact hn x hx hb (hxd.trans e.symm)
        · have := h1 hkj
          rw [← e, hi] at this
          cases this
      · rwa [getD_set_ne false e] at hd'
    · intro h
      refine g2 ?_
      rw [getD_set_ne false hk]
      exact h
theorem Till.still {k d : Nat} {p : World → Prop} {w : World} {L : Array Bool} (h : Till k d p L w) (hd : L.getD d false = false) : p w := by
  refine h.2 ?_
  cases hk : L.getD k false with
  | false => rfl
  | true => rw [h.1 hk] at hd; cases hd
theorem Till.move {k d : Nat} {p : World → Prop} {w w' : World} {L : Array Bool} (h : Till k d p L w) (hp : p w → p w') : Till k d p L w' := ⟨h.1, fun e => hp (h.2 e)⟩
theorem till_gone {b : Bool} {p : Prop} (h : b = true) (h' : b = false) : p := by rw [h] at h'; cases h'
theorem Till.start {k d n : Nat} {p : World → Prop} {w : World} (h : p w) : Till k d p (Array.replicate n false) w := by
  have e : (Array.replicate n false).getD k false = false := by
    rcases Nat.lt_or_ge k n with h | h
    · simp [h]
    · simp [h]
  exact ⟨fun h => (by rw [e] at h; cases h), fun _ => h⟩
theorem anyL_first {i : Nat} {o : Oper} {v : Value} (hi : ops[i]? = some o) (hsel : ∀ (j : Nat) (o : Oper) cs b, ops[j]? = some o → o.op ≠ .select cs b)
    (hQ : ∀ c a w, Q (.panic c) (a.put o.dst v) w → Q (.panic c) a w) (hG : Good md ops i S) :
    ∀ (n : Nat) (L : Array Bool) (a : Act) (w : World),
      (∀ j oj, ops[j]? = some oj → j ≠ i → L.getD j true = false → (∀ e ∈ oj.after, Region.binds md e = true → e.on ≠ i) → o.apart ops oj = true) →
      i ∈ Region.ready md ops L → YieldsIf P ops (Still S i) o v a → S L w →
      anyL S P md ops Q n (L.setIfInBounds i true) (a.put o.dst v) w → anyL S P md ops Q (n + 1) L a w := by
  intro n
  induction n with
  | zero =>
    intro L a w _ hr hy h0 H
    have hun : L.getD i false = false := by
      have := (mem_ready.1 hr).1
      rcases Nat.lt_or_ge i L.size with h | h
      · simpa [h] using this
      · simp [Array.getElem?_eq_none h]
    constructor
    · intro h
      rw [h] at hr
      cases hr
    · intro j hj
      by_cases e : j = i
      · subst e
        exact hy.wpOp hi ⟨L, hun, h0⟩ ⟨hG.up _ _ h0, H⟩
      · have hm := ready_mono hj e
        rw [H.1] at hm
        cases hm
  | succ n ih =>
    intro L a w hfree hr hy h0 H
    have hun : L.getD i false = false := by
      have := (mem_ready.1 hr).1
      rcases Nat.lt_or_ge i L.size with h | h
      · simpa [h] using this
      · simp [Array.getElem?_eq_none h]
    constructor
    · intro h
      rw [h] at hr
      cases hr
    · intro j hj
      by_cases e : j = i
      · subst e
        exact hy.wpOp hi ⟨L, hun, h0⟩ ⟨hG.up _ _ h0, H⟩
      · obtain ⟨hjun, oj, hoj, hall⟩ := mem_ready.1 hj
        have hno : ∀ x ∈ oj.after, Region.binds md x = true → x.on ≠ i := by
          intro x hx hb he
          have hl := hall x hx hb
          rw [he, hun] at hl
          cases hl
        have step := wpOp_putIf hoj (hfree j oj hoj e hjun hno) (fun cs b => hsel i o cs b hi) (fun cs b => hsel j oj cs b hoj) hQ hy (H.2 j (ready_mono hj e))
        refine wpOp_mono ?_ step
        rintro a' w' ⟨y', s', H'⟩
        rw [Array.setIfInBounds_comm _ _ (Ne.symm e)] at s' H'
        refine ⟨hG.back L j oj w w' h0 hun hoj e hno s', ih _ a' w' ?_ (ready_mono hr (Ne.symm e)) y' (hG.back L j oj w w' h0 hun hoj e hno s') H'⟩
        intro k ok hk hki hku hkn
        refine hfree k ok hk hki ?_ hkn
        by_cases hjk : j = k
        · subst hjk
          exact hjun
        · rwa [getD_set_ne true hjk] at hku
theorem anyL_take {i : Nat} {o : Oper} {v : Value} {n : Nat} {L : Array Bool} {a : Act} {w : World} (hi : ops[i]? = some o)
    (hs : Region.noSelect ops = true) (hf : Region.free md ops L i = true) (hr : (Region.ready md ops L).contains i = true)
    (hQ : ∀ c a w, Q (.panic c) (a.put o.dst v) w → Q (.panic c) a w) (hG : Good md ops i S) (hy : YieldsIf P ops (Still S i) o v a) (h0 : S L w)
    (h : S (L.setIfInBounds i true) w → anyL S P md ops Q n (L.setIfInBounds i true) (a.put o.dst v) w) : anyL S P md ops Q (n + 1) L a w :=
  anyL_first hi (Region.noSelect_spec hs) hQ hG n L a w (Region.free_spec hi hf) (by simpa using hr) hy h0 (h (hG.up _ _ h0))
theorem anyL_done {n : Nat} {L : Array Bool} {a : Act} {w : World} (hr : Region.ready md ops L = []) (h : Q .normal a w) : anyL S P md ops Q n L a w := by
  cases n with
  | zero => exact ⟨hr, h⟩
  | succ n => exact ⟨fun _ => h, fun k hk => by rw [hr] at hk; cases hk⟩
/-- Those that may come up now, one by one. -/
def OneOf (S : Array Bool → World → Prop) (P : Program) (md : Region.Mode) (ops : Array Oper) (Q : Exit → Act → World → Prop) (n : Nat) (L : Array Bool) (a : Act) (w : World) (rs : List Nat) : Prop :=
  ∀ k ∈ rs, wpOp P ops Q k (fun b u => S (L.setIfInBounds k true) u ∧ anyL S P md ops Q n (L.setIfInBounds k true) b u) a w
theorem OneOf.nil {n : Nat} {L : Array Bool} {a : Act} {w : World} : OneOf S P md ops Q n L a w [] := fun _ h => by cases h
theorem OneOf.cons {n : Nat} {L : Array Bool} {a : Act} {w : World} {i : Nat} {o : Oper} {rs : List Nat} (ho : ops[i]? = some o)
    (h : ∀ K : Act → World → Prop, Shut (∀ b u, S (L.setIfInBounds i true) u → (S (L.setIfInBounds i true) u → anyL S P md ops Q n (L.setIfInBounds i true) b u) → K b u) →
      if Region.wanted o (yielded ops a.tmps) = true then Oper.wp P o a w K Q else K (a.put o.dst undef) w)
    (hs : OneOf S P md ops Q n L a w rs) : OneOf S P md ops Q n L a w (i :: rs) := by
  intro k hk
  rcases List.mem_cons.1 hk with e | hk
  · subst e
    exact wpOp_step ho fun K hK => h K fun b u h1 h2 => hK b u ⟨h1, h2 h1⟩
  · exact hs k hk
theorem anyL_ready {rs : List Nat} {n : Nat} {L : Array Bool} {a : Act} {w : World} (hr : Region.ready md ops L = rs) (hne : rs ≠ [])
    (h : OneOf S P md ops Q n L a w rs) : anyL S P md ops Q (n + 1) L a w := by
  constructor
  · intro e
    exact absurd (hr.symm.trans e) hne
  · intro k hk
    exact h k (hr ▸ hk)
theorem region_L {id : Nat} {a : Act} {w : World} (hm : P.follows .mixedOrders = true) (h0 : S (Array.replicate ops.size false) w.drew)
    (h : S (Array.replicate ops.size false) w.drew → anyL S P .any ops Q ops.size (Array.replicate ops.size false) a w.drew) : (Code.region id ops true).wp P Q a w :=
  wp_region_any hm (anyL_any (h h0))
end
end Go.Proofs.Ytndhgomikpokpaa
