/- A book of mappings as plain Lean, with no program in sight. -/
import Derived.Test.YtndhgomikpokpaaModel
namespace Go.Proofs.Ytndhgomikpokpaa
open Go.RowKit

theorem span_pos {s : Int} (h : span s ≠ 0) : (s = 0 ∧ span s = 1) ∨ (s = 1 ∧ span s = 8) ∨ (s = 2 ∧ span s = 64) := by
  unfold span at *
  by_cases h0 : s = 0
  · left; simp [h0]
  · by_cases h1 : s = 1
    · right; left; simp [h1]
    · by_cases h2 : s = 2
      · right; right; simp [h2]
      · simp [h0, h1, h2] at h
/-- What a mapping that may be is like. -/
structure MapOk (m : Mp) : Prop where
  p0 : 0 ≤ m.page
  p1 : m.page + span m.size ≤ 4096
  sp : 0 < span m.size
  al : m.page % span m.size = 0
  size : (m.size = 0 ∧ span m.size = 1) ∨ (m.size = 1 ∧ span m.size = 8) ∨ (m.size = 2 ∧ span m.size = 64)
  f0 : 0 ≤ m.frame
  f1 : m.frame < 1048576
  fa : m.frame % span m.size = 0
  r0 : 0 ≤ m.rights
  r7 : m.rights ≤ 7
theorem mapOk_of {m : Mp} (h : check m = 0) : MapOk m := by
  unfold check at h
  split at h
  · omega
  rename_i hs
  split at h
  · omega
  rename_i hr
  split at h
  · omega
  rename_i ha
  have hsp := span_pos hs
  have h1 : m.page % span m.size = 0 := by omega
  have h2 : m.frame % span m.size = 0 := by omega
  refine ⟨by omega, ?_, ?_, h1, hsp, by omega, by omega, h2, by omega, by omega⟩
  · rcases hsp with ⟨_, e⟩ | ⟨_, e⟩ | ⟨_, e⟩ <;> rw [e] at h1 ⊢ <;> omega
  · rcases hsp with ⟨_, e⟩ | ⟨_, e⟩ | ⟨_, e⟩ <;> omega
theorem mapOk_check {m : Mp} (h : MapOk m) : check m = 0 := by
  have := h.p0; have := h.p1; have := h.sp; have := h.al; have := h.f0; have := h.f1; have := h.fa; have := h.r0; have := h.r7
  unfold check
  rw [if_neg (by omega), if_neg (by omega), if_neg (by omega)]
theorem over_iff {m : Mp} {p : Int} : over m p = true ↔ m.page ≤ p ∧ p < m.page + span m.size := by
  unfold over
  simp only [Bool.and_eq_true, decide_eq_true_eq]
  omega
theorem over_false {m : Mp} {p : Int} : over m p = false ↔ p < m.page ∨ m.page + span m.size ≤ p := by
  rw [← Bool.not_eq_true, over_iff]
  omega
theorem meet_false {a b : Mp} (ha : MapOk a) (hb : MapOk b) : meet a b = false ↔ a.page + span a.size ≤ b.page ∨ b.page + span b.size ≤ a.page := by
  unfold meet
  rw [Bool.or_eq_false_iff, over_false, over_false]
  have := ha.sp; have := hb.sp
  omega

namespace Bk
/-- The whole mapping lies ahead of a page. -/
def before (p : Int) (m : Mp) : Bool := !over m p && decide (m.page < p)
/-- Mappings that may be, one behind the other. -/
structure Ok (l : List Mp) : Prop where
  chk : ∀ x ∈ l, MapOk x
  up : l.Pairwise fun a b => a.page + span a.size ≤ b.page
def pos (l : List Mp) (p : Int) : Nat := (l.takeWhile (before p)).length
def find (l : List Mp) (p : Int) : Option Mp := l.find? fun x => over x p
def ins (l : List Mp) (m : Mp) : List Mp := l.takeWhile (before m.page) ++ m :: l.dropWhile (before m.page)
def bad (l : List Mp) (m : Mp) : Bool := l.any fun x => meet x m
def add (l : List Mp) (m : Mp) : List Mp := if check m = 0 ∧ bad l m = false then ins l m else l
def addC (l : List Mp) (m : Mp) : Int := if check m ≠ 0 then check m else if bad l m = true then 4 else 0
def del (l : List Mp) (p : Int) : List Mp := l.filter fun x => !over x p
def prot (l : List Mp) (p r : Int) : List Mp := l.map fun x => if over x p then { x with rights := r } else x

theorem Ok.nil : Ok [] := ⟨fun x h => (by cases h), List.Pairwise.nil⟩
theorem before_iff {p : Int} {m : Mp} (h : MapOk m) : before p m = true ↔ m.page + span m.size ≤ p := by
  unfold before
  have := h.sp
  rw [Bool.and_eq_true, Bool.not_eq_true', over_false, decide_eq_true_eq]
  omega
theorem Ok.tail {x : Mp} {l : List Mp} (h : Ok (x :: l)) : Ok l := ⟨fun y hy => h.chk y (List.mem_cons_of_mem _ hy), (List.pairwise_cons.1 h.up).2⟩
theorem Ok.sub {k l : List Mp} (h : Ok l) (s : k.Sublist l) : Ok k := ⟨fun y hy => h.chk y (s.subset hy), h.up.sublist s⟩
theorem Ok.del {l : List Mp} (h : Ok l) (p : Int) : Ok (del l p) := h.sub List.filter_sublist
/-- What lies behind the mappings that lie ahead of a page. -/
theorem after {l : List Mp} (h : Ok l) (p : Int) : ∀ x ∈ l.dropWhile (before p), before p x = false := by
  induction l with
  | nil => intro x hx; cases hx
  | cons y l ih =>
    intro x hx
    rw [List.dropWhile_cons] at hx
    split at hx
    · exact ih h.tail x hx
    · rename_i hy
      rcases List.mem_cons.1 hx with rfl | hx
      · simpa using hy
      · have h1 := (List.pairwise_cons.1 h.up).1 x hx
        have hx' := h.chk x (List.mem_cons_of_mem _ hx)
        have hy' := h.chk y (List.mem_cons_self ..)
        rw [before_iff hy'] at hy
        rw [← Bool.not_eq_true, before_iff hx']
        have := hx'.sp; have := hy'.sp
        omega
theorem ahead (l : List Mp) (p : Int) : ∀ x ∈ l.takeWhile (before p), before p x = true := by
  induction l with
  | nil => intro x hx; cases hx
  | cons y l ih =>
    intro x hx
    rw [List.takeWhile_cons] at hx
    split at hx
    · rename_i hy
      rcases List.mem_cons.1 hx with rfl | hx
      · exact hy
      · exact ih x hx
    · cases hx
theorem split (l : List Mp) (p : Int) : l.takeWhile (before p) ++ l.dropWhile (before p) = l := List.takeWhile_append_dropWhile
theorem pos_le (l : List Mp) (p : Int) : pos l p ≤ l.length := by
  have := congrArg List.length (split l p)
  rw [List.length_append] at this
  unfold pos
  omega
/-- Which mappings lie ahead of a page: just those ahead of its place. -/
theorem pos_iff {l : List Mp} (h : Ok l) (p : Int) {k : Nat} (hk : k < l.length) : before p l[k] = decide (k < pos l p) := by
  have e := split l p
  by_cases hlt : k < pos l p
  · have hl : k < (l.takeWhile (before p)).length := hlt
    have : l[k] = (l.takeWhile (before p))[k] := by
      have := List.getElem_append_left (as := l.takeWhile (before p)) (bs := l.dropWhile (before p)) (h' := by rw [e]; exact hk) hl
      rw [← this]
      simp only [e]
    rw [this, ahead l p _ (List.getElem_mem hl), decide_eq_true hlt]
  · have hge : (l.takeWhile (before p)).length ≤ k := by unfold pos at hlt; omega
    have hl : k - (l.takeWhile (before p)).length < (l.dropWhile (before p)).length := by
      have := congrArg List.length e
      rw [List.length_append] at this
      omega
    have : l[k] = (l.dropWhile (before p))[k - (l.takeWhile (before p)).length] := by
      have := List.getElem_append_right (as := l.takeWhile (before p)) (bs := l.dropWhile (before p)) (i := k) (h₂ := by rw [e]; exact hk) hge
      rw [← this]
      simp only [e]
    rw [this, after h p _ (List.getElem_mem hl), decide_eq_false hlt]
theorem mem_split {l : List Mp} {p : Int} {x : Mp} (hx : x ∈ l) : x ∈ l.takeWhile (before p) ∨ x ∈ l.dropWhile (before p) := by
  rw [← List.mem_append, split]
  exact hx
theorem bad_false {l : List Mp} {m : Mp} (h : bad l m = false) : ∀ x ∈ l, meet x m = false := by
  unfold bad at h
  rw [List.any_eq_false] at h
  intro x hx
  have := h x hx
  simpa using this
theorem Ok.ins {l : List Mp} (h : Ok l) {m : Mp} (hm : MapOk m) (hb : bad l m = false) : Ok (ins l m) := by
  have h1 : ∀ x ∈ l.takeWhile (before m.page), x.page + span x.size ≤ m.page := fun x hx =>
    (before_iff (h.chk x ((List.takeWhile_sublist _).subset hx))).1 (ahead l m.page x hx)
  have h2 : ∀ x ∈ l.dropWhile (before m.page), m.page + span m.size ≤ x.page := fun x hx => by
    have hxl := (List.dropWhile_sublist _).subset hx
    have hxm := h.chk x hxl
    have ha := after h m.page x hx
    rw [← Bool.not_eq_true, before_iff hxm] at ha
    have := (meet_false hxm hm).1 (bad_false hb x hxl)
    omega
  refine ⟨fun x hx => ?_, ?_⟩
  · unfold Bk.ins at hx
    rcases List.mem_append.1 hx with hx | hx
    · exact h.chk x ((List.takeWhile_sublist _).subset hx)
    · rcases List.mem_cons.1 hx with rfl | hx
      · exact hm
      · exact h.chk x ((List.dropWhile_sublist _).subset hx)
  · unfold Bk.ins
    rw [List.pairwise_append]
    refine ⟨h.up.sublist (List.takeWhile_sublist _), List.pairwise_cons.2 ⟨h2, h.up.sublist (List.dropWhile_sublist _)⟩, fun a ha b hb' => ?_⟩
    have a1 := h1 a ha
    rcases List.mem_cons.1 hb' with rfl | hb'
    · exact a1
    · have := h2 b hb'
      have := hm.sp
      omega
theorem Ok.add {l : List Mp} (h : Ok l) (m : Mp) : Ok (add l m) := by
  unfold Bk.add
  split
  · rename_i hc
    exact h.ins (mapOk_of hc.1) hc.2
  · exact h
theorem drop_head {l : List Mp} {p : Int} {y : Mp} {r : List Mp} (e : l.dropWhile (before p) = y :: r) : ∃ h : pos l p < l.length, l[pos l p] = y := by
  have hl := congrArg List.length (split l p)
  rw [List.length_append, e, List.length_cons] at hl
  have hp : pos l p < l.length := by unfold pos; omega
  refine ⟨hp, ?_⟩
  have hs := split l p
  rw [e] at hs
  have : l[pos l p]? = some y := by
    have h2 : (l.takeWhile (before p) ++ y :: r)[(l.takeWhile (before p)).length]? = some y := by
      rw [List.getElem?_append_right (Nat.le_refl _)]
      simp
    rw [hs] at h2
    exact h2
  rw [List.getElem?_eq_getElem hp] at this
  exact Option.some.inj this
theorem drop_nil {l : List Mp} {p : Int} (e : l.dropWhile (before p) = []) : pos l p = l.length := by
  have hl := congrArg List.length (split l p)
  rw [List.length_append, e] at hl
  unfold pos
  simpa using hl
/-- Whether something meets a mapping: the first that does not lie ahead of it tells. -/
theorem bad_head {l : List Mp} (h : Ok l) {m : Mp} (hm : MapOk m) : bad l m = match l.dropWhile (before m.page) with | [] => false | y :: _ => meet y m := by
  have hno : ∀ x ∈ l.takeWhile (before m.page), meet x m = false := fun x hx => by
    have hx' := h.chk x ((List.takeWhile_sublist _).subset hx)
    have := (before_iff hx').1 (ahead l m.page x hx)
    exact (meet_false hx' hm).2 (.inl this)
  cases e : l.dropWhile (before m.page) with
  | nil =>
    show bad l m = false
    unfold bad
    rw [List.any_eq_false]
    intro x hx
    rcases mem_split (p := m.page) hx with hx | hx
    · rw [hno x hx]; simp
    · rw [e] at hx; cases hx
  | cons y r =>
    show bad l m = meet y m
    have hy : y ∈ l := (List.dropWhile_sublist _).subset (by rw [e]; exact List.mem_cons_self ..)
    cases hq : meet y m with
    | true => exact List.any_eq_true.2 ⟨y, hy, hq⟩
    | false =>
      unfold bad
      rw [List.any_eq_false]
      intro x hx
      rcases mem_split (p := m.page) hx with hx' | hx'
      · rw [hno x hx']; simp
      · rw [e] at hx'
        rcases List.mem_cons.1 hx' with rfl | hx'
        · rw [hq]; simp
        · have hu := (h.up.sublist (List.dropWhile_sublist (before m.page)))
          rw [e] at hu
          have h1 := (List.pairwise_cons.1 hu).1 x hx'
          have hym := h.chk y hy
          have hxm := h.chk x hx
          have ha := after h m.page y (by rw [e]; exact List.mem_cons_self ..)
          rw [← Bool.not_eq_true, before_iff hym] at ha
          have := (meet_false hym hm).1 hq
          have h3 := hym.sp
          rw [(meet_false hxm hm).2 (.inr (by omega))]
          simp
/-- The mapping of a page: the first that does not lie ahead of it, if it has it. -/
theorem find_head {l : List Mp} (h : Ok l) (p : Int) : find l p = match l.dropWhile (before p) with | [] => none | y :: _ => if over y p then some y else none := by
  have hno : ∀ x ∈ l.takeWhile (before p), over x p = false := fun x hx => by
    have := ahead l p x hx
    unfold before at this
    simp only [Bool.and_eq_true, Bool.not_eq_true'] at this
    exact this.1
  have e0 : find l p = (l.dropWhile (before p)).find? fun x => over x p := by
    unfold find
    conv => lhs; rw [← split l p]
    rw [List.find?_append, List.find?_eq_none.2 (fun x hx => by rw [hno x hx]; simp)]
    rfl
  rw [e0]
  cases e : l.dropWhile (before p) with
  | nil => rfl
  | cons y r =>
    show (y :: r).find? _ = if over y p then some y else none
    rw [List.find?_cons]
    cases hq : over y p with
    | true => rfl
    | false =>
      show r.find? (fun x => over x p) = none
      rw [List.find?_eq_none]
      intro x hx
      have hym := h.chk y ((List.dropWhile_sublist _).subset (by rw [e]; exact List.mem_cons_self ..))
      have hu := h.up.sublist (List.dropWhile_sublist (before p))
      rw [e] at hu
      have h1 := (List.pairwise_cons.1 hu).1 x hx
      have ha := after h p y (by rw [e]; exact List.mem_cons_self ..)
      rw [← Bool.not_eq_true, before_iff hym] at ha
      have := over_false.1 hq
      rw [over_false.2 (.inl (by omega))]
      simp
/-- Without the mapping of a page: the place of the page is left out, if it is its. -/
theorem del_head {l : List Mp} (h : Ok l) (p : Int) : del l p = match l.dropWhile (before p) with | [] => l | y :: r => if over y p then l.takeWhile (before p) ++ r else l := by
  have hno : ∀ x ∈ l.takeWhile (before p), (!over x p) = true := fun x hx => by
    have := ahead l p x hx
    unfold before at this
    simp only [Bool.and_eq_true] at this
    exact this.1
  have e0 : del l p = l.takeWhile (before p) ++ (l.dropWhile (before p)).filter fun x => !over x p := by
    unfold del
    conv => lhs; rw [← split l p]
    rw [List.filter_append, List.filter_eq_self.2 hno]
  rw [e0]
  cases e : l.dropWhile (before p) with
  | nil =>
    have := split l p
    rw [e] at this
    simpa using this
  | cons y r =>
    have hr : ∀ x ∈ r, (!over x p) = true := fun x hx => by
      have hym := h.chk y ((List.dropWhile_sublist _).subset (by rw [e]; exact List.mem_cons_self ..))
      have hu := h.up.sublist (List.dropWhile_sublist (before p))
      rw [e] at hu
      have h1 := (List.pairwise_cons.1 hu).1 x hx
      have ha := after h p y (by rw [e]; exact List.mem_cons_self ..)
      rw [← Bool.not_eq_true, before_iff hym] at ha
      rw [over_false.2 (.inl (by omega))]
      rfl
    show _ = if over y p then _ else _
    rw [List.filter_cons]
    cases hq : over y p with
    | true => simp [List.filter_eq_self.2 hr]
    | false =>
      have := split l p
      rw [e] at this
      simp [List.filter_eq_self.2 hr, this]
theorem Ok.count : ∀ (l : List Mp) (lo : Int), Ok l → 0 ≤ lo → lo ≤ 4096 → (∀ x ∈ l, lo ≤ x.page) → (l.length : Int) ≤ 4096 - lo
  | [], lo, _, _, _, _ => by simp; omega
  | x :: l, lo, h, h0, _, hl => by
    have hx := h.chk x (List.mem_cons_self ..)
    have hlx := hl x (List.mem_cons_self ..)
    have := hx.p1; have := hx.sp
    have := Ok.count l (x.page + span x.size) h.tail (by omega) (by omega) (List.pairwise_cons.1 h.up).1
    simp only [List.length_cons]
    omega
theorem Ok.le {l : List Mp} (h : Ok l) : l.length ≤ 4096 := by
  have := Ok.count l 0 h (by omega) (by omega) (fun x hx => (h.chk x hx).p0)
  omega
/-- Two books of the same mappings are the same. -/
theorem Ok.ext : ∀ {a b : List Mp}, Ok a → Ok b → (∀ x, x ∈ a ↔ x ∈ b) → a = b
  | [], [], _, _, _ => rfl
  | [], y :: b, _, _, h => by have := (h y).2 (List.mem_cons_self ..); cases this
  | x :: a, [], _, _, h => by have := (h x).1 (List.mem_cons_self ..); cases this
  | x :: a, y :: b, ha, hb, h => by
    have hxs := (ha.chk x (List.mem_cons_self ..)).sp
    have hys := (hb.chk y (List.mem_cons_self ..)).sp
    have hx : ∀ z ∈ a, x.page < z.page := fun z hz => by have := (List.pairwise_cons.1 ha.up).1 z hz; omega
    have hy : ∀ z ∈ b, y.page < z.page := fun z hz => by have := (List.pairwise_cons.1 hb.up).1 z hz; omega
    have e : x = y := by
      rcases List.mem_cons.1 ((h x).1 (List.mem_cons_self ..)) with e | h1
      · exact e
      · rcases List.mem_cons.1 ((h y).2 (List.mem_cons_self ..)) with e | h2
        · exact e.symm
        · have := hy x h1
          have := hx y h2
          omega
    subst e
    have := Ok.ext ha.tail hb.tail (fun z => by
      constructor
      · intro hz
        rcases List.mem_cons.1 ((h z).1 (List.mem_cons_of_mem _ hz)) with e | h1
        · have := hx z hz; rw [e] at this; omega
        · exact h1
      · intro hz
        rcases List.mem_cons.1 ((h z).2 (List.mem_cons_of_mem _ hz)) with e | h1
        · have := hy z hz; rw [e] at this; omega
        · exact h1)
    rw [this]
theorem over_rights (m : Mp) (r p : Int) : over { m with rights := r } p = over m p := rfl
theorem Ok.rights {m : Mp} (h : MapOk m) {r : Int} (h0 : 0 ≤ r) (h7 : r ≤ 7) : MapOk { m with rights := r } := ⟨h.p0, h.p1, h.sp, h.al, h.size, h.f0, h.f1, h.fa, h0, h7⟩
theorem Ok.prot {l : List Mp} (h : Ok l) (p : Int) {r : Int} (h0 : 0 ≤ r) (h7 : r ≤ 7) : Ok (prot l p r) := by
  refine ⟨fun x hx => ?_, ?_⟩
  · obtain ⟨y, hy, rfl⟩ := List.mem_map.1 hx
    split
    · exact Ok.rights (h.chk y hy) h0 h7
    · exact h.chk y hy
  · unfold Bk.prot
    rw [List.pairwise_map]
    refine h.up.imp fun {a b} hab => ?_
    split <;> split <;> exact hab
/-- Other rights for the mapping of a page. -/
theorem prot_head {l : List Mp} (h : Ok l) (p r : Int) : prot l p r = match l.dropWhile (before p) with | [] => l | y :: k => if over y p then l.takeWhile (before p) ++ { y with rights := r } :: k else l := by
  have hid : ∀ k : List Mp, (∀ x ∈ k, over x p = false) → k.map (fun x => if over x p then { x with rights := r } else x) = k := fun k hk => by
    conv => rhs; rw [← List.map_id k]
    refine List.map_congr_left fun x hx => ?_
    rw [hk x hx]
    rfl
  have hno : ∀ x ∈ l.takeWhile (before p), over x p = false := fun x hx => by
    have := ahead l p x hx
    unfold before at this
    simp only [Bool.and_eq_true, Bool.not_eq_true'] at this
    exact this.1
  have e0 : prot l p r = l.takeWhile (before p) ++ (l.dropWhile (before p)).map fun x => if over x p then { x with rights := r } else x := by
    unfold prot
    conv => lhs; rw [← split l p]
    rw [List.map_append, hid _ hno]
  rw [e0]
  cases e : l.dropWhile (before p) with
  | nil =>
    have := split l p
    rw [e] at this
    simpa using this
  | cons y k =>
    have hk : ∀ x ∈ k, over x p = false := fun x hx => by
      have hym := h.chk y ((List.dropWhile_sublist _).subset (by rw [e]; exact List.mem_cons_self ..))
      have hu := h.up.sublist (List.dropWhile_sublist (before p))
      rw [e] at hu
      have h1 := (List.pairwise_cons.1 hu).1 x hx
      have ha := after h p y (by rw [e]; exact List.mem_cons_self ..)
      rw [← Bool.not_eq_true, before_iff hym] at ha
      exact over_false.2 (.inl (by omega))
    show _ = if over y p then _ else _
    rw [List.map_cons, hid k hk]
    cases hq : over y p with
    | true => simp
    | false =>
      have := split l p
      rw [e] at this
      simp [this]
/-- To drop a mapping and to add it with other rights is to give it other rights. -/
theorem ins_del {l : List Mp} (h : Ok l) {p r : Int} {y : Mp} {k : List Mp} (e : l.dropWhile (before p) = y :: k) (ho : over y p = true) (h0 : 0 ≤ r) (h7 : r ≤ 7) :
    bad (del l p) { y with rights := r } = false ∧ ins (del l p) { y with rights := r } = prot l p r := by
  have hy : y ∈ l := (List.dropWhile_sublist _).subset (by rw [e]; exact List.mem_cons_self ..)
  have hym := h.chk y hy
  have hyr := Ok.rights hym h0 h7
  have hd : del l p = l.takeWhile (before p) ++ k := by rw [del_head h p, e]; exact if_pos ho
  have hp : prot l p r = l.takeWhile (before p) ++ { y with rights := r } :: k := by rw [prot_head h p r, e]; exact if_pos ho
  have hs := split l p
  rw [e] at hs
  have hu := h.up
  rw [← hs, List.pairwise_append] at hu
  obtain ⟨_, hu2, hu3⟩ := hu
  have h1 : ∀ x ∈ l.takeWhile (before p), before y.page x = true := fun x hx =>
    (before_iff (h.chk x ((List.takeWhile_sublist _).subset hx))).2 (hu3 x hx y (List.mem_cons_self ..))
  have h2 : ∀ x ∈ k, before y.page x = false := fun x hx => by
    have hxm := h.chk x (by rw [← hs]; exact List.mem_append_right _ (List.mem_cons_of_mem _ hx))
    rw [← Bool.not_eq_true, before_iff hxm]
    have := (List.pairwise_cons.1 hu2).1 x hx
    have := hym.sp; have := hxm.sp
    omega
  have htw : (del l p).takeWhile (before y.page) = l.takeWhile (before p) := by
    rw [hd, List.takeWhile_append_of_pos h1]
    cases k with
    | nil => simp
    | cons z k => rw [List.takeWhile_cons, h2 z (List.mem_cons_self ..)]; simp
  have hdw : (del l p).dropWhile (before y.page) = k := by
    rw [hd, List.dropWhile_append_of_pos h1]
    cases k with
    | nil => rfl
    | cons z k => rw [List.dropWhile_cons, h2 z (List.mem_cons_self ..)]; rfl
  refine ⟨?_, ?_⟩
  · unfold bad
    rw [List.any_eq_false]
    intro x hx
    rw [hd] at hx
    rw [Bool.not_eq_true]
    rcases List.mem_append.1 hx with hx | hx
    · have hxm := h.chk x ((List.takeWhile_sublist _).subset hx)
      exact (meet_false hxm hyr).2 (.inl (hu3 x hx y (List.mem_cons_self ..)))
    · have hxm := h.chk x (by rw [← hs]; exact List.mem_append_right _ (List.mem_cons_of_mem _ hx))
      exact (meet_false hxm hyr).2 (.inr ((List.pairwise_cons.1 hu2).1 x hx))
  · unfold Bk.ins
    rw [hp]
    show (del l p).takeWhile (before y.page) ++ _ :: (del l p).dropWhile (before y.page) = _
    rw [htw, hdw]
end Bk
end Go.Proofs.Ytndhgomikpokpaa

namespace Go.Proofs.Ytndhgomikpokpaa
open Go.RowKit
namespace Bk
theorem take_pos (l : List Mp) (p : Int) : l.takeWhile (before p) = l.take (pos l p) := by
  conv => rhs; rw [← split l p]
  unfold pos
  rw [List.take_append_of_le_length (by rw [split]; exact Nat.le_refl _), split, List.take_of_length_le (Nat.le_refl _)]
theorem drop_pos (l : List Mp) (p : Int) : l.dropWhile (before p) = l.drop (pos l p) := by
  have h := split l p
  rw [take_pos] at h
  have h2 := List.take_append_drop (pos l p) l
  exact List.append_cancel_left (h.trans h2.symm)
theorem ins_eq (l : List Mp) (m : Mp) : ins l m = l.take (pos l m.page) ++ m :: l.drop (pos l m.page) := by
  unfold ins
  rw [take_pos, drop_pos]
/-- What the document's way to add has laid behind i mappings; k: where the new one stands. -/
def part (l : List Mp) (m : Mp) (k i : Nat) : List Mp := if i ≤ k then l.take i else l.take k ++ m :: (l.take i).drop k
theorem part_zero (l : List Mp) (m : Mp) (k : Nat) : part l m k 0 = [] := by simp [part]
theorem part_low {l : List Mp} {m : Mp} {k i : Nat} (h : i < k) (hi : i < l.length) : part l m k (i + 1) = part l m k i ++ [l[i]] := by
  unfold part
  rw [if_pos (by omega), if_pos (by omega), List.take_succ_eq_append_getElem hi]
theorem part_at {l : List Mp} {m : Mp} {i : Nat} (hi : i < l.length) : part l m i (i + 1) = part l m i i ++ [m] ++ [l[i]] := by
  unfold part
  rw [if_neg (by omega), if_pos (Nat.le_refl _), List.take_succ_eq_append_getElem hi, List.drop_append_of_le_length (by simp; omega)]
  simp
theorem part_high {l : List Mp} {m : Mp} {k i : Nat} (h : k < i) (hi : i < l.length) : part l m k (i + 1) = part l m k i ++ [l[i]] := by
  unfold part
  rw [if_neg (by omega), if_neg (by omega), List.take_succ_eq_append_getElem hi, List.drop_append_of_le_length (by simp; omega)]
  simp
theorem part_end {l : List Mp} {m : Mp} {k : Nat} (h : k < l.length) : part l m k l.length = l.take k ++ m :: l.drop k := by
  unfold part
  rw [if_neg (by omega), List.take_of_length_le (Nat.le_refl _)]
theorem part_last (l : List Mp) (m : Mp) : part l m l.length l.length ++ [m] = l.take l.length ++ m :: l.drop l.length := by
  unfold part
  simp
/-- Of what does not meet it: what lies behind it by its page lies behind it. -/
theorem behind {l : List Mp} (h : Ok l) {m : Mp} (hm : MapOk m) {i : Nat} (hi : i < l.length) (hn : meet l[i] m = false) : decide (m.page < l[i].page) = decide (pos l m.page ≤ i) := by
  have hx := h.chk l[i] (List.getElem_mem hi)
  have hb := pos_iff h m.page hi
  have h1 := (meet_false hx hm).1 hn
  have h2 := before_iff (p := m.page) hx
  have := hx.sp; have := hm.sp
  by_cases hp : pos l m.page ≤ i
  · rw [decide_eq_true hp]
    rw [decide_eq_false (by omega)] at hb
    have : ¬ l[i].page + span l[i].size ≤ m.page := fun e => by rw [h2.2 e] at hb; cases hb
    exact decide_eq_true (by omega)
  · rw [decide_eq_false hp]
    rw [decide_eq_true (by omega)] at hb
    have := h2.1 hb
    exact decide_eq_false (by omega)
theorem mem_ins {l : List Mp} {m x : Mp} : x ∈ ins l m ↔ x = m ∨ x ∈ l := by
  unfold ins
  conv => rhs; rw [← split l m.page]
  simp only [List.mem_append, List.mem_cons]
  constructor
  · rintro (a | a | a)
    · exact .inr (.inl a)
    · exact .inl a
    · exact .inr (.inr a)
  · rintro (a | a | a)
    · exact .inr (.inl a)
    · exact .inl a
    · exact .inr (.inr a)
theorem apart_at {l : List Mp} (h : Ok l) {a b : Nat} (ha : a < l.length) (hb : b < l.length) (hne : a ≠ b) : meet l[a] l[b] = false := by
  have hx := h.chk _ (List.getElem_mem ha)
  have hy := h.chk _ (List.getElem_mem hb)
  rw [meet_false hx hy]
  rcases Nat.lt_or_gt_of_ne hne with hlt | hlt
  · exact .inl (List.pairwise_iff_getElem.1 h.up a b ha hb hlt)
  · exact .inr (List.pairwise_iff_getElem.1 h.up b a hb ha hlt)
/-- The first i mappings of a book, counted from the s-th on and around. -/
structure Turned (all c : List Mp) (s i : Nat) : Prop where
  ok : Ok c
  mem : ∀ x, x ∈ c ↔ ∃ j, j < i ∧ ∃ h : (j + s) % all.length < all.length, x = all[(j + s) % all.length]
theorem Turned.zero (all : List Mp) (s : Nat) : Turned all [] s 0 := ⟨Ok.nil, fun x => by constructor; (intro h; cases h); (rintro ⟨j, h, _⟩; omega)⟩
theorem mod_ne {j i s n : Nat} (h : j < i) (hi : i < n) : (j + s) % n ≠ (i + s) % n := by
  intro e
  have h1 := Nat.div_add_mod (j + s) n
  have h2 := Nat.div_add_mod (i + s) n
  rw [e] at h1
  have h3 : n * ((i + s) / n) = n * ((j + s) / n) + (i - j) := by omega
  have h4 : (i - j) % n = 0 := by
    have := congrArg (· % n) h3
    simp only [Nat.mul_mod_right, Nat.mul_add_mod] at this
    exact this.symm
  rw [Nat.mod_eq_of_lt (by omega)] at h4
  omega
theorem Turned.next {all c : List Mp} {s i : Nat} (ha : Ok all) (h : Turned all c s i) (hi : i < all.length) (hk : (i + s) % all.length < all.length) :
    addC c all[(i + s) % all.length] = 0 ∧ Turned all (add c all[(i + s) % all.length]) s (i + 1) := by
  have hm := ha.chk _ (List.getElem_mem hk)
  have hc := mapOk_check hm
  have hb : bad c all[(i + s) % all.length] = false := by
    unfold bad
    rw [List.any_eq_false]
    intro x hx
    obtain ⟨j, hj, hjl, rfl⟩ := (h.mem x).1 hx
    rw [apart_at ha hjl hk (mod_ne hj hi)]
    simp
  refine ⟨by unfold addC; rw [hc, hb]; rfl, ?_⟩
  unfold Bk.add
  rw [if_pos ⟨hc, hb⟩]
  refine ⟨h.ok.ins hm hb, fun x => ?_⟩
  rw [mem_ins, h.mem x]
  constructor
  · rintro (rfl | ⟨j, hj, hjl, e⟩)
    · exact ⟨i, by omega, hk, rfl⟩
    · exact ⟨j, by omega, hjl, e⟩
  · rintro ⟨j, hj, hjl, e⟩
    by_cases hji : j = i
    · subst hji; exact .inl e
    · exact .inr ⟨j, by omega, hjl, e⟩
theorem Turned.all {all c : List Mp} {s : Nat} (ha : Ok all) (h : Turned all c s all.length) : c = all := by
  refine Ok.ext h.ok ha fun x => ?_
  rw [h.mem x]
  constructor
  · rintro ⟨j, _, hjl, rfl⟩
    exact List.getElem_mem hjl
  · intro hx
    obtain ⟨k, hk, rfl⟩ := List.getElem_of_mem hx
    have hn : 0 < all.length := by omega
    have hs := Nat.mod_lt s hn
    have hd := Nat.div_add_mod s all.length
    by_cases hle : s % all.length ≤ k
    · refine ⟨k - s % all.length, by omega, Nat.mod_lt _ hn, ?_⟩
      have : (k - s % all.length + s) % all.length = k := by
        rw [show k - s % all.length + s = all.length * (s / all.length) + k by omega, Nat.mul_add_mod, Nat.mod_eq_of_lt hk]
      simp only [this]
    · refine ⟨k + all.length - s % all.length, by omega, Nat.mod_lt _ hn, ?_⟩
      have : (k + all.length - s % all.length + s) % all.length = k := by
        rw [show k + all.length - s % all.length + s = all.length * (s / all.length + 1) + k by rw [Nat.mul_add]; omega, Nat.mul_add_mod, Nat.mod_eq_of_lt hk]
      simp only [this]
/-- Of a book: those of its first i mappings that have a page, and all others. -/
def stage (all : List Mp) (p : Int) (i : Nat) : List Mp := (all.take i).filter (fun m => over m p) ++ all.drop i
theorem stage_zero (all : List Mp) (p : Int) : stage all p 0 = all := by simp [stage]
theorem stage_ok {all : List Mp} (h : Ok all) (p : Int) (i : Nat) : Ok (stage all p i) := by
  refine h.sub ?_
  unfold stage
  conv => rhs; rw [← List.take_append_drop i all]
  exact List.Sublist.append List.filter_sublist (List.Sublist.refl _)
theorem stage_same {all : List Mp} {p : Int} {i : Nat} (hi : i < all.length) (ho : over all[i] p = true) : stage all p (i + 1) = stage all p i := by
  unfold stage
  rw [List.take_succ_eq_append_getElem hi, List.filter_append, List.drop_eq_getElem_cons hi]
  simp [ho]
theorem stage_next {all : List Mp} (h : Ok all) {p : Int} {i : Nat} (hi : i < all.length) (ho : over all[i] p = false) : del (stage all p i) all[i].page = stage all p (i + 1) := by
  have hm := h.chk _ (List.getElem_mem hi)
  have hself : over all[i] all[i].page = true := over_iff.2 ⟨by omega, by have := hm.sp; omega⟩
  have hlow : ∀ x ∈ (all.take i).filter (fun m => over m p), (!over x all[i].page) = true := fun x hx => by
    obtain ⟨j, hj, rfl⟩ := List.getElem_of_mem (List.filter_sublist.subset hx)
    rw [List.getElem_take]
    simp only [List.length_take] at hj
    have := List.pairwise_iff_getElem.1 h.up j i (by omega) hi (by omega)
    rw [over_false.2 (.inr this)]
    rfl
  have hhigh : ∀ x ∈ all.drop (i + 1), (!over x all[i].page) = true := fun x hx => by
    obtain ⟨j, hj, rfl⟩ := List.getElem_of_mem hx
    rw [List.getElem_drop]
    simp only [List.length_drop] at hj
    have := List.pairwise_iff_getElem.1 h.up i (i + 1 + j) hi (by omega) (by omega)
    have := hm.sp
    rw [over_false.2 (.inl (by omega))]
    rfl
  unfold stage del
  rw [List.filter_append, List.filter_eq_self.2 hlow, List.drop_eq_getElem_cons hi, List.filter_cons, hself, List.take_succ_eq_append_getElem hi, List.filter_append]
  rw [if_neg (by simp), List.filter_eq_self.2 hhigh]
  simp [ho]
theorem find_filter (l : List Mp) (p : Int) : (l.filter fun m => over m p).find? (fun m => over m p) = l.find? fun m => over m p := by
  induction l with
  | nil => rfl
  | cons x l ih =>
    rw [List.filter_cons, List.find?_cons]
    cases hx : over x p with
    | true => rw [if_pos rfl, List.find?_cons, hx]
    | false => rw [if_neg (by simp)]; exact ih
theorem stage_find (all : List Mp) (p : Int) : find (stage all p all.length) p = find all p := by
  unfold stage find
  rw [List.drop_length, List.append_nil, List.take_of_length_le (Nat.le_refl _)]
  exact find_filter all p
end Bk
end Go.Proofs.Ytndhgomikpokpaa

namespace Go.Proofs.Ytndhgomikpokpaa
open Go.RowKit
theorem meet_comm (a b : Mp) : meet a b = meet b a := Bool.or_comm _ _
namespace Bk
/-- Of a page: its mapping stands at its place, or there is none. -/
theorem place {l : List Mp} (h : Ok l) (p : Int) : (find l p = none ∧ del l p = l ∧ ∀ r, prot l p r = l) ∨
    ∃ hl : pos l p < l.length, over l[pos l p] p = true ∧ find l p = some l[pos l p] ∧ 0 ≤ p ∧ p < 4096 ∧ del l p = l.take (pos l p) ++ l.drop (pos l p + 1) ∧
      ∀ r, prot l p r = l.take (pos l p) ++ { l[pos l p] with rights := r } :: l.drop (pos l p + 1) := by
  have hf := find_head h p
  have hd := del_head h p
  have hp := fun r => prot_head h p r
  cases e : l.dropWhile (before p) with
  | nil =>
    rw [e] at hf hd
    exact .inl ⟨hf, hd, fun r => by rw [hp r, e]⟩
  | cons y k =>
    obtain ⟨hl, hy⟩ := drop_head e
    rw [e] at hf hd
    have hk : l.drop (pos l p + 1) = k := by
      have h1 := drop_pos l p
      rw [e, List.drop_eq_getElem_cons hl] at h1
      injection h1 with _ h1
      exact h1.symm
    cases ho : over y p with
    | false =>
      refine .inl ⟨?_, ?_, fun r => ?_⟩
      · rw [hf]; exact if_neg (by rw [ho]; simp)
      · rw [hd]; exact if_neg (by rw [ho]; simp)
      · rw [hp r, e]; exact if_neg (by rw [ho]; simp)
    | true =>
      have hm := h.chk y (hy ▸ List.getElem_mem hl)
      have hov := over_iff.1 ho
      have := hm.p0; have := hm.p1
      refine .inr ⟨hl, by rw [hy]; exact ho, ?_, by omega, by omega, ?_, fun r => ?_⟩
      · rw [hf, hy]; exact if_pos ho
      · rw [hd, hk, ← take_pos]; exact if_pos ho
      · rw [hp r, e, hk, hy, ← take_pos]; exact if_pos ho
/-- What has a page stands at its place. -/
theorem over_at {l : List Mp} (h : Ok l) {p : Int} {k : Nat} (hk : k < l.length) (ho : over l[k] p = true) : k = pos l p ∧ find l p = some l[k] := by
  have hb := pos_iff h p hk
  have hn : before p l[k] = false := by unfold before; rw [ho]; rfl
  rw [hn] at hb
  have hge := of_decide_eq_false hb.symm
  rcases place h p with ⟨hf, _⟩ | ⟨hl, ho2, hf, _⟩
  · unfold find at hf
    have := List.find?_eq_none.1 hf l[k] (List.getElem_mem hk)
    exact absurd ho this
  · by_cases e : k = pos l p
    · subst e; exact ⟨rfl, hf⟩
    · have := List.pairwise_iff_getElem.1 h.up (pos l p) k hl hk (by omega)
      have a := over_iff.1 ho
      have b := over_iff.1 ho2
      omega
theorem over_none {l : List Mp} {p : Int} (hf : find l p = none) {k : Nat} (hk : k < l.length) : over l[k] p = false := by
  have := List.find?_eq_none.1 hf l[k] (List.getElem_mem hk)
  simpa using this
/-- Whether something meets a mapping: what stands at its place tells. -/
theorem bad_at {l : List Mp} (h : Ok l) {m : Mp} (hm : MapOk m) : bad l m = if h : pos l m.page < l.length then meet m l[pos l m.page] else false := by
  have hb := bad_head h hm
  cases e : l.dropWhile (before m.page) with
  | nil =>
    have := drop_nil e
    rw [e] at hb
    rw [dif_neg (by omega)]
    exact hb
  | cons y k =>
    obtain ⟨hl, hy⟩ := drop_head e
    rw [e] at hb
    rw [dif_pos hl, hy, meet_comm]
    exact hb
theorem bad_find {l : List Mp} {m : Mp} (hf : (find l m.page).isSome = true) : bad l m = true := by
  obtain ⟨y, hy⟩ := Option.isSome_iff_exists.1 hf
  have hm := List.mem_of_find?_eq_some hy
  have ho := List.find?_some hy
  exact List.any_eq_true.2 ⟨y, hm, by show (over y m.page || over m y.page) = true; rw [ho]; rfl⟩
theorem addC_check {l : List Mp} {m : Mp} (h : check m ≠ 0) : addC l m = check m ∧ add l m = l := by
  unfold addC Bk.add
  exact ⟨if_pos h, if_neg fun e => h e.1⟩
theorem addC_bad {l : List Mp} {m : Mp} (h : check m = 0) (hb : bad l m = true) : addC l m = 4 ∧ add l m = l := by
  unfold addC Bk.add
  exact ⟨by rw [if_neg (by omega), if_pos hb], if_neg fun e => by rw [hb] at e; cases e.2⟩
theorem addC_ok {l : List Mp} {m : Mp} (h : check m = 0) (hb : bad l m = false) : addC l m = 0 ∧ add l m = l.take (pos l m.page) ++ m :: l.drop (pos l m.page) := by
  unfold addC Bk.add
  exact ⟨by rw [if_neg (by omega), if_neg (by rw [hb]; simp)], by rw [if_pos ⟨h, hb⟩, ins_eq]⟩
/-- What Drop tells, and what it leaves. -/
def dropR (l : List Mp) (p : Int) : Option Mp := if hasB p = true then find l p else none
def dropC (l : List Mp) (p : Int) : Int := if hasB p = true then (if (find l p).isSome = true then 0 else 5) else 1
def dropL (l : List Mp) (p : Int) : List Mp := if hasB p = true then del l p else l
theorem Ok.dropL {l : List Mp} (h : Ok l) (p : Int) : Ok (dropL l p) := by
  unfold Bk.dropL
  split
  · exact h.del p
  · exact h
/-- What Protect tells, and what it leaves. -/
def protB (p r : Int) : Bool := hasB p && decide (0 ≤ r) && decide (r ≤ 7)
def protR (l : List Mp) (p r : Int) : Option Mp := if protB p r = true then (find l p).map fun x => { x with rights := r } else none
def protC (l : List Mp) (p r : Int) : Int := if protB p r = true then (if (find l p).isSome = true then 0 else 5) else 1
def protL (l : List Mp) (p r : Int) : List Mp := if protB p r = true then prot l p r else l
theorem protB_iff {p r : Int} : protB p r = true ↔ 0 ≤ p ∧ p < 4096 ∧ 0 ≤ r ∧ r ≤ 7 := by
  unfold protB hasB
  simp only [Bool.and_eq_true, decide_eq_true_eq]
  omega
theorem Ok.protL {l : List Mp} (h : Ok l) (p r : Int) : Ok (protL l p r) := by
  unfold Bk.protL
  split
  · rename_i hb
    have := protB_iff.1 hb
    exact h.prot p this.2.2.1 this.2.2.2
  · exact h
def ans (l : List Mp) (a : Ac) : An := match find l a.page with | none => ⟨1, 0, 0⟩ | some m => answer m a
end Bk
def mpOf : Option Mp → Value
  | none => .agg #[(Value.int .i64) 0, (Value.int .i64) 0, (Value.int .i64) 0, (Value.int .i64) 0]
  | some x => .agg #[(Value.int .i64) x.page, (Value.int .i64) x.size, (Value.int .i64) x.frame, (Value.int .i64) x.rights]
end Go.Proofs.Ytndhgomikpokpaa
