/- Memories that differ in words of frames that are not in use alone: all that is told of them is the same. Plain law, with no program in sight. -/
import Derived.Test.YtndhgomikpokpaaPathM
namespace Go.Proofs.Ytndhgomikpokpaa
open Go.RowKit

structure Agree (s s' : Ms) : Prop where
  n : s.n = s'.n
  tk : ∀ k, s.tk k = s'.tk k
  fr : s.frees = s'.frees
  wd : ∀ k i, s.tk k = true → s.wd k i = s'.wd k i
section
variable {s s' : Ms}
theorem Agree.refl (s : Ms) : Agree s s := ⟨rfl, fun _ => rfl, rfl, fun _ _ _ => rfl⟩
theorem Agree.symm (h : Agree s s') : Agree s' s := ⟨h.n.symm, fun k => (h.tk k).symm, h.fr.symm, fun k i ht => (h.wd k i (by rw [h.tk]; exact ht)).symm⟩
theorem Agree.trans {s2 : Ms} (h : Agree s s') (k : Agree s' s2) : Agree s s2 := ⟨h.n.trans k.n, fun j => (h.tk j).trans (k.tk j), h.fr.trans k.fr, fun j i ht => (h.wd j i ht).trans (k.wd j i (by rw [← h.tk]; exact ht))⟩
theorem Agree.has (h : Agree s s') (k : Int) : s.has k = s'.has k := by
  unfold Ms.has
  rw [h.n, h.tk]
theorem Agree.word (h : Agree s s') {t : Int} (ht : s.has t = true) (i : Int) : wordV s t i = wordV s' t i := h.wd _ _ (Ms.has_iff.1 ht).2.2
theorem Agree.wayStep (h : Agree s s') (p : Int) (L : Nat) (t : Int) (acc : List Int) {f g : Int → Wy} (hfg : ∀ x, f x = g x) : wayStep s p L t acc f = wayStep s' p L t acc g := by
  unfold Go.Proofs.Ytndhgomikpokpaa.wayStep
  rw [← h.has t]
  cases ht : s.has t with
  | false => rfl
  | true => rw [h.word ht, hfg]
theorem Agree.wayA (h : Agree s s') (p : Int) : ∀ (L : Nat) (t : Int) (acc : List Int), wayA s p L t acc = wayA s' p L t acc
  | 0, t, acc => h.wayStep p 0 t acc fun _ => rfl
  | L + 1, t, acc => h.wayStep p (L + 1) t acc fun _ => Agree.wayA h p L _ _
theorem Agree.way (h : Agree s s') (r p : Int) : way s r p = way s' r p := by
  unfold Go.Proofs.Ytndhgomikpokpaa.way
  rw [h.wayA p 3 r []]
theorem Agree.scanV (h : Agree s s') (L : Nat) {t : Int} (ht : s.has t = true) (a : Int) {f g : Int → Int → Vs} (hfg : ∀ x y, f x y = g x y) : ∀ is : List Nat, scanV s L t a f is = scanV s' L t a g is
  | [] => rfl
  | i :: is => by
    unfold Go.Proofs.Ytndhgomikpokpaa.scanV
    rw [h.word ht, Agree.scanV h L ht a hfg is]
    simp only [hfg]
theorem Agree.eachV (h : Agree s s') : ∀ (L : Nat) (t a : Int), eachV s L t a = eachV s' L t a
  | 0, t, a => by
    unfold Go.Proofs.Ytndhgomikpokpaa.eachV
    rw [← h.has t]
    cases ht : s.has t with
    | false => rfl
    | true => rw [if_neg (by simp), if_neg (by simp)]; exact h.scanV 0 ht a (fun _ _ => rfl) _
  | L + 1, t, a => by
    unfold Go.Proofs.Ytndhgomikpokpaa.eachV
    rw [← h.has t]
    cases ht : s.has t with
    | false => rfl
    | true => rw [if_neg (by simp), if_neg (by simp)]; exact h.scanV (L + 1) ht a (fun x y => Agree.eachV h L x y) _
theorem Agree.top (h : Agree s s') : s.top = s'.top := by rw [← Ms.frees_top, ← Ms.frees_top, h.fr]
theorem Agree.setW (h : Agree s s') (k i : Nat) (v : Int) : Agree (s.setW k i v) (s'.setW k i v) :=
  ⟨h.n, h.tk, h.fr, fun a b ht => by
    show (if a = k ∧ b = i then v else s.wd a b) = (if a = k ∧ b = i then v else s'.wd a b)
    rw [h.wd a b ht]⟩
theorem Agree.findC (h : Agree s s') (r p : Int) : findC s r p = findC s' r p := by unfold Go.Proofs.Ytndhgomikpokpaa.findC; rw [h.way r p]
theorem Agree.findM (h : Agree s s') (r p : Int) : findM s r p = findM s' r p := by unfold Go.Proofs.Ytndhgomikpokpaa.findM; rw [h.way r p, h.findC r p]
theorem Agree.findE (h : Agree s s') (r p : Int) : findE s r p = findE s' r p := by unfold Go.Proofs.Ytndhgomikpokpaa.findE; rw [h.way r p, h.findC r p]
theorem Agree.insC (h : Agree s s') (r : Int) (x : Mp) : insC s r x = insC s' r x := by unfold Go.Proofs.Ytndhgomikpokpaa.insC; rw [h.way r x.page, h.fr]
end
end Go.Proofs.Ytndhgomikpokpaa
