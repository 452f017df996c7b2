/- What is found is used again, as plain Lean: the law CoreKeeps with no program in sight. -/
import Derived.Test.YtndhgomikpokpaaCoreM
import Derived.Test.YtndhgomikpokpaaMemS
namespace Go.Proofs.Ytndhgomikpokpaa
open Go.RowKit

theorem endR_done {s : Ms} {root : Int} {a : Ac} (hc : (way s root a.page).code = 0) (hf : (endR (way s root a.page) a).an.fin = 0) :
    ∃ m d, endR (way s root a.page) a = ⟨true, answer m a, ⟨m, d⟩⟩ ∧ check m = 0 ∧ over m a.page = true ∧ meet m ⟨a.page, 0, 0, 0⟩ = true ∧ (d = true ∨ a.kind ≠ 1) := by
  obtain ⟨hp, l, u, htab, hu, h0, h3, he, hdc⟩ := way_form hc
  unfold endR at hf ⊢
  cases ht : (way s root a.page).e.there with
  | false => rw [if_pos ht] at hf; cases hf
  | true =>
    have hlf := way_leaf hc ht
    rw [if_neg (by rw [ht]; simp)] at hf
    rw [if_neg (by simp)]
    cases hm : may (way s root a.page).e.rights a with
    | false => rw [if_pos hm] at hf; cases hf
    | true =>
      rw [if_neg (by simp)]
      refine ⟨_, _, rfl, ?_⟩
      have hef : entFault (way s root a.page).e (way s root a.page).lev = 0 := by rw [he]; exact (enc_dec hdc).1
      generalize way s root a.page = y at *
      obtain ⟨code, tabs, lev, e⟩ := y
      dsimp only at *
      have ok := entOk_of hef ht
      obtain ⟨l3, hfr⟩ := ok.leaf hlf
      have hp' : 0 ≤ a.page ∧ a.page < 4096 := by simpa [hasB] using hp
      have hsp : (lev = 0 ∧ span lev = 1) ∨ (lev = 1 ∧ span lev = 8) ∨ (lev = 2 ∧ span lev = 64) := by
        have : lev = 0 ∨ lev = 1 ∨ lev = 2 := by omega
        rcases this with rfl | rfl | rfl
        · left; exact ⟨rfl, rfl⟩
        · right; left; exact ⟨rfl, rfl⟩
        · right; right; exact ⟨rfl, rfl⟩
      have hlm : leafMap e lev a.page = ⟨a.page / span lev * span lev, lev, e.frame, e.rights⟩ := by unfold leafMap; rw [if_pos ⟨hef, hlf, hp'⟩]
      rw [hlm]
      have r0 := ok.r0
      have r7 := ok.r7
      have f0 := ok.f0
      have f1 := ok.f1
      have e1 : 0 ≤ a.page / span lev * span lev ∧ a.page / span lev * span lev ≤ a.page ∧ a.page - a.page / span lev * span lev < span lev ∧ a.page / span lev * span lev % span lev = 0 := by
        refine ⟨?_, ?_, ?_, Int.mul_emod_left _ _⟩ <;> rcases hsp with ⟨_, e⟩ | ⟨_, e⟩ | ⟨_, e⟩ <;> rw [e] <;> omega
      generalize a.page / span lev * span lev = P at *
      have hov : over ⟨P, lev, e.frame, e.rights⟩ a.page = true := by unfold over; simp; omega
      refine ⟨?_, hov, ?_, ?_⟩
      · unfold check
        dsimp only
        rw [if_neg (by rcases hsp with ⟨_, e⟩ | ⟨_, e⟩ | ⟨_, e⟩ <;> rw [e] <;> omega), if_neg (by omega), if_neg (by rw [e1.2.2.2, hfr]; simp)]
      · unfold meet
        rw [show over ⟨P, lev, e.frame, e.rights⟩ (⟨a.page, 0, 0, 0⟩ : Mp).page = true from hov]
        rfl
      · unfold markE
        dsimp only
        by_cases hk : a.kind = 1
        · left; rw [hk]; simp
        · right; exact hk

/-- Words that go. -/
def noughts (s : Ms) : Nat → Ms | 0 => s | i + 1 => storeS (noughts s i) 0 (i : Int) 0
theorem storeS_has (s : Ms) (k i v : Int) (u : Int) : (storeS s k i v).has u = s.has u := by
  unfold storeS
  split <;> rfl
theorem noughts_has (s : Ms) (u : Int) : ∀ i, (noughts s i).has u = s.has u
  | 0 => rfl
  | i + 1 => by unfold noughts; rw [storeS_has, noughts_has s u i]
theorem noughts_ok {s : Ms} (h : s.Ok) : ∀ i, (noughts s i).Ok
  | 0 => h
  | i + 1 => (noughts_ok h i).storeS _ _ ⟨by omega, by omega⟩
theorem noughts_wd {s : Ms} (h : s.has 0 = true) : ∀ i, i ≤ 8 → ∀ j, j < i → (noughts s i).wd 0 j = 0
  | 0, _, j, hj => by omega
  | i + 1, hi, j, hj => by
    have hw : (noughts s i).hasW 0 (i : Int) = true := by
      unfold Ms.hasW
      rw [noughts_has, h]
      simp
      omega
    have e : noughts s (i + 1) = (noughts s i).setW 0 i 0 := by
      show storeS (noughts s i) 0 (i : Int) 0 = _
      unfold storeS
      rw [if_pos hw]
      rfl
    rw [e]
    show (if (0 : Nat) = 0 ∧ j = i then (0 : Int) else (noughts s i).wd 0 j) = 0
    split
    · rfl
    · rename_i hn
      exact noughts_wd h i (by omega) j (by omega)
theorem takeS_has0 {s : Ms} (h : s.has 0 = true) : s.takeS.has 0 = true := by
  unfold Ms.takeS
  split
  · rename_i k hk
    unfold Ms.has at h ⊢
    unfold Ms.take
    dsimp only
    unfold fput
    simp at h ⊢
    refine ⟨h.1, ?_⟩
    by_cases hk0 : (0 : Nat) = k
    · subst hk0; simp
    · simp [hk0, h.2]
  · exact h
theorem putWords_has : ∀ (ws : List Int) (s : Ms) (i : Nat) (u : Int), (putWords s i ws).has u = s.has u
  | [], _, _, _ => rfl
  | w :: ws, s, i, u => by unfold putWords; rw [putWords_has ws, storeS_has]
theorem memS_has0 {n : Int} (h : 1 ≤ n) (ws : List Int) (T : Int) (hT : 1 ≤ T) : (memS n T ws).has 0 = true := by
  unfold memS
  rw [putWords_has]
  have : ∀ k, 1 ≤ k → (takeN (Ms.new n.toNat) k).has 0 = true := by
    intro k
    induction k with
    | zero => intro h; omega
    | succ k ih =>
      intro _
      unfold takeN
      by_cases hk : 1 ≤ k
      · exact takeS_has0 (ih hk)
      · obtain rfl : k = 0 := by omega
        unfold takeN Ms.takeS
        have ht : (Ms.new n.toNat).top = some 0 := by
          unfold Ms.top Ms.new
          simp
          omega
        rw [ht]
        unfold Ms.has Ms.take Ms.new fput
        simp
        omega
  exact this _ (by omega)
theorem endS_has (s : Ms) (y : Wy) (a : Ac) (u : Int) : (endS s y a).has u = s.has u := by
  unfold endS
  split <;> rfl
/-- Behind the words that are gone a walk ends at its first step. -/
theorem noughts_step {s : Ms} (h : s.has 0 = true) {k : Ck} {a : Ac} (hc : checkAccess a = 0) : (stepC (noughts s 8) 0 (k.begin 0 a)).r = ⟨true, ⟨1, 0, 0⟩, ⟨Mp.zero, false⟩⟩ ∧ (stepC (noughts s 8) 0 (k.begin 0 a)).code = 0 := by
  have hp : 0 ≤ a.page ∧ a.page < 4096 := by simpa [hasB] using check_has hc
  have hi : 0 ≤ index a.page 3 ∧ index a.page 3 < 8 := by
    unfold index
    rw [if_pos (by omega)]
    exact ⟨Int.emod_nonneg _ (by omega), Int.emod_lt_of_pos _ (by omega)⟩
  have hw : (k.begin 0 a).word (noughts s 8) = 0 := by
    have hz := noughts_wd h 8 (by omega) (index a.page 3).toNat (by omega)
    generalize noughts s 8 = S at *
    exact hz
  have hh : (noughts s 8).has 0 = true := by rw [noughts_has, h]
  generalize noughts s 8 = S at *
  have d0 := dec_zero (L := 3) (by omega)
  have e1 : decC 0 3 = 0 := d0.1
  have e2 : decE 0 3 = En.zero := d0.2
  have hst : stepC S 0 (k.begin 0 a) = (k.begin 0 a).endWith S 1 := by
    unfold stepC
    rw [hw]
    have l3 : (k.begin 0 a).level = 3 := rfl
    rw [l3, e1, e2, if_neg (show ¬ ((k.begin 0 a).on = false) by simp [Ck.begin]), if_neg (show ¬ (S.has (k.begin 0 a).t = false) by show ¬ (S.has 0 = false); rw [hh]; simp), if_neg (show ¬ ((k.begin 0 a).mark = true ∧ (0 : Int) ≠ (k.begin 0 a).w) by simp [Ck.begin]), if_neg (by simp), if_pos (by rfl)]
  rw [hst]
  exact ⟨rfl, rfl⟩
end Go.Proofs.Ytndhgomikpokpaa
