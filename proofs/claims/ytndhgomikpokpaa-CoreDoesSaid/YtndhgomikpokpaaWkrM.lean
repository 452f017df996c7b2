/- A walk from its begin to its end, as plain Lean: what it comes to by the way of its page; with no program in sight. -/
import Derived.Test.YtndhgomikpokpaaPathM
namespace Go.Proofs.Ytndhgomikpokpaa
open Go.RowKit

theorem check_has {a : Ac} (h : checkAccess a = 0) : hasB a.page = true := by
  unfold checkAccess at h
  unfold hasB
  split at h
  · cases h
  · split at h
    · cases h
    · simp; omega
theorem leafMap_mark {e : En} {l p : Int} (a : Ac) (hf : entFault e l = 0) (hl : e.leaf = true) : leafMap (markE e a) l p = leafMap e l p := by
  obtain ⟨h1, h2⟩ := mark_ok a hf hl
  unfold leafMap
  rw [h1, h2, hf, hl]
  rfl
theorem leafMap_rights {e : En} {l p : Int} (hf : entFault e l = 0) (hl : e.leaf = true) (hp : hasB p = true) : (leafMap e l p).rights = e.rights := by
  have h : 0 ≤ p ∧ p < 4096 := by simpa [hasB] using hp
  unfold leafMap
  rw [if_pos ⟨hf, hl, h⟩]
theorem setW_same (s : Ms) (k i : Nat) : s.setW k i (s.wd k i) = s := by
  unfold Ms.setW
  obtain ⟨n, tk, wd, next, back⟩ := s
  dsimp only
  congr 1
  funext a b
  split
  · rename_i h; rw [h.1, h.2]
  · rfl
theorem mark_twice (e : En) (a : Ac) : readyE (markE e a) a = true := by
  obtain ⟨t, l, r, u, d, f⟩ := e
  obtain ⟨p, k, us⟩ := a
  unfold readyE markE
  dsimp only
  cases d <;> simp
  by_cases h : k = 1 <;> simp [h]

/-- The memory behind a walk that was done. -/
def sW (s : Ms) (y : Wy) (a : Ac) : Ms := s.setW (y.tabs.getLastD 0).toNat (index a.page y.lev).toNat (encW (markE y.e a) y.lev)
/-- Is it done? -/
def doneB (y : Wy) (a : Ac) : Bool := y.e.there && may y.e.rights a
def endS (s : Ms) (y : Wy) (a : Ac) : Ms := if doneB y a = true then sW s y a else s
def endR (y : Wy) (a : Ac) : Rs :=
  if y.e.there = false then ⟨true, ⟨1, 0, 0⟩, ⟨Mp.zero, false⟩⟩
  else if may y.e.rights a = false then ⟨true, ⟨2, 0, 0⟩, ⟨Mp.zero, false⟩⟩
  else ⟨true, answer (leafMap y.e y.lev a.page) a, ⟨leafMap y.e y.lev a.page, (markE y.e a).dirty⟩⟩
/-- How many steps it takes. -/
def cntW (y : Wy) (a : Ac) : Int := 4 - y.lev + (if doneB y a = true ∧ readyE y.e a = false then 1 else 0)

structure OnWay (s : Ms) (root : Int) (a : Ac) (i : Nat) (c : Ck) : Prop where
  on : c.on = true
  acc : c.a = a
  ok : c.Ok
  lev : ∃ L : Nat, c.level = L ∧ L ≤ 3 ∧ (∃ ac, way s root a.page = wayA s a.page L c.t ac) ∧ (c.mark = false → i + L = 3) ∧ (c.mark = true → i + L = 4 ∧ s.has c.t = true ∧ c.word s = c.w)
theorem OnWay.start (s : Ms) (root : Int) {a : Ac} {c : Ck} (hc : checkAccess a = 0) (hon : c.on = true) (ha : c.a = a) (ht : c.t = root) (hl : c.level = 3) (hm : c.mark = false) : OnWay s root a 0 c := by
  refine ⟨hon, ha, ⟨fun _ => (by rw [ha]; exact hc), fun _ => (by omega), fun _ => (by omega), fun h => (by rw [hon] at h; cases h), fun h => (by rw [hm] at h; cases h), fun h => (by rw [hm] at h; cases h), fun h => (by rw [hm] at h; cases h), fun h => (by rw [hm] at h; cases h)⟩, 3, by rw [hl]; rfl, Nat.le_refl _, ⟨[], ?_⟩, fun _ => rfl, fun h => (by rw [hm] at h; cases h)⟩
  unfold way
  rw [if_pos (check_has hc), ht]
theorem OnWay.few {s : Ms} {root : Int} {a : Ac} {i : Nat} {c : Ck} (h : OnWay s root a i c) : i ≤ 4 := by
  obtain ⟨L, _, _, _, h1, h2⟩ := h.lev
  cases hm : c.mark with
  | true => have := (h2 hm).1; omega
  | false => have := h1 hm; omega
/-- What a step of it comes to. -/
inductive WayStep (s : Ms) (root : Int) (a : Ac) (i : Nat) (c : Ck) (r : Sp) : Prop
  | bad (h : r.code ≠ 0) (hc : (way s root a.page).code = r.code) (hr : r.r = Rs.zero) (hs : r.s = s) (hk : r.c = c)
  | on (h : r.code = 0) (hr : r.r = Rs.zero) (hs : r.s = s) (hw : OnWay s root a (i + 1) r.c)
  | done (h : r.code = 0) (hc : (way s root a.page).code = 0) (hr : r.r = endR (way s root a.page) a) (hs : r.s = endS s (way s root a.page) a) (hi : ((i + 1 : Nat) : Int) = cntW (way s root a.page) a) (hw : r.c.on = false) (hk : r.c.Ok)
theorem OnWay.step {s : Ms} {root : Int} {a : Ac} {i : Nat} {c : Ck} (hw : OnWay s root a i c) : WayStep s root a i c (stepC s root c) := by
  obtain ⟨L, hL, hL3, ⟨ac, hway⟩, hm0, hm1⟩ := hw.lev
  have hon := hw.on
  have ha := hw.acc
  have hck := hw.ok.acc hon
  rw [ha] at hck
  have hp := check_has hck
  have hword : c.word s = wordV s c.t (index a.page L) := by unfold Ck.word; rw [ha, hL]
  have hok := hw.ok.step s root
  cases hmk : c.mark with
  | true =>
    obtain ⟨hi, hh, hcw⟩ := hm1 hmk
    have hd := hw.ok.dec hmk
    obtain ⟨hth, hlf⟩ := hw.ok.leaf hmk
    have hmay := hw.ok.may hmk
    have hnr := hw.ok.need hmk
    rw [← hcw, hword, hL] at hd hth hlf hmay hnr
    rw [ha] at hmay hnr
    have hY := wayA_end (acc := ac) hh hd (.inr hlf)
    rw [← hway] at hY
    unfold stepC at hok ⊢
    rw [if_neg (by rw [hon]; simp), if_neg (by rw [hh]; simp), if_neg (by rintro ⟨_, h⟩; exact h hcw), if_neg (by rw [hword, hL]; simp [hd]), if_neg (by rw [hword, hL, hth]; simp), if_neg (by rw [hword, hL, hlf]; simp), if_neg (by rw [hword, hL, ha, hmay]; simp), if_pos hmk] at hok ⊢
    have hf := (enc_dec hd).1
    have hdone : doneB (way s root a.page) a = true := by rw [hY]; unfold doneB; simp [hth, hmay]
    refine .done rfl (by rw [hY]) ?_ ?_ ?_ rfl hok
    · unfold Ck.leafEnd endR
      rw [hY]
      dsimp only
      rw [if_neg (by rw [hth]; simp), if_neg (by rw [hmay]; simp), ha, hL, hword, leafMap_mark a hf hlf]
    · unfold Ck.leafEnd endS
      rw [if_pos hdone]
      unfold sW
      rw [hY, ha, hL, hword]
      simp
    · unfold cntW
      rw [hdone, hY]
      dsimp only
      rw [if_pos ⟨rfl, hnr⟩]
      omega
  | false =>
    have hi := hm0 hmk
    unfold stepC at hok ⊢
    rw [if_neg (by rw [hon]; simp)] at hok ⊢
    cases hh : s.has c.t with
    | false =>
      rw [if_pos rfl]
      rw [wayA_free hh] at hway
      exact .bad (show (12 : Int) ≠ 0 by decide) (by rw [hway]; rfl) rfl rfl rfl
    | true =>
      rw [hh] at hok
      rw [if_neg (by simp), if_neg (by rintro ⟨h, _⟩; rw [hmk] at h; cases h)] at hok ⊢
      by_cases hd : decC (wordV s c.t (index a.page L)) L = 0
      · rw [if_neg (by rw [hword, hL]; simp [hd])] at hok ⊢
        have hf := (enc_dec hd).1
        cases hth : (decE (wordV s c.t (index a.page L)) L).there with
        | false =>
          rw [if_pos (by rw [hword, hL]; exact hth)] at hok ⊢
          rw [wayA_end hh hd (.inl hth)] at hway
          refine .done rfl (by rw [hway]) ?_ ?_ ?_ rfl hok
          · unfold Ck.endWith endR
            rw [hway]
            dsimp only
            rw [if_pos hth]
          · unfold Ck.endWith endS doneB
            rw [hway]
            dsimp only
            rw [hth]
            simp
          · unfold cntW doneB
            rw [hway]
            dsimp only
            rw [hth]
            simp
            omega
        | true =>
          rw [if_neg (by rw [hword, hL, hth]; simp)] at hok ⊢
          cases hlf : (decE (wordV s c.t (index a.page L)) L).leaf with
          | false =>
            rw [if_pos (by rw [hword, hL]; exact hlf)] at hok ⊢
            obtain ⟨K, hK, hY⟩ := wayA_on (acc := ac) hh hd (by rw [hth, hlf]; simp)
            subst hK
            refine .on rfl rfl rfl ⟨hon, ha, hok, K, ?_, by omega, ⟨ac ++ [c.t], ?_⟩, fun _ => by omega, fun h => by rw [show c.mark = true from h] at hmk; cases hmk⟩
            · show c.level - 1 = _
              omega
            · rw [hway, hY]
              show _ = wayA s a.page K (decE (c.word s) c.level).frame _
              rw [hword, hL]
          | true =>
            rw [if_neg (by rw [hword, hL, hlf]; simp)] at hok ⊢
            rw [wayA_end hh hd (.inr hlf)] at hway
            cases hmay : may (decE (wordV s c.t (index a.page L)) L).rights a with
            | false =>
              rw [if_pos (by rw [hword, hL, ha]; exact hmay)] at hok ⊢
              refine .done rfl (by rw [hway]) ?_ ?_ ?_ rfl hok
              · unfold Ck.endWith endR
                rw [hway]
                dsimp only
                rw [if_neg (by rw [hth]; simp), if_pos hmay]
              · unfold Ck.endWith endS doneB
                rw [hway]
                dsimp only
                rw [hth, hmay]
                simp
              · unfold cntW doneB
                rw [hway]
                dsimp only
                rw [hth, hmay]
                simp
                omega
            | true =>
              rw [if_neg (by rw [hword, hL, ha, hmay]; simp), if_neg (by rw [hmk]; simp)] at hok ⊢
              have hdone : doneB (way s root a.page) a = true := by rw [hway]; unfold doneB; simp [hth, hmay]
              cases hr : readyE (decE (wordV s c.t (index a.page L)) L) a with
              | true =>
                rw [if_pos (by rw [hword, hL, ha]; exact hr)] at hok ⊢
                have hme := (mark_ready _ a).2 hr
                refine .done rfl (by rw [hway]) ?_ ?_ ?_ rfl hok
                · unfold Ck.leafEnd endR
                  rw [hway]
                  dsimp only
                  rw [if_neg (by rw [hth]; simp), if_neg (by rw [hmay]; simp), ha, hL, hword, hme]
                · unfold Ck.leafEnd endS
                  rw [if_pos hdone]
                  unfold sW
                  rw [hway]
                  dsimp only
                  rw [hme, (enc_dec hd).2]
                  have hg : (ac ++ [c.t]).getLastD 0 = c.t := by simp
                  rw [hg]
                  exact (setW_same s _ _).symm
                · unfold cntW
                  rw [hdone, hway]
                  dsimp only
                  rw [hr]
                  simp
                  omega
              | false =>
                rw [if_neg (by rw [hword, hL, ha, hr]; simp)] at hok ⊢
                refine .on rfl rfl rfl ⟨hon, ha, hok, L, hL, hL3, ⟨ac, ?_⟩, fun h => (by cases h), fun _ => ⟨by omega, hh, rfl⟩⟩
                rw [hway]
                exact (wayA_end hh hd (.inr hlf)).symm
      · rw [if_pos (by rw [hword, hL]; exact hd)]
        rw [wayA_bad hh hd] at hway
        exact .bad (by rw [hword, hL]; exact hd) (by rw [hway, hword, hL]; rfl) rfl rfl rfl
theorem wayA_form (s : Ms) (p : Int) : ∀ (L : Nat) (t : Int) (acc : List Int), (wayA s p L t acc).code = 0 → ∃ l u, (wayA s p L t acc).tabs = acc ++ (l ++ [u]) ∧ s.has u = true := by
  intro L
  induction L with
  | zero =>
    intro t acc hc
    cases h : s.has t with
    | false => rw [wayA_free h] at hc; cases hc
    | true =>
      by_cases hd : decC (wordV s t (index p (0 : Nat))) (0 : Nat) = 0
      · rw [wayA_end h hd (dec0_leaf hd)]
        exact ⟨[], t, rfl, h⟩
      · rw [wayA_bad h hd] at hc
        exact absurd hc hd
  | succ L ih =>
    intro t acc hc
    cases h : s.has t with
    | false => rw [wayA_free h] at hc; cases hc
    | true =>
      by_cases hd : decC (wordV s t (index p (L + 1 : Nat))) (L + 1 : Nat) = 0
      · by_cases he : (decE (wordV s t (index p (L + 1 : Nat))) (L + 1 : Nat)).there = false ∨ (decE (wordV s t (index p (L + 1 : Nat))) (L + 1 : Nat)).leaf = true
        · rw [wayA_end h hd he]
          exact ⟨[], t, rfl, h⟩
        · obtain ⟨K, hK, e⟩ := wayA_on (acc := acc) h hd he
          obtain rfl : L = K := by omega
          rw [e] at hc ⊢
          obtain ⟨l, u, h1, h2⟩ := ih _ _ hc
          exact ⟨t :: l, u, by rw [h1]; simp, h2⟩
      · rw [wayA_bad h hd] at hc
        exact absurd hc hd
/-- Where no table stands twice on a way, another leaf at its end is all that is changed. -/
theorem wayA_put {s : Ms} {p : Int} {v : Int} : ∀ (L : Nat) (t : Int) (acc : List Int) (y : Wy), wayA s p L t acc = y → y.code = 0 → y.tabs.Nodup →
    decC v y.lev = 0 → ((decE v y.lev).there = false ∨ (decE v y.lev).leaf = true) → wayA (s.setW (y.tabs.getLastD 0).toNat (index p y.lev).toNat v) p L t acc = { y with e := decE v y.lev } := by
  intro L
  induction L with
  | zero =>
    intro t acc y hy hc hn hv hve
    cases h : s.has t with
    | false => rw [wayA_free h] at hy; subst hy; cases hc
    | true =>
      by_cases hd : decC (wordV s t (index p (0 : Nat))) (0 : Nat) = 0
      · rw [wayA_end h hd (dec0_leaf hd)] at hy
        subst hy
        dsimp only at *
        have hg : (acc ++ [t]).getLastD 0 = t := by simp
        rw [hg]
        have hw : wordV (s.setW t.toNat (index p (0 : Nat)).toNat v) t (index p (0 : Nat)) = v := by unfold wordV Ms.setW; simp
        have := wayA_end (s := s.setW t.toNat (index p (0 : Nat)).toNat v) (p := p) (L := 0) (t := t) (acc := acc) h (by rw [hw]; exact hv) (by rw [hw]; exact hve)
        rw [hw] at this
        exact this
      · rw [wayA_bad h hd] at hy; subst hy; exact absurd hc hd
  | succ L ih =>
    intro t acc y hy hc hn hv hve
    cases h : s.has t with
    | false => rw [wayA_free h] at hy; subst hy; cases hc
    | true =>
      by_cases hd : decC (wordV s t (index p (L + 1 : Nat))) (L + 1 : Nat) = 0
      · by_cases he : (decE (wordV s t (index p (L + 1 : Nat))) (L + 1 : Nat)).there = false ∨ (decE (wordV s t (index p (L + 1 : Nat))) (L + 1 : Nat)).leaf = true
        · rw [wayA_end h hd he] at hy
          subst hy
          dsimp only at *
          have hg : (acc ++ [t]).getLastD 0 = t := by simp
          rw [hg]
          have hw : wordV (s.setW t.toNat (index p (L + 1 : Nat)).toNat v) t (index p (L + 1 : Nat)) = v := by unfold wordV Ms.setW; simp
          have := wayA_end (s := s.setW t.toNat (index p (L + 1 : Nat)).toNat v) (p := p) (L := L + 1) (t := t) (acc := acc) h (by rw [hw]; exact hv) (by rw [hw]; exact hve)
          rw [hw] at this
          exact this
        · obtain ⟨K, hK, e⟩ := wayA_on (acc := acc) h hd he
          obtain rfl : L = K := by omega
          rw [e] at hy
          obtain ⟨l, u, hform, hu⟩ := wayA_form s p L (decE (wordV s t (index p (L + 1 : Nat))) (L + 1 : Nat)).frame (acc ++ [t]) (by rw [hy]; exact hc)
          rw [hy] at hform
          have hg : y.tabs.getLastD 0 = u := by rw [hform, ← List.append_assoc, List.getLastD_concat]
          have htne : t ≠ u := by
            rw [hform] at hn
            rintro rfl
            simp [List.nodup_append] at hn
          have hrec := ih _ _ y hy hc hn hv hve
          rw [hg] at hrec ⊢
          have hnat : t.toNat ≠ u.toNat := by
            have a1 := (Ms.has_iff.1 h).1
            have a2 := (Ms.has_iff.1 hu).1
            omega
          have hw : wordV (s.setW u.toNat (index p y.lev).toNat v) t (index p (L + 1 : Nat)) = wordV s t (index p (L + 1 : Nat)) := by
            unfold wordV Ms.setW
            dsimp only
            rw [if_neg (fun h => hnat h.1)]
          obtain ⟨K, hK, e'⟩ := wayA_on (s := s.setW u.toNat (index p y.lev).toNat v) (p := p) (L := L + 1) (t := t) (acc := acc) h (by rw [hw]; exact hd) (by rw [hw]; exact he)
          obtain rfl : L = K := by omega
          rw [e', hw]
          exact hrec
      · rw [wayA_bad h hd] at hy; subst hy; exact absurd hc hd
theorem wayA_word (s : Ms) (p : Int) : ∀ (L : Nat) (t : Int) (acc : List Int), (wayA s p L t acc).code = 0 → ∀ u, (wayA s p L t acc).tabs.getLastD 0 = u →
    (wayA s p L t acc).e = decE (wordV s u (index p (wayA s p L t acc).lev)) (wayA s p L t acc).lev ∧ decC (wordV s u (index p (wayA s p L t acc).lev)) (wayA s p L t acc).lev = 0 ∧ ((wayA s p L t acc).e.there = false ∨ (wayA s p L t acc).e.leaf = true) := by
  intro L
  induction L with
  | zero =>
    intro t acc hc u hu
    cases h : s.has t with
    | false => rw [wayA_free h] at hc; cases hc
    | true =>
      by_cases hd : decC (wordV s t (index p (0 : Nat))) (0 : Nat) = 0
      · rw [wayA_end h hd (dec0_leaf hd)] at hu ⊢
        obtain rfl : t = u := by simpa using hu
        exact ⟨rfl, hd, dec0_leaf hd⟩
      · rw [wayA_bad h hd] at hc
        exact absurd hc hd
  | succ L ih =>
    intro t acc hc u hu
    cases h : s.has t with
    | false => rw [wayA_free h] at hc; cases hc
    | true =>
      by_cases hd : decC (wordV s t (index p (L + 1 : Nat))) (L + 1 : Nat) = 0
      · by_cases he : (decE (wordV s t (index p (L + 1 : Nat))) (L + 1 : Nat)).there = false ∨ (decE (wordV s t (index p (L + 1 : Nat))) (L + 1 : Nat)).leaf = true
        · rw [wayA_end h hd he] at hu ⊢
          obtain rfl : t = u := by simpa using hu
          exact ⟨rfl, hd, he⟩
        · obtain ⟨K, hK, e⟩ := wayA_on (acc := acc) h hd he
          obtain rfl : L = K := by omega
          rw [e] at hc hu ⊢
          exact ih _ _ hc u hu
      · rw [wayA_bad h hd] at hc
        exact absurd hc hd
theorem way_leaf {s : Ms} {root p : Int} (h : (way s root p).code = 0) (ht : (way s root p).e.there = true) : (way s root p).e.leaf = true := by
  unfold way at h ht ⊢
  split at h
  · rename_i hp
    rw [if_pos hp] at ht ⊢
    rcases (wayA_word s p 3 root [] h _ rfl).2.2 with h' | h'
    · rw [h'] at ht; cases ht
    · exact h'
  · cases h
theorem mark_mark (e : En) (a : Ac) : markE (markE e a) a = markE e a := (mark_ready _ a).2 (mark_twice e a)
theorem way_form {s : Ms} {root p : Int} (h : (way s root p).code = 0) : hasB p = true ∧ ∃ l u, (way s root p).tabs = l ++ [u] ∧ s.has u = true ∧ 0 ≤ (way s root p).lev ∧ (way s root p).lev ≤ 3 ∧ (way s root p).e = decE (wordV s u (index p (way s root p).lev)) (way s root p).lev ∧ decC (wordV s u (index p (way s root p).lev)) (way s root p).lev = 0 := by
  unfold way at h ⊢
  split at h
  · rename_i hp
    rw [if_pos hp]
    refine ⟨hp, ?_⟩
    obtain ⟨l, u, h1, h2⟩ := wayA_form s p 3 root [] h
    obtain ⟨h3, h4, _⟩ := wayA_len s p 3 root [] h
    refine ⟨l, u, by rw [h1]; rfl, h2, h3, by omega, ?_⟩
    have := wayA_word s p 3 root [] h u (by rw [h1]; simp)
    exact ⟨this.1, this.2.1⟩
  · cases h
/-- A walk again: the way behind a walk that was done. -/
theorem way_again {s : Ms} {root : Int} {a : Ac} (h : (way s root a.page).code = 0) (hn : (way s root a.page).tabs.Nodup) :
    ∃ y, way (endS s (way s root a.page) a) root a.page = y ∧ y.code = 0 ∧ y.lev = (way s root a.page).lev ∧ endR y a = endR (way s root a.page) a ∧ cntW y a ≤ cntW (way s root a.page) a := by
  by_cases hd : doneB (way s root a.page) a = true
  · obtain ⟨hp, l, u, htab, hu, h0, h3, he, hdc⟩ := way_form h
    have hb : (way s root a.page).e.there = true ∧ may (way s root a.page).e.rights a = true := by
      unfold doneB at hd; simpa using hd
    have hf : entFault (way s root a.page).e (way s root a.page).lev = 0 := by rw [he]; exact (enc_dec hdc).1
    have hlf := way_leaf h hb.1
    obtain ⟨hmf, hml⟩ := mark_ok a hf hlf
    obtain ⟨d1, d2, d3⟩ := dec_enc hmf
    have hput : way (sW s (way s root a.page) a) root a.page = { (way s root a.page) with e := markE (way s root a.page).e a } := by
      have := wayA_put (s := s) (p := a.page) (v := encW (markE (way s root a.page).e a) (way s root a.page).lev) 3 root [] (way s root a.page) (by unfold way; rw [if_pos hp]) h hn d1 (by rw [d2]; exact .inr hml)
      rw [d2] at this
      unfold sW
      conv => lhs; unfold way
      rw [if_pos hp]
      exact this
    refine ⟨{ (way s root a.page) with e := markE (way s root a.page).e a }, by unfold endS; rw [if_pos hd]; exact hput, h, rfl, ?_, ?_⟩
    · unfold endR
      dsimp only
      rw [leafMap_mark a hf hlf]
      have hth : (markE (way s root a.page).e a).there = true := hb.1
      have hmy : may (markE (way s root a.page).e a).rights a = true := hb.2
      rw [hth, hmy, hb.1, hb.2, mark_mark]
    · unfold cntW
      dsimp only
      rw [mark_twice]
      split
      · rename_i h; cases h.2
      · split <;> omega
  · refine ⟨_, rfl, ?_, ?_, ?_, ?_⟩ <;> (have e : endS s (way s root a.page) a = s := by unfold endS; rw [if_neg hd])
    · rw [e]; exact h
    · rw [e]
    · rw [e]
    · rw [e]; exact Int.le_refl _
theorem encW_u64 (e : En) (l : Int) : 0 ≤ encW e l ∧ encW e l < 18446744073709551616 := by
  unfold encW
  split
  · rename_i h
    obtain ⟨_, a, b⟩ := wordE_ne (entOk_of h.1 h.2)
    omega
  · omega
theorem endS_n (s : Ms) (y : Wy) (a : Ac) : (endS s y a).n = s.n := by
  unfold endS
  split <;> rfl
end Go.Proofs.Ytndhgomikpokpaa
