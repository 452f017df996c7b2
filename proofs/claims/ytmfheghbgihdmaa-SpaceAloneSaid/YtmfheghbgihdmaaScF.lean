/- A space's end: acks clear what is waited for; unmaps empty the book; plain law, with no program in sight. -/
import Derived.Test.YtmfheghbgihdmaaTabB
import Derived.Test.YtmfheghbgihdmaaTabF
namespace Go.Proofs.Ytmfheghbgihdmaa
open Go.RowKit
def ackStp (k : Int) : Stp := ⟨6, k, ⟨0, 0, 0, 0⟩, ⟨0, 0, false⟩⟩
theorem act_ack {σ : Sc} {k : Nat} (hk : k < σ.cs.length) : σ.act (ackStp k) = σ.ack k := by
  unfold Sc.act ackStp
  dsimp only
  rw [if_neg (by omega), if_neg (by omega), if_neg (by omega), if_neg (by omega), if_neg (by omega), if_pos rfl]
  rfl
theorem ack_wait {σ : Sc} {k i : Nat} (h : (σ.ack k).1.wait i = true) : σ.wait i = true ∧ i ≠ k := by
  unfold Sc.ack at h
  by_cases hk : σ.wait k = false
  · rw [if_pos hk] at h
    refine ⟨h, fun e => ?_⟩
    subst e
    rw [hk] at h
    cases h
  · rw [if_neg hk] at h
    have h2 : ackW σ.wait k i = true := by
      split at h
      · exact h
      · exact h
    by_cases hik : i = k
    · subst hik
      rw [Safe.ack_off] at h2
      cases h2
    · rw [Safe.ack_ne _ hik] at h2
      exact ⟨h2, hik⟩
namespace Safe
variable {σ : Sc} {P : List Mp}
theorem idle (h : Safe σ P) (hw : ∀ i, i < σ.cs.length → σ.wait i = false) : σ.busy = false := by
  cases hb : σ.busy with
  | false => rfl
  | true =>
    obtain ⟨i, hi, hi2⟩ := h.busy hb
    rw [hw i hi] at hi2
    cases hi2
/-- Behind the acks of the cores below k. -/
structure Acked (σ : Sc) (k : Nat) : Prop where
  w : ∀ i, i < k → σ.wait i = false
theorem Acked.next {k : Nat} (h : Acked σ k) : Acked (σ.act (ackStp k)).1 (k + 1) ∨ σ.cs.length ≤ k := by
  by_cases hk : k < σ.cs.length
  · left
    rw [act_ack hk]
    refine ⟨fun i hi => ?_⟩
    cases hw : (σ.ack k).1.wait i with
    | false => rfl
    | true =>
      obtain ⟨h1, h2⟩ := ack_wait hw
      rw [h.w i (by omega)] at h1
      cases h1
  · right; omega
/-- A change is looked after by the cores from k on. -/
structure Due (σ : Sc) (K k : Nat) (L : List Mp) : Prop where
  w : ∀ i, σ.wait i = decide (k ≤ i ∧ i < K)
  book : allM σ.s 0 = L
theorem Due.next (h : Safe σ P) {K k : Nat} {L : List Mp} (d : Due σ K k L) (hK : σ.cs.length = K) (hk : k < K) :
    (σ.act (ackStp k)).2 = ⟨0, false, An.zero, decide (k + 1 = K)⟩ ∧ Due (σ.act (ackStp k)).1 K (k + 1) L := by
  have hk2 : k < σ.cs.length := by omega
  have hb := h.book_ack k
  rw [act_ack hk2]
  have h4 := h.ok.few
  have hw : σ.wait k = true := by rw [d.w]; simp [hk]
  have hw2 : ∀ i, (σ.heed k).wait i = decide (k + 1 ≤ i ∧ i < K) := by
    intro i
    show ackW σ.wait k i = _
    by_cases hik : i = k
    · subst hik
      rw [ack_off]
      symm
      rw [decide_eq_false_iff_not]
      omega
    · rw [ack_ne _ hik, d.w]
      apply decide_eq_decide.2
      omega
  have ho : overB (σ.heed k).wait = decide (k + 1 = K) := by
    unfold overB
    rw [hw2, hw2, hw2, hw2]
    have : K ≤ 4 := by omega
    have hc : (k = 0 ∨ k = 1 ∨ k = 2 ∨ k = 3) ∧ (K = 1 ∨ K = 2 ∨ K = 3 ∨ K = 4) := by omega
    obtain ⟨h1 | h1 | h1 | h1, h2 | h2 | h2 | h2⟩ := hc <;> subst h1 <;> subst h2 <;> first | rfl | omega
  unfold Sc.ack at hb ⊢
  rw [if_neg (by rw [hw]; simp)] at hb ⊢
  by_cases hkk : k + 1 = K
  · rw [if_pos (by rw [ho]; exact decide_eq_true hkk)] at hb ⊢
    exact ⟨by rw [decide_eq_true hkk], hw2, hb.trans d.book⟩
  · rw [if_neg (by rw [ho]; simpa using hkk)] at hb ⊢
    exact ⟨by rw [decide_eq_false hkk]; rfl, hw2, hb.trans d.book⟩
end Safe
end Go.Proofs.Ytmfheghbgihdmaa
namespace Go.Proofs.Ytmfheghbgihdmaa
open Go.RowKit
theorem depth_le {s : Ms} {r p t u : Int} {d e : Nat} (he : Ends s r p d t) (ht : tabD s r p e = some u) : e ≤ d := by
  rcases Nat.lt_or_ge d e with h | h
  · have := tabD_none_mono (tabD_none he.tab he.no) e h
    rw [this] at ht
    cases ht
  · exact h
theorem ends_le {s s' : Ms} {g g' : List Int} {r r' p t t' : Int} {d d' : Nat} (hw : Wf s r g (fun _ => False)) (hw' : Wf s' r' g' (fun _ => False)) (hm : ∀ q, InP q → mapAt s' r' q = mapAt s r q) (hp : InP p) (he : Ends s r p d t) (he' : Ends s' r' p d' t') : d ≤ d' := by
  cases d with
  | zero => omega
  | succ d =>
    have hle := he.le
    obtain ⟨q, hq, hpre, hne⟩ := hw.some_map (2 - d) d (by omega) hp he.tab
    obtain ⟨d1, t1, h1⟩ := hw.ends q hq
    obtain ⟨d2, t2, h2⟩ := hw'.ends q hq
    have e1 := mapAt_ends hq h1
    have e2 := mapAt_ends hq h2
    rw [hm q hq] at e2
    have l1 : (eOf s q t1 (3 - d1)).leaf = true := by
      cases hl : (eOf s q t1 (3 - d1)).leaf with
      | true => rfl
      | false => rw [hl, if_neg (by simp)] at e1; exact absurd e1 hne
    have l2 : (eOf s' q t2 (3 - d2)).leaf = true := by
      cases hl : (eOf s' q t2 (3 - d2)).leaf with
      | true => rfl
      | false => rw [hl, if_neg (by simp)] at e2; exact absurd e2 hne
    rw [if_pos l1, (h1.map hq l1).2.1] at e1
    rw [if_pos l2, (h2.map hq l2).2.1, e1] at e2
    injection e2 with e2
    injection e2 with _ e3 _ _
    have b1 := h1.le
    have b2 := h2.le
    have f1 : tabD s r q (d + 1) = some t := (tabD_prefix s r hq hp (d + 1) (by omega) (by rw [show 4 - (d + 1) = 3 - d by omega]; exact hpre)).trans he.tab
    have f2 := depth_le h1 f1
    obtain ⟨u, hu⟩ := tabD_some_mono h2.tab (d := d + 1) (by omega)
    have f3 : tabD s' r' p (d + 1) = some u := (tabD_prefix s' r' hp hq (d + 1) (by omega) (by rw [show 4 - (d + 1) = 3 - d by omega]; exact hpre.symm)).trans hu
    exact depth_le he' f3
theorem way_same {s s' : Ms} {g g' : List Int} {p : Int} (hw : Wf s 0 g (fun _ => False)) (hw' : Wf s' 0 g' (fun _ => False)) (hm : ∀ q, InP q → mapAt s' 0 q = mapAt s 0 q) (hp : InP p) :
    (way s' 0 p).lev = (way s 0 p).lev ∧ (way s' 0 p).e.there = (way s 0 p).e.there := by
  obtain ⟨d, t, he⟩ := hw.ends p hp
  obtain ⟨d', t', he'⟩ := hw'.ends p hp
  have h1 := ends_le hw hw' hm hp he he'
  have h2 := ends_le hw' hw (fun q hq => (hm q hq).symm) hp he' he
  have hd : d' = d := by omega
  subst hd
  obtain ⟨-, k1⟩ := wayE_map hw hp
  obtain ⟨-, k2⟩ := wayE_map hw' hp
  refine ⟨by rw [way_ends hp.1 hp.2 he, way_ends hp.1 hp.2 he'], ?_⟩
  have hmp := hm p hp
  have e1 : (mapAt s 0 p).isSome = (way s 0 p).e.leaf := by unfold mapAt; cases (way s 0 p).e.leaf <;> rfl
  have e2 : (mapAt s' 0 p).isSome = (way s' 0 p).e.leaf := by unfold mapAt; cases (way s' 0 p).e.leaf <;> rfl
  rw [hmp, e1] at e2
  rw [← e2] at k2
  cases ha : (way s 0 p).e.there with
  | true => exact k2.2 (k1.1 ha)
  | false =>
    cases hb : (way s' 0 p).e.there with
    | false => rfl
    | true => rw [k1.2 (k2.1 hb)] at ha; cases ha
/-- What Insert tells hangs on the book and on how many frames are free. -/
theorem insC_same {s s' : Ms} {g g' : List Int} (hw : Wf s 0 g (fun _ => False)) (hw' : Wf s' 0 g' (fun _ => False)) (hm : ∀ q, InP q → mapAt s' 0 q = mapAt s 0 q) (hf : s'.frees.length = s.frees.length) (x : Mp) : insC s' 0 x = insC s 0 x := by
  unfold insC
  by_cases hc : check x ≠ 0
  · rw [if_pos hc, if_pos hc]
  rw [if_neg hc, if_neg hc]
  by_cases hp : InP x.page
  · obtain ⟨a1, a2⟩ := way_same hw hw' hm hp
    rw [(wayE_map hw hp).1, (wayE_map hw' hp).1, a1, a2, hf]
  · rw [find_out hp, find_out hp]
    rfl
end Go.Proofs.Ytmfheghbgihdmaa
namespace Go.Proofs.Ytmfheghbgihdmaa
open Go.RowKit
def walkStp (k : Int) : Stp := ⟨5, k, ⟨0, 0, 0, 0⟩, ⟨0, 0, false⟩⟩
/-- A space of so many cores in which nothing is begun. -/
structure Idle (σ : Sc) (n K : Nat) (L : List Mp) : Prop where
  safe : ∃ P, Safe σ P
  n : σ.s.n = n
  len : σ.cs.length = K
  busy : σ.busy = false
  book : allM σ.s 0 = L
  off : ∀ (j : Nat) (c : Cr), σ.cs[j]? = some c → c.k.on = false
/-- What an access is told that goes on to its end. -/
def ansE (K : Nat) (L : List Mp) (x : Stp) : Ev :=
  if x.core < 0 ∨ (K : Int) ≤ x.core then .no 1 else if checkAccess x.a ≠ 0 then .no (checkAccess x.a) else ⟨0, true, ansM (Bk.find L x.a.page) x.a, false⟩
/-- An access is on its way, and nothing else. -/
structure Run (x : Stp) (n K : Nat) (L : List Mp) (i : Nat) (σ : Sc) : Prop where
  safe : ∃ P, Safe σ P
  n : σ.s.n = n
  len : σ.cs.length = K
  busy : σ.busy = false
  book : allM σ.s 0 = L
  core : 0 ≤ x.core ∧ x.core < (K : Int)
  chk : checkAccess x.a = 0
  way : OnWay σ.s 0 x.a i (σ.core x.core.toNat).k
  off : ∀ (j : Nat) (c : Cr), σ.cs[j]? = some c → j ≠ x.core.toNat → c.k.on = false
section
variable {σ : Sc} {n K : Nat} {L : List Mp} {x : Stp}
theorem Idle.frees (h : Idle σ n K L) : σ.s.frees.length + (seenL L).length + 1 = n := by
  obtain ⟨P, hs⟩ := h.safe
  obtain ⟨a1, a2, _⟩ := hs.counts
  rw [h.book] at a2
  rw [(hs.quiet h.busy).1, h.n] at a1
  simp only [List.length_nil] at a1
  omega
theorem Idle.find (h : Idle σ n K L) {q : Int} (hq : InP q) : Bk.find L q = mapAt σ.s 0 q := by
  obtain ⟨P, hs⟩ := h.safe
  have := hs.lk.same q hq
  rw [h.book] at this
  exact this
theorem Run.find {i : Nat} (h : Run x n K L i σ) {q : Int} (hq : InP q) : Bk.find L q = mapAt σ.s 0 q := by
  obtain ⟨P, hs⟩ := h.safe
  have := hs.lk.same q hq
  rw [h.book] at this
  exact this
theorem Idle.begin (h : Idle σ n K L) (h4 : x.kind = 4) :
    ((σ.act x).2 = ansE K L x ∧ Idle (σ.act x).1 n K L ∧ ((ansE K L x).code ≠ 0 ∨ (ansE K L x).fin = true)) ∨ ((σ.act x).2 = .no 0 ∧ Run x n K L 0 (σ.act x).1) := by
  obtain ⟨P, hs⟩ := h.safe
  have hn := hs.n_act x
  unfold Sc.act at hn ⊢
  rw [if_neg (by omega), if_neg (by omega)] at hn ⊢
  rw [h.len] at hn ⊢
  by_cases hc : x.core < 0 ∨ (K : Int) ≤ x.core
  · left
    have hc' : x.core < 0 ∨ (K : Int) ≤ x.core := hc
    have e : ansE K L x = .no 1 := by unfold ansE; rw [if_pos hc]
    rw [if_pos hc', e]
    exact ⟨rfl, h, .inl (by show (1 : Int) ≠ 0; decide)⟩
  have hc' : ¬ (x.core < 0 ∨ (K : Int) ≤ x.core) := hc
  rw [if_neg hc', if_pos h4] at hn ⊢
  have hk : x.core.toNat < σ.cs.length := by rw [h.len]; omega
  have hsa := hs.access hk x.a
  have hi := hs.core _ _ (Safe.at_core hk)
  have hoff := h.off _ _ (Safe.at_core hk)
  have hlen : (σ.access x.core.toNat x.a).1.cs.length = K := (Sc.put_len _ _ _).trans h.len
  have hput : ∀ k', (coreB (σ.core x.core.toNat).l 0 (σ.core x.core.toNat).k x.a).c = k' → k'.on = false → ∀ (j : Nat) (c : Cr), (σ.access x.core.toNat x.a).1.cs[j]? = some c → c.k.on = false := by
    intro k' e1 e2 j c hj
    rcases Safe.set_core hj with ⟨_, rfl⟩ | ⟨_, hj⟩
    · show (coreB _ 0 _ _).c.on = false
      rw [e1]; exact e2
    · exact h.off j c hj
  by_cases hca : checkAccess x.a ≠ 0
  · left
    have e : ansE K L x = .no (checkAccess x.a) := by unfold ansE; rw [if_neg hc, if_pos hca]
    have eB : coreB (σ.core x.core.toNat).l 0 (σ.core x.core.toNat).k x.a = ⟨An.zero, false, checkAccess x.a, (σ.core x.core.toNat).k⟩ := by unfold coreB; rw [if_pos hca]
    rw [e]
    refine ⟨?_, ⟨⟨P, hsa⟩, h.n, hlen, h.busy, h.book, hput _ (by rw [eB]) hoff⟩, .inl hca⟩
    show (⟨(coreB _ 0 _ _).code, (coreB _ 0 _ _).fin, (coreB _ 0 _ _).an, false⟩ : Ev) = _
    rw [eB]; rfl
  have hp := check_inP (a := x.a) (by omega)
  have e : ansE K L x = ⟨0, true, ansM (Bk.find L x.a.page) x.a, false⟩ := by unfold ansE; rw [if_neg hc, if_neg hca]
  cases hh : hitA (σ.core x.core.toNat).l x.a with
  | some r =>
    left
    have eB : coreB (σ.core x.core.toNat).l 0 (σ.core x.core.toNat).k x.a = ⟨r, true, 0, (σ.core x.core.toNat).k⟩ := by
      unfold coreB; rw [if_neg hca, if_neg (by rw [hoff]; simp), hh]
    have er : r = ansM (Bk.find L x.a.page) x.a := by
      unfold hitA at hh
      cases hfi : Tl.find (σ.core x.core.toNat).l x.a.page with
      | none => rw [hfi] at hh; cases hh
      | some y =>
        rw [hfi] at hh
        dsimp only at hh
        split at hh
        · injection hh with hh
          have hmem : y ∈ (σ.core x.core.toNat).l := List.mem_of_find?_eq_some hfi
          have hov : over y.m x.a.page = true := by simpa using List.find?_some hfi
          have hkp : Kept σ.s 0 y := by
            rcases hi.line y hmem with hl | hl
            · exact hl
            · rw [(hs.quiet h.busy).2] at hl; cases hl.1
          rw [h.find hp, Wf.overMap hs.wf hkp.inP hp hkp.map hov hs.wf]
          exact hh.symm
        · cases hh
    rw [e]
    refine ⟨?_, ⟨⟨P, hsa⟩, h.n, hlen, h.busy, h.book, hput _ (by rw [eB]) hoff⟩, .inr rfl⟩
    show (⟨(coreB _ 0 _ _).code, (coreB _ 0 _ _).fin, (coreB _ 0 _ _).an, false⟩ : Ev) = _
    rw [eB, er]
  | none =>
    right
    have eB : coreB (σ.core x.core.toNat).l 0 (σ.core x.core.toNat).k x.a = ⟨An.zero, false, 0, (σ.core x.core.toNat).k.begin 0 x.a⟩ := by
      unfold coreB; rw [if_neg hca, if_neg (by rw [hoff]; simp), hh]
    refine ⟨?_, ⟨⟨P, hsa⟩, h.n, hlen, h.busy, h.book, by omega, by omega, ?_, ?_⟩⟩
    · show (⟨(coreB _ 0 _ _).code, (coreB _ 0 _ _).fin, (coreB _ 0 _ _).an, false⟩ : Ev) = _
      rw [eB]; rfl
    · have ec : ((σ.access x.core.toNat x.a).1.core x.core.toNat).k = (σ.core x.core.toNat).k.begin 0 x.a := by
        show ((σ.put x.core.toNat ⟨(σ.core x.core.toNat).l, (coreB (σ.core x.core.toNat).l 0 (σ.core x.core.toNat).k x.a).c⟩).core x.core.toNat).k = _
        rw [eB]
        unfold Sc.core Sc.put
        dsimp only
        rw [List.getD_eq_getElem?_getD, List.getElem?_set_self hk]
        rfl
      rw [ec]
      exact OnWay.start _ _ (by omega) rfl rfl rfl rfl rfl
    · intro j c hj hne
      rcases Safe.set_core hj with ⟨rfl, _⟩ | ⟨_, hj⟩
      · exact absurd rfl hne
      · exact h.off j c hj
theorem Run.step {i : Nat} (h : Run x n K L i σ) :
    i ≤ 4 ∧ (((σ.act (walkStp x.core)).2 = ansE K L x ∧ Idle (σ.act (walkStp x.core)).1 n K L ∧ (ansE K L x).fin = true) ∨ ((σ.act (walkStp x.core)).2 = .no 0 ∧ Run x n K L (i + 1) (σ.act (walkStp x.core)).1)) := by
  refine ⟨h.way.few, ?_⟩
  obtain ⟨P, hs⟩ := h.safe
  have hc := h.core
  have hk : x.core.toNat < σ.cs.length := by rw [h.len]; omega
  have ea : σ.act (walkStp x.core) = σ.walk x.core.toNat := by
    unfold Sc.act walkStp
    dsimp only
    rw [if_neg (by omega), if_neg (by omega), if_neg (by omega), if_neg (by omega), if_pos rfl]
  rw [ea]
  have hw := hs.walk hk
  have hb := hs.book_walk hk
  have hon := h.way.on
  have hst := hs.walk_stepIn hk hon
  have hp := check_inP h.chk
  have hlen : (σ.walk x.core.toNat).1.cs.length = K := (Sc.put_len _ _ _).trans h.len
  have hn : (σ.walk x.core.toNat).1.s.n = n := hst.mark.n.trans h.n
  have hoff : ∀ (j : Nat) (c : Cr), (σ.walk x.core.toNat).1.cs[j]? = some c → j ≠ x.core.toNat → c.k.on = false := by
    intro j c hj hne
    rcases Safe.set_core hj with ⟨rfl, _⟩ | ⟨_, hj⟩
    · exact absurd rfl hne
    · exact h.off j c hj hne
  have e : ansE K L x = ⟨0, true, ansM (Bk.find L x.a.page) x.a, false⟩ := by unfold ansE; rw [if_neg (by omega), if_neg (by rw [h.chk]; simp)]
  rcases hst.fin with hf | hf
  · left
    rw [e]
    refine ⟨?_, ⟨⟨P, hw⟩, hn, hlen, h.busy, hb.trans h.book, fun j c hj => ?_⟩, rfl⟩
    · show (⟨(stepC _ 0 _).code, (stepC _ 0 _).r.fin, (stepC _ 0 _).r.an, false⟩ : Ev) = _
      rw [hst.code, hf.fin, hf.an, h.way.acc, h.find hp]
    · by_cases hjk : j = x.core.toNat
      · subst hjk
        rcases Safe.set_core hj with ⟨_, rfl⟩ | ⟨hne, _⟩
        · show (stepC _ 0 _).c.on = false
          rw [hf.off]; rfl
        · exact absurd rfl hne
      · exact hoff j c hj hjk
  · right
    refine ⟨?_, ⟨⟨P, hw⟩, hn, hlen, h.busy, hb.trans h.book, hc, h.chk, ?_, hoff⟩⟩
    · show (⟨(stepC _ 0 _).code, (stepC _ 0 _).r.fin, (stepC _ 0 _).r.an, false⟩ : Ev) = _
      rw [hst.code, hf.z]; rfl
    · have ec : ((σ.walk x.core.toNat).1.core x.core.toNat).k = (stepC σ.s 0 (σ.core x.core.toNat).k).c := by
        unfold Sc.core Sc.walk Sc.put
        dsimp only
        rw [List.getD_eq_getElem?_getD, List.getElem?_set_self hk]
        rfl
      rw [ec]
      show OnWay (stepC σ.s 0 (σ.core x.core.toNat).k).s 0 x.a (i + 1) _
      rcases h.way.step with ⟨h0, _⟩ | ⟨_, _, hss, how⟩ | ⟨_, _, _, _, _, hw0, _⟩
      · exact absurd hst.code h0
      · rw [hss]; exact how
      · rw [hf.on] at hw0; cases hw0
end
end Go.Proofs.Ytmfheghbgihdmaa
namespace Go.Proofs.Ytmfheghbgihdmaa
open Go.RowKit
/-- No core has an access on its way. -/
def OffAll (σ : Sc) : Prop := ∀ (j : Nat) (c : Cr), σ.cs[j]? = some c → c.k.on = false
theorem OffAll.core {σ : Sc} (h : OffAll σ) (k : Nat) : (σ.core k).k.on = false := by
  unfold Sc.core
  rw [List.getD_eq_getElem?_getD]
  cases hk : σ.cs[k]? with
  | none => rfl
  | some c => exact h k c hk
theorem OffAll.set {σ τ : Sc} (h : OffAll σ) {k : Nat} {c : Cr} (e : τ.cs = σ.cs.set k c) (hc : c.k.on = false) : OffAll τ := by
  intro j d hj
  rw [e] at hj
  rcases Safe.set_core hj with ⟨_, rfl⟩ | ⟨_, hj⟩
  · exact hc
  · exact h j d hj
theorem OffAll.change {σ : Sc} (h : OffAll σ) (x : Stp) : OffAll (σ.change x).1 := by
  have : (σ.change x).1.cs = σ.cs := by
    unfold Sc.change
    repeat' split
    all_goals rfl
  intro j c hj
  rw [this] at hj
  exact h j c hj
theorem OffAll.ack {σ : Sc} (h : OffAll σ) (k : Nat) : OffAll (σ.ack k).1 := by
  have hh : OffAll (σ.heed k) := h.set (c := ⟨Tl.drop (σ.core k).l σ.told, (σ.core k).k.again 0⟩) rfl (by
    have := h.core k
    unfold Ck.again
    split
    · rename_i hon; rw [this] at hon; cases hon
    · exact this)
  unfold Sc.ack
  split
  · exact h
  split
  · exact hh
  · exact hh
theorem OffAll.evict {σ : Sc} (h : OffAll σ) (k : Nat) : OffAll (σ.evict k).1 := by
  unfold Sc.evict
  split
  · exact h
  · exact h.set (c := ⟨Tl.evict (σ.core k).l, (σ.core k).k⟩) rfl (h.core k)
/-- A change is looked after by the cores below k. -/
structure Mid (σ : Sc) (n K : Nat) (L : List Mp) (k : Nat) : Prop where
  safe : ∃ P, Safe σ P
  n : σ.s.n = n
  len : σ.cs.length = K
  acked : Safe.Acked σ k
  book : allM σ.s 0 = L
  off : OffAll σ
section
variable {σ τ : Sc} {n K : Nat} {L : List Mp}
theorem Idle.mid (h : Idle σ n K L) (x : Stp) (hx : 1 ≤ x.kind ∧ x.kind ≤ 3) : Mid (σ.act x).1 n K (bookN L x (σ.act x).2.code) 0 := by
  obtain ⟨P, hs⟩ := h.safe
  obtain ⟨a1, a2⟩ := hs.n_act x
  refine ⟨⟨_, hs.act x⟩, a1.trans h.n, a2.trans h.len, ⟨fun i hi => absurd hi (by omega)⟩, ?_, ?_⟩
  · rw [hs.book_act x, h.book]
  · have e : σ.act x = σ.change x := by unfold Sc.act; rw [if_pos hx]
    rw [e]
    exact OffAll.change h.off x
theorem Mid.next {k : Nat} (h : Mid σ n K L k) (hk : k < K) : Mid (σ.act (ackStp k)).1 n K L (k + 1) := by
  obtain ⟨P, hs⟩ := h.safe
  obtain ⟨a1, a2⟩ := hs.n_act (ackStp k)
  refine ⟨⟨_, hs.act _⟩, a1.trans h.n, a2.trans h.len, (h.acked.next).resolve_right (by rw [h.len]; omega), ?_, ?_⟩
  · rw [hs.book_act, bookN_not (by unfold ackStp; dsimp only; omega), h.book]
  · rw [act_ack (by rw [h.len]; exact hk)]
    exact h.off.ack k
theorem Mid.idle (h : Mid σ n K L K) : Idle σ n K L := by
  obtain ⟨P, hs⟩ := h.safe
  exact ⟨h.safe, h.n, h.len, hs.idle fun i hi => h.acked.w i (by rw [h.len] at hi; exact hi), h.book, h.off⟩
theorem Idle.evict (h : Idle σ n K L) (x : Stp) (hx : x.kind = 7) : Idle (σ.act x).1 n K L := by
  obtain ⟨P, hs⟩ := h.safe
  obtain ⟨a1, a2⟩ := hs.n_act x
  have hb := hs.book_act x
  rw [bookN_not (by omega), h.book] at hb
  have ho : OffAll (σ.act x).1 ∧ (σ.act x).1.busy = false := by
    unfold Sc.act
    rw [if_neg (by omega), if_neg (by omega)]
    split
    · exact ⟨h.off, h.busy⟩
    rw [if_neg (by omega), if_neg (by omega), if_neg (by omega)]
    refine ⟨OffAll.evict h.off _, ?_⟩
    unfold Sc.evict
    split <;> exact h.busy
  exact ⟨⟨_, hs.act x⟩, a1.trans h.n, a2.trans h.len, ho.2, hb, ho.1⟩
theorem change_ev (hb : σ.busy = false) (x : Stp) : (σ.change x).2 = if x.kind = 1 then ⟨insC σ.s 0 x.m, false, An.zero, decide (insC σ.s 0 x.m = 0)⟩ else if x.kind = 2 then .no (findC σ.s 0 x.m.page) else .no (prC σ.s 0 x.m.page x.m.rights) := by
  unfold Sc.change
  rw [if_neg (by rw [hb]; simp)]
  by_cases h1 : x.kind = 1
  · rw [if_pos h1, if_pos h1]
  rw [if_neg h1, if_neg h1]
  by_cases h2 : x.kind = 2
  · rw [if_pos h2, if_pos h2]
    by_cases hf : findC σ.s 0 x.m.page = 0
    · rw [if_pos hf, hf]
    · rw [if_neg hf]
  · rw [if_neg h2, if_neg h2]
    by_cases hf : prC σ.s 0 x.m.page x.m.rights = 0
    · rw [if_pos hf, hf]
    · rw [if_neg hf]
theorem Idle.same (h : Idle σ n K L) (h' : Idle τ n K L) (x : Stp) (hx : 1 ≤ x.kind ∧ x.kind ≤ 3) : (σ.act x).2 = (τ.act x).2 := by
  obtain ⟨P, hs⟩ := h.safe
  obtain ⟨P', hs'⟩ := h'.safe
  have hf : τ.s.frees.length = σ.s.frees.length := by
    have := h.frees
    have := h'.frees
    omega
  have hi := insC_same hs.wf hs'.wf (fun q hq => (h'.find hq).symm.trans (h.find hq)) hf x.m
  have hl := hs.lk
  have hl' := hs'.lk
  rw [h.book] at hl
  rw [h'.book] at hl'
  have hfc : findC τ.s 0 x.m.page = findC σ.s 0 x.m.page := by rw [(lk_code hs.wf hl _).1, (lk_code hs'.wf hl' _).1]
  have hpc : prC τ.s 0 x.m.page x.m.rights = prC σ.s 0 x.m.page x.m.rights := by unfold prC; rw [hfc]
  have e1 : σ.act x = σ.change x := by unfold Sc.act; rw [if_pos hx]
  have e2 : τ.act x = τ.change x := by unfold Sc.act; rw [if_pos hx]
  rw [e1, e2, change_ev h.busy, change_ev h'.busy, hi, hfc, hpc]
end
theorem Idle.new {K n : Nat} (h1 : 1 ≤ K) (h4 : K ≤ 4) (hn : 1 ≤ n) (hn2 : n ≤ 128) : Idle (Sc.new K n) n K [] := by
  obtain ⟨a, b, c⟩ := Safe.new h1 h4 hn hn2
  refine ⟨⟨_, a⟩, b, c, rfl, Safe.book_new hn, fun j d hj => ?_⟩
  have hd : d ∈ List.replicate K Cr.zero := List.mem_of_getElem? hj
  rw [(List.mem_replicate.1 hd).2]
  rfl
end Go.Proofs.Ytmfheghbgihdmaa
namespace Go.Proofs.Ytmfheghbgihdmaa
open Go.RowKit
set_option maxRecDepth 100000
/-- Where an access is. -/
def WhAt (x : Stp) (n K : Nat) (L : List Mp) (i : Nat) (σ : Sc) (e : Ev) : Prop := (Idle σ n K L ∧ e = ansE K L x ∧ (e.code ≠ 0 ∨ e.fin = true)) ∨ (Run x n K L i σ ∧ e = .no 0)
theorem WhAt.few {x : Stp} {n K i : Nat} {L : List Mp} {σ : Sc} {e : Ev} (h : WhAt x n K L i σ e) : e = ansE K L x ∧ Idle σ n K L ∧ (e.code ≠ 0 ∨ e.fin = true) ∨ i ≤ 4 ∧ e = .no 0 ∧ Run x n K L i σ := by
  rcases h with ⟨a, b, c⟩ | ⟨a, b⟩
  · exact .inl ⟨b, a, c⟩
  · exact .inr ⟨a.step.1, b, a⟩
set_option maxHeartbeats 4000000 in
theorem whole_any (p : Nat) (σ : Sc) (x : Stp) (n K : Nat) (L : List Mp) (hI : Idle σ n K L) (h4 : x.kind = 4) (hx : x.ok) (R : HProp) (w : World) (h : Has w (spaceAt p σ * R)) :
    Calls Try.prog 9 #[.pointer (some ⟨p, 0, none⟩), .agg #[(Value.int .i64) x.kind, (Value.int .i64) x.core, (Value.int .i64) x.m.page, (Value.int .i64) x.m.size, (Value.int .i64) x.m.frame, (Value.int .i64) x.m.rights, (Value.int .i64) x.a.page, (Value.int .i64) x.a.kind, Value.bool x.a.user]] w
      (fun e w' => ∃ σ', Idle σ' n K L ∧ Res (.agg #[(Value.int .i64) (ansE K L x).code, Value.bool (ansE K L x).fin, (Value.int .i64) (ansE K L x).an.fin, (Value.int .i64) (ansE K L x).an.frame, (Value.int .i64) (ansE K L x).an.rights, Value.bool (ansE K L x).back]) (spaceAt p σ' * R) w e w') := by
  obtain ⟨P, hs⟩ := hI.safe
  have HA := Lib.hid (fun R w h => doS p σ x hs.ok hs.calm hx R w h)
  unfold Ev.val at HA
  have hb : WhAt x n K L 0 (σ.act x).1 (σ.act x).2 := by
    rcases hI.begin h4 with ⟨a, b, c⟩ | ⟨a, b⟩
    · exact .inl ⟨b, a, by rw [a]; exact c⟩
    · exact .inr ⟨b, a⟩
  have HB := Lib.hid hb
  have HX := Lib.hid hx
  clear hb hs hI hx
  generalize σ.act x = q at *
  obtain ⟨σ1, ⟨c0, c1, ⟨ca, cb, cr⟩, ck⟩⟩ := q
  obtain ⟨xk, xc, xm, xa⟩ := x
  dsimp only at *
  subst h4
  obtain ⟨ev, hev⟩ : ∃ e, ansE K L ⟨4, xc, xm, xa⟩ = e := ⟨_, rfl⟩
  have HE := Lib.hid hev
  rw [hev]
  clear hev
  have h0 : Has _ (spaceAt p σ * (blk w.heap.size #[(Value.int .i64) 4, (Value.int .i64) xc, (Value.int .i64) xm.page, (Value.int .i64) xm.size, (Value.int .i64) xm.frame, (Value.int .i64) xm.rights, (Value.int .i64) xa.page, (Value.int .i64) xa.kind, Value.bool xa.user] 35 * (blk (w.heap.size + 1) #[(Value.int .i64) 0, Value.bool false, (Value.int .i64) 0, (Value.int .i64) 0, (Value.int .i64) 0, Value.bool false] 39 * R))) := ((h.new #[(Value.int .i64) 4, (Value.int .i64) xc, (Value.int .i64) xm.page, (Value.int .i64) xm.size, (Value.int .i64) xm.frame, (Value.int .i64) xm.rights, (Value.int .i64) xa.page, (Value.int .i64) xa.kind, Value.bool xa.user] 35).new #[(Value.int .i64) 0, Value.bool false, (Value.int .i64) 0, (Value.int .i64) 0, (Value.int .i64) 0, Value.bool false] 39).eq (by simp only [World.size_alloc]; ac_rfl)
  have x0 := ((Ext.refl w).alloc (.cells #[(Value.int .i64) 4, (Value.int .i64) xc, (Value.int .i64) xm.page, (Value.int .i64) xm.size, (Value.int .i64) xm.frame, (Value.int .i64) xm.rights, (Value.int .i64) xa.page, (Value.int .i64) xa.kind, Value.bool xa.user] 35)).alloc (.cells #[(Value.int .i64) 0, Value.bool false, (Value.int .i64) 0, (Value.int .i64) 0, (Value.int .i64) 0, Value.bool false] 39)
  clear h
  obtain ⟨s0, s1, s2, s3, s4, s5, s6, s7, s8⟩ := h0.right.cells9
  have sl := h0.right.lt
  go_enter Try.func9, Try.ntmps9
  go_wp2_with fail
  refine (HA.out _ _ h0).mono ?_; rintro e w3 ⟨rfl, h3, x3⟩
  have h4 : Has _ (spaceAt p σ1 * (blk w3.heap.size #[(Value.int .i64) c0, Value.bool c1, (Value.int .i64) ca, (Value.int .i64) cb, (Value.int .i64) cr, Value.bool ck] 39 * (blk w.heap.size #[(Value.int .i64) 4, (Value.int .i64) xc, (Value.int .i64) xm.page, (Value.int .i64) xm.size, (Value.int .i64) xm.frame, (Value.int .i64) xm.rights, (Value.int .i64) xa.page, (Value.int .i64) xa.kind, Value.bool xa.user] 35 * (blk (w.heap.size + 1) #[(Value.int .i64) 0, Value.bool false, (Value.int .i64) 0, (Value.int .i64) 0, (Value.int .i64) 0, Value.bool false] 39 * R)))) := (h3.new #[(Value.int .i64) c0, Value.bool c1, (Value.int .i64) ca, (Value.int .i64) cb, (Value.int .i64) cr, Value.bool ck] 39).eq (by ac_rfl)
  have x4 := (x0.trans x3).alloc (.cells #[(Value.int .i64) c0, Value.bool c1, (Value.int .i64) ca, (Value.int .i64) cb, (Value.int .i64) cr, Value.bool ck] 39)
  clear h0 x0 h3 x3 HA s0 s1 s2 s3 s4 s5 s6 s7 s8 sl
  go_upto_block 0 with fail
  generalize w3.alloc (.cells #[(Value.int .i64) c0, Value.bool c1, (Value.int .i64) ca, (Value.int .i64) cb, (Value.int .i64) cr, Value.bool ck] 39) = w4 at *
  generalize w3.heap.size = X2 at *
  generalize w.heap.size = X0 at *
  go_wp2_with fail
  go_loopw [6] (fun t wr => ∃ (i : Nat) (σ : Sc) (d0 : Int) (d1 : Bool) (da db dr : Int) (dk : Bool), i ≤ 5 ∧ t = (Value.int .i64) i ∧ Hid (WhAt ⟨4, xc, xm, xa⟩ n K L i σ ⟨d0, d1, ⟨da, db, dr⟩, dk⟩) ∧
      Has wr (spaceAt p σ * (blk X2 #[(Value.int .i64) d0, Value.bool d1, (Value.int .i64) da, (Value.int .i64) db, (Value.int .i64) dr, Value.bool dk] 39 * (blk X0 #[(Value.int .i64) 4, (Value.int .i64) xc, (Value.int .i64) xm.page, (Value.int .i64) xm.size, (Value.int .i64) xm.frame, (Value.int .i64) xm.rights, (Value.int .i64) xa.page, (Value.int .i64) xa.kind, Value.bool xa.user] 35 * (blk (X0 + 1) #[(Value.int .i64) 0, Value.bool false, (Value.int .i64) 0, (Value.int .i64) 0, (Value.int .i64) 0, Value.bool false] 39 * R)))) ∧ Ext w wr) (fun t _ => 6 - (intOf t).toNat)
  case atStart => exact ⟨0, σ1, c0, c1, ca, cb, cr, ck, by omega, rfl, HB, h4, x4⟩
  case round =>
    clear h4 x4 HB
    obtain ⟨i, σ2, d0, d1, da, db, dr, dk, hi, rfl, HW, hr, hx⟩ := hrel
    obtain ⟨e0, e1, e2, e3, e4, e5⟩ := hr.right.cells6
    have el := hr.right.lt
    rcases HW.out.few with ⟨hh, hid, hend⟩ | ⟨hi4, hh, hrun⟩
    · have HD := Lib.hid hid
      have HV := Lib.hid (HE.out.symm.trans hh.symm)
      clear hh hid HW
      have hz : Has wr (blk (X0 + 1) #[(Value.int .i64) 0, Value.bool false, (Value.int .i64) 0, (Value.int .i64) 0, (Value.int .i64) 0, Value.bool false] 39 * (spaceAt p σ2 * (blk X2 #[(Value.int .i64) d0, Value.bool d1, (Value.int .i64) da, (Value.int .i64) db, (Value.int .i64) dr, Value.bool dk] 39 * (blk X0 #[(Value.int .i64) 4, (Value.int .i64) xc, (Value.int .i64) xm.page, (Value.int .i64) xm.size, (Value.int .i64) xm.frame, (Value.int .i64) xm.rights, (Value.int .i64) xa.page, (Value.int .i64) xa.kind, Value.bool xa.user] 35 * R)))) := hr.eq (by ac_rfl)
      obtain ⟨f0, f1, f2, f3, f4, f5⟩ := hz.frees6
      have fl := hz.lt
      obtain ⟨z0, z1, z2, z3, z4, z5⟩ := hz.cells6
      have k6 : (i : Int) < 6 := by omega
      by_cases hc : d0 = 0
      · obtain rfl : d1 = true := by rcases hend with h | h; exact absurd hc h; exact h
        subst hc
        clear hend
        go_wp2_with fail
        refine ret_via (fun wz => Has wz (blk (X0 + 1) #[(Value.int .i64) 0, Value.bool true, (Value.int .i64) da, (Value.int .i64) db, (Value.int .i64) dr, Value.bool dk] 39 * (spaceAt p σ2 * (blk X2 #[(Value.int .i64) 0, Value.bool true, (Value.int .i64) da, (Value.int .i64) db, (Value.int .i64) dr, Value.bool dk] 39 * (blk X0 #[(Value.int .i64) 4, (Value.int .i64) xc, (Value.int .i64) xm.page, (Value.int .i64) xm.size, (Value.int .i64) xm.frame, (Value.int .i64) xm.rights, (Value.int .i64) xa.page, (Value.int .i64) xa.kind, Value.bool xa.user] 35 * R)))) ∧ Ext w wz) ⟨hz.set6 _ _ _ _ _ _, by (repeat (first | with_reducible assumption | with_reducible exact Ext.refl _ | with_reducible refine Ext.set ?_ _ _ | with_reducible refine Ext.alloc ?_ _ | with_reducible refine Ext.drew ?_ | with_reducible refine Ext.drewN ?_ _ | assumption | exact Ext.refl _ | refine Ext.alloc ?_ _ | refine Ext.set ?_ _ _ | refine Ext.drew ?_ | refine Ext.drewN ?_ _ | refine Ext.below ?_ (by assumption) | refine Ext.trans ?_ (by assumption)))⟩ ?_
        rintro wz ⟨hz, xz⟩
        exact bodyPost_ret (results_c Try.results9 rfl (load_event hz)) rfl ⟨σ2, HD.out, by rw [HV.out], (Has.eq hz.right (by ac_rfl : _ = blk X2 _ _ * (blk X0 _ _ * (spaceAt p σ2 * R)))).right.right, xz⟩
      · have hc' : (d0 == 0) = false := by simpa using hc
        clear hend
        go_wp2_with fail
        refine ret_via (fun wz => Has wz (blk (X0 + 1) #[(Value.int .i64) d0, Value.bool d1, (Value.int .i64) da, (Value.int .i64) db, (Value.int .i64) dr, Value.bool dk] 39 * (spaceAt p σ2 * (blk X2 #[(Value.int .i64) d0, Value.bool d1, (Value.int .i64) da, (Value.int .i64) db, (Value.int .i64) dr, Value.bool dk] 39 * (blk X0 #[(Value.int .i64) 4, (Value.int .i64) xc, (Value.int .i64) xm.page, (Value.int .i64) xm.size, (Value.int .i64) xm.frame, (Value.int .i64) xm.rights, (Value.int .i64) xa.page, (Value.int .i64) xa.kind, Value.bool xa.user] 35 * R)))) ∧ Ext w wz) ⟨hz.set6 _ _ _ _ _ _, by (repeat (first | with_reducible assumption | with_reducible exact Ext.refl _ | with_reducible refine Ext.set ?_ _ _ | with_reducible refine Ext.alloc ?_ _ | with_reducible refine Ext.drew ?_ | with_reducible refine Ext.drewN ?_ _ | assumption | exact Ext.refl _ | refine Ext.alloc ?_ _ | refine Ext.set ?_ _ _ | refine Ext.drew ?_ | refine Ext.drewN ?_ _ | refine Ext.below ?_ (by assumption) | refine Ext.trans ?_ (by assumption)))⟩ ?_
        rintro wz ⟨hz, xz⟩
        exact bodyPost_ret (results_c Try.results9 rfl (load_event hz)) rfl ⟨σ2, HD.out, by rw [HV.out], (Has.eq hz.right (by ac_rfl : _ = blk X2 _ _ * (blk X0 _ _ * (spaceAt p σ2 * R)))).right.right, xz⟩
    · obtain ⟨P2, hs2⟩ := hrun.safe
      have hyo : (walkStp xc).ok := by
        have := HX.out.2.1
        unfold walkStp Stp.ok Mp.ok Ac.ok i64
        unfold i64 at this
        dsimp only at *
        omega
      have HA := Lib.hid (fun R w h => doS p σ2 (walkStp xc) hs2.ok hs2.calm hyo R w h)
      have HN : Hid (WhAt ⟨4, xc, xm, xa⟩ n K L (i + 1) (σ2.act (walkStp xc)).1 (σ2.act (walkStp xc)).2) := Lib.hid (by
        rcases hrun.step.2 with ⟨a, b, c⟩ | ⟨a, b⟩
        · exact .inl ⟨b, a, .inr (by rw [a]; exact c)⟩
        · exact .inr ⟨b, a⟩)
      unfold Ev.val at HA
      unfold Ev.no An.zero at hh
      injection hh with g0 g1 g2 g3
      injection g2 with g2 g4 g5
      subst g0; subst g1; subst g2; subst g3; subst g4; subst g5
      clear hs2 hrun HW hyo
      generalize σ2.act (walkStp xc) = q at *
      obtain ⟨σ3, ⟨b0, b1, ⟨ba, bb, br⟩, bk⟩⟩ := q
      unfold walkStp at HA
      dsimp only at *
      have k6 : (i : Int) < 6 := by omega
      have s1 := hr.right.right.cell 1
      have sl := hr.right.right.lt
      go_wp2_with fail
      refine (HA.out _ _ hr).mono ?_; rintro e w5 ⟨rfl, h5, x5⟩
      have h6 := h5.p2
      have x6 := hx.trans x5
      clear e0 e1 e2 e3 e4 e5 el s1 sl hr hx h5 x5 HA
      obtain ⟨f0, f1, f2, f3, f4, f5⟩ := h6.frees6
      have fl := h6.lt
      obtain ⟨z0, z1, z2, z3, z4, z5⟩ := h6.cells6
      have h7 := (h6.set6 ((Value.int .i64) b0) (Value.bool b1) ((Value.int .i64) ba) ((Value.int .i64) bb) ((Value.int .i64) br) (Value.bool bk)).p2
      have x7 := (((((x6.set ⟨X2, 0, none⟩ ((Value.int .i64) b0)).set ⟨X2, 1, none⟩ (Value.bool b1)).set ⟨X2, 2, none⟩ ((Value.int .i64) ba)).set ⟨X2, 3, none⟩ ((Value.int .i64) bb)).set ⟨X2, 4, none⟩ ((Value.int .i64) br)).set ⟨X2, 5, none⟩ (Value.bool bk)
      go_wp2_with fail
      go_roundw
      case rel => exact ⟨i + 1, σ3, b0, b1, ba, bb, br, bk, by omega, by go_num, HN, h7, x7⟩
      case measure => simp [intOf]; omega
end Go.Proofs.Ytmfheghbgihdmaa
namespace Go.Proofs.Ytmfheghbgihdmaa
open Go.RowKit
set_option maxRecDepth 100000
set_option maxHeartbeats 8000000 in
theorem spaceAlone_walk (N : Int) (B : Option Addr) (m d : Nat) (L : List Stp) (w : World) (_ : i64 N) (h2 : Arr w B m 9 (L.map Stp.cells)) (hLo : ∀ x ∈ L, x.ok) :
    Calls Try.prog 3 #[(Value.int .i64) N, .slice B m d] w (Pure (Value.bool true) w) := by
  have hm2 := h2.2.1
  have hB := Lib.hid h2
  have hL := Lib.hid (show L.length = m by simpa using h2.1)
  have hLO := Lib.hid hLo
  clear h2 hLo
  have h0 := has_old w
  have x0 := Ext.refl w
  have HB := Lib.hid (fun w => spaceBegun_any w)
  have HG := Lib.hid (fun w => greatSteps_any B m d 200 w)
  by_cases hbig : (200 : Int) < m
  · rw [decide_eq_true hbig] at HG
    go_enter Try.func3, Try.ntmps3
    go_wp2_with fail
    refine (HB.out _).mono ?_; rintro e w1 ⟨rfl, hb⟩
    go_wp2_with fail
    refine (HG.out _).mono ?_; rintro e w2 ⟨rfl, hw⟩
    subst hw
    go_wp2_with fail
    go_ret
    exact ⟨rfl, below_of1 (h0.below hb) (x0.below hb)⟩
  rw [decide_eq_false hbig] at HG
  by_cases hbad : N < 1 ∨ 128 < N
  · have HN := Lib.hid (fun w => newS_no 2 N (by omega) w)
    clear hbad
    go_enter Try.func3, Try.ntmps3
    go_wp2_with fail
    refine (HB.out _).mono ?_; rintro e w1 ⟨rfl, hb⟩
    go_wp2_with fail
    refine (HG.out _).mono ?_; rintro e w2 ⟨rfl, hw⟩
    subst hw
    have h1 := h0.below hb
    have x1 := x0.below hb
    clear h0 x0 hb
    go_wp2_with fail
    refine (HN.out _).mono ?_; rintro e w3 ⟨rfl, hb⟩
    have h3 := (h1.below hb).new #[(Value.int .i64) 1, (Value.int .i64) (-1)] 27
    have x3 := (x1.below hb).alloc (.cells #[(Value.int .i64) 1, (Value.int .i64) (-1)] 27)
    clear h1 x1 hb
    go_upto_region 6 with fail
    generalize w3.alloc (.cells #[(Value.int .i64) 1, (Value.int .i64) (-1)] 27) = w4 at *
    generalize w3.heap.size = X1 at *
    go_wp2_with fail
    refine (HN.out _).mono ?_; rintro e w5 ⟨rfl, hb⟩
    have h5 : Has _ (blk X1 #[(Value.int .i64) 1, (Value.int .i64) (-1)] 27 * (blk w5.heap.size #[(Value.int .i64) 1, (Value.int .i64) (-1)] 27 * old w w.heap.size)) := ((h3.below hb).new #[(Value.int .i64) 1, (Value.int .i64) (-1)] 27).eq (by ac_rfl)
    have x5 := (x3.below hb).alloc (.cells #[(Value.int .i64) 1, (Value.int .i64) (-1)] 27)
    obtain ⟨c0, c1⟩ := h5.cells2
    have cl := h5.lt
    obtain ⟨d0, d1⟩ := h5.right.cells2
    have dl := h5.right.lt
    go_wp2_with fail
    go_ret
    exact ⟨rfl, below_of1 h5.right.right x5⟩
  obtain ⟨n, rfl⟩ := Int.eq_ofNat_of_zero_le (show 0 ≤ N by omega)
  have HN := Lib.hid (fun R w h => newS 2 n (by omega) (by omega) (by omega) (by omega) R w h)
  have HI0 : Hid (Idle (Sc.new 2 n) n 2 []) := Lib.hid (Idle.new (by omega) (by omega) (by omega) (by omega))
  clear hbad hbig
  go_enter Try.func3, Try.ntmps3
  go_wp2_with fail
  refine (HB.out _).mono ?_; rintro e w1 ⟨rfl, hb⟩
  have h1 := h0.below hb
  have x1 := x0.below hb
  clear h0 x0 hb HB
  go_wp2_with fail
  refine (HG.out _).mono ?_; rintro e w2 ⟨rfl, hw⟩
  subst hw
  clear HG
  go_wp2_with fail
  refine (HN.out _ _ h1).mono ?_; rintro e w3 ⟨p, rfl, h3, x3⟩
  have h4 : Has _ (blk w3.heap.size #[(Value.int .i64) 0, (Value.int .i64) 0] 27 * (spaceAt p (Sc.new 2 n) * old w w.heap.size)) := h3.new #[(Value.int .i64) 0, (Value.int .i64) 0] 27
  have x4 := (x1.trans x3).alloc (.cells #[(Value.int .i64) 0, (Value.int .i64) 0] 27)
  clear h1 x1 h3 x3
  go_upto_region 6 with fail
  generalize w3.alloc (.cells #[(Value.int .i64) 0, (Value.int .i64) 0] 27) = w4 at *
  generalize w3.heap.size = X1 at *
  go_wp2_with fail
  refine (HN.out _ _ h4).mono ?_; rintro e w5 ⟨q, rfl, h5, x5⟩
  have h6 : Has _ (blk X1 #[(Value.int .i64) 0, (Value.int .i64) 0] 27 * (blk w5.heap.size #[(Value.int .i64) 0, (Value.int .i64) 0] 27 * (spaceAt p (Sc.new 2 n) * (spaceAt q (Sc.new 2 n) * old w w.heap.size)))) := (h5.new #[(Value.int .i64) 0, (Value.int .i64) 0] 27).eq (by ac_rfl)
  have x6 := (x4.trans x5).alloc (.cells #[(Value.int .i64) 0, (Value.int .i64) 0] 27)
  clear h4 x4 h5 x5 HN
  obtain ⟨c0, c1⟩ := h6.cells2
  have cl := h6.lt
  obtain ⟨d0, d1⟩ := h6.right.cells2
  have dl := h6.right.lt
  go_upto_region 9 with fail
  generalize w5.alloc (.cells #[(Value.int .i64) 0, (Value.int .i64) 0] 27) = w6 at *
  generalize w5.heap.size = X2 at *
  have h7 : Has _ (spaceAt p (Sc.new 2 n) * (spaceAt q (Sc.new 2 n) * (blk X1 #[(Value.int .i64) 0, (Value.int .i64) 0] 27 * (blk X2 #[(Value.int .i64) 0, (Value.int .i64) 0] 27 * old w w.heap.size)))) := h6.eq (by ac_rfl)
  clear c0 c1 cl d0 d1 dl h6
  go_wp2_with fail
  generalize Sc.new 2 n = σ0 at *
  go_loopw [9] (fun t wr => ∃ (i : Nat) (σ τ : Sc) (K : List Mp), i ≤ m ∧ t = (Value.int .i64) i ∧ Hid (Idle σ n 2 K ∧ Idle τ n 2 K) ∧ Has wr (spaceAt p σ * (spaceAt q τ * (blk X1 #[(Value.int .i64) 0, (Value.int .i64) 0] 27 * (blk X2 #[(Value.int .i64) 0, (Value.int .i64) 0] 27 * old w w.heap.size)))) ∧ Ext w wr) (fun t _ => m - (intOf t).toNat)
  case atStart => exact ⟨0, σ0, σ0, [], by omega, rfl, Lib.hid ⟨HI0.out, HI0.out⟩, h7, x6⟩
  case round =>
    clear h7 x6 HI0
    obtain ⟨i, σ1, τ1, K1, hi, rfl, hS1, hr, hx⟩ := hrel
    by_cases hlt : i < m
    · have hil : i < L.length := by have := hL.out; omega
      obtain ⟨b', off, hb, -⟩ := (hB.out.old1 hr.right.right.right.right hx).stp hil
      subst hb
      obtain ⟨y, hy⟩ : ∃ y, L[i] = y := ⟨_, rfl⟩
      have hyo : y.ok := by rw [← hy]; exact hLO.out _ (List.getElem_mem hil)
      obtain ⟨dl, d0, d1, d2, d3, d4, d5, d6, d7, d8⟩ := (hB.out.old1 hr.right.right.right.right hx).stpAt hil hy
      clear hy
      have HYO := Lib.hid hyo
      clear hyo
      obtain ⟨yk, yc, ym, ya⟩ := y
      dsimp only at *
      have h8 : Has _ (spaceAt p σ1 * (spaceAt q τ1 * (blk wr.heap.size #[(Value.int .i64) yk, (Value.int .i64) yc, (Value.int .i64) ym.page, (Value.int .i64) ym.size, (Value.int .i64) ym.frame, (Value.int .i64) ym.rights, (Value.int .i64) ya.page, (Value.int .i64) ya.kind, Value.bool ya.user] 35 * (blk X1 #[(Value.int .i64) 0, (Value.int .i64) 0] 27 * (blk X2 #[(Value.int .i64) 0, (Value.int .i64) 0] 27 * old w w.heap.size))))) := (hr.new #[(Value.int .i64) yk, (Value.int .i64) yc, (Value.int .i64) ym.page, (Value.int .i64) ym.size, (Value.int .i64) ym.frame, (Value.int .i64) ym.rights, (Value.int .i64) ya.page, (Value.int .i64) ya.kind, Value.bool ya.user] 35).eq (by ac_rfl)
      have x8 := hx.alloc (.cells #[(Value.int .i64) yk, (Value.int .i64) yc, (Value.int .i64) ym.page, (Value.int .i64) ym.size, (Value.int .i64) ym.frame, (Value.int .i64) ym.rights, (Value.int .i64) ya.page, (Value.int .i64) ya.kind, Value.bool ya.user] 35)
      go_upto_block 2 with fail
      generalize wr.alloc (.cells #[(Value.int .i64) yk, (Value.int .i64) yc, (Value.int .i64) ym.page, (Value.int .i64) ym.size, (Value.int .i64) ym.frame, (Value.int .i64) ym.rights, (Value.int .i64) ya.page, (Value.int .i64) ya.kind, Value.bool ya.user] 35) = w8 at *
      generalize wr.heap.size = X at *
      clear dl d0 d1 d2 d3 d4 d5 d6 d7 d8 hr hx
      have HC := Lib.hid (fun (w' : World) (P Q : HProp) (h : Has w' (P * (Q * (blk X #[(Value.int .i64) yk, (Value.int .i64) yc, (Value.int .i64) ym.page, (Value.int .i64) ym.size, (Value.int .i64) ym.frame, (Value.int .i64) ym.rights, (Value.int .i64) ya.page, (Value.int .i64) ya.kind, Value.bool ya.user] 35 * (blk X1 #[(Value.int .i64) 0, (Value.int .i64) 0] 27 * (blk X2 #[(Value.int .i64) 0, (Value.int .i64) 0] 27 * old w w.heap.size)))))) => (⟨h.right.right.lt, h.right.right.cells9⟩ : X < w'.heap.size ∧ _))
      have e0 := h8.right.right.cell 0
      have el := h8.right.right.lt
      go_cut [11, 12] from 50 to 98 (fun s11 s12 wx => ∃ (σ τ : Sc) (K : List Mp), Hid (Idle σ n 2 K ∧ Idle τ n 2 K) ∧ Has wx (spaceAt p σ * (spaceAt q τ * (blk X1 #[(Value.int .i64) 0, (Value.int .i64) 0] 27 * (blk X2 #[(Value.int .i64) 0, (Value.int .i64) 0] 27 * old w w.heap.size)))) ∧ Ext w wx)
      case first =>
        by_cases k13 : 1 ≤ yk ∧ yk ≤ 3
        · as_aux_lemma =>
          --[A
          have HS := Lib.hid (hS1.out.1.same hS1.out.2 ⟨yk, yc, ym, ya⟩ k13)
          have HM : Hid (Mid (σ1.act ⟨yk, yc, ym, ya⟩).1 n 2 (bookN K1 ⟨yk, yc, ym, ya⟩ (σ1.act ⟨yk, yc, ym, ya⟩).2.code) 0 ∧ Mid (τ1.act ⟨yk, yc, ym, ya⟩).1 n 2 (bookN K1 ⟨yk, yc, ym, ya⟩ (σ1.act ⟨yk, yc, ym, ya⟩).2.code) 0) :=
            Lib.hid ⟨hS1.out.1.mid _ k13, by rw [HS.out]; exact hS1.out.2.mid _ k13⟩
          obtain ⟨P1, hs1⟩ := hS1.out.1.safe
          obtain ⟨P2, hs2⟩ := hS1.out.2.safe
          have HA1 := Lib.hid (fun R w h => doS p σ1 ⟨yk, yc, ym, ya⟩ hs1.ok hs1.calm HYO.out R w h)
          have HA2 := Lib.hid (fun R w h => doS q τ1 ⟨yk, yc, ym, ya⟩ hs2.ok hs2.calm HYO.out R w h)
          unfold Ev.val at HA1 HA2
          rw [← HS.out] at HA2
          generalize bookN K1 ⟨yk, yc, ym, ya⟩ (σ1.act ⟨yk, yc, ym, ya⟩).2.code = K2 at *
          clear hs1 hs2 HS hS1 HYO
          generalize (σ1.act ⟨yk, yc, ym, ya⟩).1 = σ2 at *
          generalize (τ1.act ⟨yk, yc, ym, ya⟩).1 = τ2 at *
          generalize (σ1.act ⟨yk, yc, ym, ya⟩).2 = ev at *
          obtain ⟨ec, ef, ⟨ea, eb, er⟩, ek⟩ := ev
          dsimp only at *
          have hd := h8.drew
          have xd := x8.drew
          go_upto_if 50 with fail
          go_cut [50] from 52 to 53 (fun s50 wx => s50 = Value.bool true ∧ wx = w8)
          case first =>
            rcases (show yk = 1 ∨ yk = 2 ∨ yk = 3 by omega) with rfl | rfl | rfl
            · go_wp2_with fail
              go_meet
              case rel => exact ⟨rfl, rfl⟩
            · go_wp2_with fail
              go_meet
              case rel => exact ⟨rfl, rfl⟩
            · go_wp2_with fail
              go_meet
              case rel => exact ⟨rfl, rfl⟩
          case rest =>
            obtain ⟨rfl, hwx⟩ := hcut
            subst hwx
            have HKK := Lib.hid (fun (w' : World) (P Q : HProp) (h : Has w' (P * (Q * (blk X #[(Value.int .i64) yk, (Value.int .i64) yc, (Value.int .i64) ym.page, (Value.int .i64) ym.size, (Value.int .i64) ym.frame, (Value.int .i64) ym.rights, (Value.int .i64) ya.page, (Value.int .i64) ya.kind, Value.bool ya.user] 35 * (blk X1 #[(Value.int .i64) 0, (Value.int .i64) 0] 27 * (blk X2 #[(Value.int .i64) 0, (Value.int .i64) 0] 27 * old w w.heap.size)))))) => (h.right.right.cells9 : w'.cell? ⟨X, 0, none⟩ = some ((Value.int .i64) yk) ∧ w'.cell? ⟨X, 1, none⟩ = some ((Value.int .i64) yc) ∧ w'.cell? ⟨X, 2, none⟩ = some ((Value.int .i64) ym.page) ∧ w'.cell? ⟨X, 3, none⟩ = some ((Value.int .i64) ym.size) ∧ w'.cell? ⟨X, 4, none⟩ = some ((Value.int .i64) ym.frame) ∧ w'.cell? ⟨X, 5, none⟩ = some ((Value.int .i64) ym.rights) ∧ w'.cell? ⟨X, 6, none⟩ = some ((Value.int .i64) ya.page) ∧ w'.cell? ⟨X, 7, none⟩ = some ((Value.int .i64) ya.kind) ∧ w'.cell? ⟨X, 8, none⟩ = some (Value.bool ya.user)))
            clear HC e0 el
            go_upto_region 17 with fail
            go_cut [60] from 54 to 60 (fun s60 wx => s60 = Value.bool false ∧ Has wx (spaceAt q τ2 * (spaceAt p σ2 * (blk X #[(Value.int .i64) yk, (Value.int .i64) yc, (Value.int .i64) ym.page, (Value.int .i64) ym.size, (Value.int .i64) ym.frame, (Value.int .i64) ym.rights, (Value.int .i64) ya.page, (Value.int .i64) ya.kind, Value.bool ya.user] 35 * (blk X1 #[(Value.int .i64) 0, (Value.int .i64) 0] 27 * (blk X2 #[(Value.int .i64) 0, (Value.int .i64) 0] 27 * old w w.heap.size))))) ∧ Ext w wx)
            case first =>
              clear HM
              go_region_held3 (fun w' => w'.cell? ⟨X, 0, none⟩ = some ((Value.int .i64) yk) ∧ w'.cell? ⟨X, 1, none⟩ = some ((Value.int .i64) yc) ∧ w'.cell? ⟨X, 2, none⟩ = some ((Value.int .i64) ym.page) ∧ w'.cell? ⟨X, 3, none⟩ = some ((Value.int .i64) ym.size) ∧ w'.cell? ⟨X, 4, none⟩ = some ((Value.int .i64) ym.frame) ∧ w'.cell? ⟨X, 5, none⟩ = some ((Value.int .i64) ym.rights) ∧ w'.cell? ⟨X, 6, none⟩ = some ((Value.int .i64) ya.page) ∧ w'.cell? ⟨X, 7, none⟩ = some ((Value.int .i64) ya.kind) ∧ w'.cell? ⟨X, 8, none⟩ = some (Value.bool ya.user)) (first | (with_reducible exact HKK.out _ _ _ hd) | (with_reducible exact HKK.out _ _ _ hs) | (with_reducible exact HKK.out _ _ _ hz) | go_keep)
                (first | (go_at_call 8; first
                  | ((with_reducible refine (HA1.out _ _ hd).mono ?_); rintro e w5 ⟨rfl, h5, x5⟩; have hs := h5.p2; have xs := xd.trans x5; clear h5 x5)
                  | ((with_reducible refine (HA2.out _ _ hs).mono ?_); rintro e w5 ⟨rfl, hz, x5⟩; have xz := xs.trans x5; clear x5)
                  | ((with_reducible refine (HA2.out _ _ hd.p2).mono ?_); rintro e w5 ⟨rfl, h5, x5⟩; have hs := h5.p2; have xs := xd.trans x5; clear h5 x5)
                  | ((with_reducible refine (HA1.out _ _ hs).mono ?_); rintro e w5 ⟨rfl, h6, x5⟩; have hz := h6.p2; have xz := xs.trans x5; clear h6 x5)))
              all_goals
                go_wp2_with fail
                go_meet
                case rel => exact ⟨by first | rfl | simp, hz, xz⟩
            case rest =>
              obtain ⟨rfl, h9, x9⟩ := hcut
              have h10 : Has _ (spaceAt p σ2 * (spaceAt q τ2 * (blk X1 #[(Value.int .i64) 0, (Value.int .i64) 0] 27 * (blk X2 #[(Value.int .i64) 0, (Value.int .i64) 0] 27 * old w w.heap.size)))) := (h9.eq (show _ = blk X #[(Value.int .i64) yk, (Value.int .i64) yc, (Value.int .i64) ym.page, (Value.int .i64) ym.size, (Value.int .i64) ym.frame, (Value.int .i64) ym.rights, (Value.int .i64) ya.page, (Value.int .i64) ya.kind, Value.bool ya.user] 35 * (spaceAt p σ2 * (spaceAt q τ2 * (blk X1 #[(Value.int .i64) 0, (Value.int .i64) 0] 27 * (blk X2 #[(Value.int .i64) 0, (Value.int .i64) 0] 27 * old w w.heap.size)))) by ac_rfl)).right
              clear hd xd HA1 HA2 HKK h8 x8 h9
              go_wp2_with fail
              go_loopw [11] (fun t wz => ∃ (k : Nat) (σ τ : Sc), k ≤ 2 ∧ t = (Value.int .i64) k ∧ Hid (Mid σ n 2 K2 k ∧ Mid τ n 2 K2 k) ∧ Has wz (spaceAt p σ * (spaceAt q τ * (blk X1 #[(Value.int .i64) 0, (Value.int .i64) 0] 27 * (blk X2 #[(Value.int .i64) 0, (Value.int .i64) 0] 27 * old w w.heap.size)))) ∧ Ext w wz) (fun t _ => 2 - (intOf t).toNat)
              case atStart => exact ⟨0, σ2, τ2, by omega, rfl, HM, h10, x9⟩
              case round =>
                clear h10 x9 HM
                obtain ⟨k, σ3, τ3, hk, rfl, hM, hz, hxz⟩ := hrel
                by_cases hk2 : k < 2
                · have hyo : (ackStp k).ok := by unfold ackStp Stp.ok Mp.ok Ac.ok i64; dsimp only; omega
                  obtain ⟨P3, hs3⟩ := hM.out.1.safe
                  obtain ⟨P4, hs4⟩ := hM.out.2.safe
                  have HA3 := Lib.hid (fun R w h => doS p σ3 (ackStp k) hs3.ok hs3.calm hyo R w h)
                  have HA4 := Lib.hid (fun R w h => doS q τ3 (ackStp k) hs4.ok hs4.calm hyo R w h)
                  have HM2 : Hid (Mid (σ3.act (ackStp k)).1 n 2 K2 (k + 1) ∧ Mid (τ3.act (ackStp k)).1 n 2 K2 (k + 1)) := Lib.hid ⟨hM.out.1.next hk2, hM.out.2.next hk2⟩
                  unfold Ev.val at HA3 HA4
                  clear hs3 hs4 hM hyo
                  generalize σ3.act (ackStp k) = q3 at *
                  generalize τ3.act (ackStp k) = q4 at *
                  obtain ⟨σ4, ⟨ec', ef', ⟨ea', eb', er'⟩, ek'⟩⟩ := q3
                  obtain ⟨τ4, ⟨fc', ff', ⟨fa', fb', fr'⟩, fk'⟩⟩ := q4
                  unfold ackStp at HA3 HA4
                  dsimp only at *
                  have hk2' : (k : Int) < 2 := by omega
                  go_wp2_with fail
                  refine (HA3.out _ _ hz).mono ?_; rintro e w7 ⟨rfl, h7, x7⟩
                  have g7 := h7.p2
                  have y7 := hxz.trans x7
                  clear hz hxz h7 x7 HA3
                  go_wp2_with fail
                  refine (HA4.out _ _ g7).mono ?_; rintro e w8' ⟨rfl, h8, x8⟩
                  have g8 := h8.p2
                  have y8 := y7.trans x8
                  clear g7 y7 h8 x8 HA4
                  go_wp2_with fail
                  go_roundw
                  case rel => exact ⟨k + 1, σ4, τ4, by omega, by go_num, HM2, g8, y8⟩
                  case measure => simp [intOf]; omega
                · obtain rfl : k = 2 := by omega
                  have HI : Hid (Idle σ3 n 2 K2 ∧ Idle τ3 n 2 K2) := Lib.hid ⟨hM.out.1.idle, hM.out.2.idle⟩
                  clear hM
                  go_wp2_with fail
                  go_meet
                  case rel => exact ⟨σ3, τ3, K2, HI, hz, hxz⟩
          --A]
        have n1 : (yk == 1) = false := by simp; omega
        have n2 : (yk == 2) = false := by simp; omega
        have n3 : (yk == 3) = false := by simp; omega
        by_cases k4 : yk = 4
        · as_aux_lemma =>
          --[B
          subst k4
          clear k13 n1 n2 n3
          have HW1 := Lib.hid (fun R w h => whole_any p σ1 ⟨4, yc, ym, ya⟩ n 2 K1 hS1.out.1 rfl HYO.out R w h)
          have HW2 := Lib.hid (fun R w h => whole_any q τ1 ⟨4, yc, ym, ya⟩ n 2 K1 hS1.out.2 rfl HYO.out R w h)
          have HT1 := Lib.hid hS1.out.2
          clear HYO hS1
          generalize ansE 2 K1 ⟨4, yc, ym, ya⟩ = ev at *
          obtain ⟨ec, ef, ⟨ea, eb, er⟩, ek⟩ := ev
          dsimp only at *
          obtain ⟨e0, e1, e2, e3, e4, e5, e6, e7, e8⟩ := h8.right.right.cells9
          go_wp2_with fail
          refine (HW1.out _ _ h8).mono ?_; rintro e w9 ⟨σ2, hI2, rfl, h9, x9⟩
          have HI2 := Lib.hid hI2
          clear hI2
          have h10 : Has _ (spaceAt q τ1 * (spaceAt p σ2 * (blk X #[(Value.int .i64) 4, (Value.int .i64) yc, (Value.int .i64) ym.page, (Value.int .i64) ym.size, (Value.int .i64) ym.frame, (Value.int .i64) ym.rights, (Value.int .i64) ya.page, (Value.int .i64) ya.kind, Value.bool ya.user] 35 * (blk w9.heap.size #[(Value.int .i64) ec, Value.bool ef, (Value.int .i64) ea, (Value.int .i64) eb, (Value.int .i64) er, Value.bool ek] 39 * (blk X1 #[(Value.int .i64) 0, (Value.int .i64) 0] 27 * (blk X2 #[(Value.int .i64) 0, (Value.int .i64) 0] 27 * old w w.heap.size)))))) := (h9.new #[(Value.int .i64) ec, Value.bool ef, (Value.int .i64) ea, (Value.int .i64) eb, (Value.int .i64) er, Value.bool ek] 39).eq (by ac_rfl)
          have x10 := (x8.trans x9).alloc (.cells #[(Value.int .i64) ec, Value.bool ef, (Value.int .i64) ea, (Value.int .i64) eb, (Value.int .i64) er, Value.bool ek] 39)
          clear h8 x8 h9 x9 e0 e1 e2 e3 e4 e5 e6 e7 e8 el HW1 HC
          go_upto_region 26 with fail
          generalize w9.alloc (.cells #[(Value.int .i64) ec, Value.bool ef, (Value.int .i64) ea, (Value.int .i64) eb, (Value.int .i64) er, Value.bool ek] 39) = w10 at *
          generalize w9.heap.size = Y at *
          have hd := h10.drew
          have xd := x10.drew
          have HKK := Lib.hid (fun (w' : World) (P Q : HProp) (h : Has w' (P * (Q * (blk X #[(Value.int .i64) 4, (Value.int .i64) yc, (Value.int .i64) ym.page, (Value.int .i64) ym.size, (Value.int .i64) ym.frame, (Value.int .i64) ym.rights, (Value.int .i64) ya.page, (Value.int .i64) ya.kind, Value.bool ya.user] 35 * (blk Y #[(Value.int .i64) ec, Value.bool ef, (Value.int .i64) ea, (Value.int .i64) eb, (Value.int .i64) er, Value.bool ek] 39 * (blk X1 #[(Value.int .i64) 0, (Value.int .i64) 0] 27 * (blk X2 #[(Value.int .i64) 0, (Value.int .i64) 0] 27 * old w w.heap.size))))))) => (⟨h.right.right.cells9, h.right.right.right.cells6⟩ : (w'.cell? ⟨X, 0, none⟩ = some ((Value.int .i64) 4) ∧ w'.cell? ⟨X, 1, none⟩ = some ((Value.int .i64) yc) ∧ w'.cell? ⟨X, 2, none⟩ = some ((Value.int .i64) ym.page) ∧ w'.cell? ⟨X, 3, none⟩ = some ((Value.int .i64) ym.size) ∧ w'.cell? ⟨X, 4, none⟩ = some ((Value.int .i64) ym.frame) ∧ w'.cell? ⟨X, 5, none⟩ = some ((Value.int .i64) ym.rights) ∧ w'.cell? ⟨X, 6, none⟩ = some ((Value.int .i64) ya.page) ∧ w'.cell? ⟨X, 7, none⟩ = some ((Value.int .i64) ya.kind) ∧ w'.cell? ⟨X, 8, none⟩ = some (Value.bool ya.user)) ∧ w'.cell? ⟨Y, 0, none⟩ = some ((Value.int .i64) ec) ∧ w'.cell? ⟨Y, 1, none⟩ = some (Value.bool ef) ∧ w'.cell? ⟨Y, 2, none⟩ = some ((Value.int .i64) ea) ∧ w'.cell? ⟨Y, 3, none⟩ = some ((Value.int .i64) eb) ∧ w'.cell? ⟨Y, 4, none⟩ = some ((Value.int .i64) er) ∧ w'.cell? ⟨Y, 5, none⟩ = some (Value.bool ek)))
          by_cases hc1 : yc = 1
          · have hcc : (yc != 1) = false := by simpa using hc1
            clear hc1
            go_cut [87] from 78 to 87 (fun s87 wx => s87 = Value.bool false ∧ Has wx (spaceAt q τ1 * (spaceAt p σ2 * (blk X #[(Value.int .i64) 4, (Value.int .i64) yc, (Value.int .i64) ym.page, (Value.int .i64) ym.size, (Value.int .i64) ym.frame, (Value.int .i64) ym.rights, (Value.int .i64) ya.page, (Value.int .i64) ya.kind, Value.bool ya.user] 35 * (blk Y #[(Value.int .i64) ec, Value.bool ef, (Value.int .i64) ea, (Value.int .i64) eb, (Value.int .i64) er, Value.bool ek] 39 * (blk X1 #[(Value.int .i64) 0, (Value.int .i64) 0] 27 * (blk X2 #[(Value.int .i64) 0, (Value.int .i64) 0] 27 * old w w.heap.size)))))) ∧ Ext w wx)
            case first =>
              clear HI2 HT1 HW2
              obtain ⟨⟨q0, q1, q2, q3, q4, q5, q6, q7, q8⟩, r0, r1, r2, r3, r4, r5⟩ := HKK.out _ _ _ h10
              have ql := h10.right.right.lt
              go_region
              all_goals
                go_wp2_with fail
                go_meet
                case rel => exact ⟨by first | rfl | simp, hd, xd⟩
            case rest =>
              obtain ⟨rfl, h11, x11⟩ := hcut
              have h12 : Has _ (spaceAt p σ2 * (spaceAt q τ1 * (blk X1 #[(Value.int .i64) 0, (Value.int .i64) 0] 27 * (blk X2 #[(Value.int .i64) 0, (Value.int .i64) 0] 27 * old w w.heap.size)))) := (h11.eq (show _ = blk Y #[(Value.int .i64) ec, Value.bool ef, (Value.int .i64) ea, (Value.int .i64) eb, (Value.int .i64) er, Value.bool ek] 39 * (blk X #[(Value.int .i64) 4, (Value.int .i64) yc, (Value.int .i64) ym.page, (Value.int .i64) ym.size, (Value.int .i64) ym.frame, (Value.int .i64) ym.rights, (Value.int .i64) ya.page, (Value.int .i64) ya.kind, Value.bool ya.user] 35 * (spaceAt p σ2 * (spaceAt q τ1 * (blk X1 #[(Value.int .i64) 0, (Value.int .i64) 0] 27 * (blk X2 #[(Value.int .i64) 0, (Value.int .i64) 0] 27 * old w w.heap.size))))) by ac_rfl)).right.right
              clear h10 x10 hd xd HKK h11
              go_wp2_with fail
              go_meet
              case rel => exact ⟨σ2, τ1, K1, Lib.hid ⟨HI2.out, HT1.out⟩, h12, x11⟩
          · have hcc : (yc != 1) = true := by simpa using hc1
            go_cut [87] from 78 to 87 (fun s87 wx => ∃ τ2, s87 = Value.bool false ∧ Hid (Idle τ2 n 2 K1) ∧ Has wx (spaceAt q τ2 * (spaceAt p σ2 * (blk X #[(Value.int .i64) 4, (Value.int .i64) yc, (Value.int .i64) ym.page, (Value.int .i64) ym.size, (Value.int .i64) ym.frame, (Value.int .i64) ym.rights, (Value.int .i64) ya.page, (Value.int .i64) ya.kind, Value.bool ya.user] 35 * (blk Y #[(Value.int .i64) ec, Value.bool ef, (Value.int .i64) ea, (Value.int .i64) eb, (Value.int .i64) er, Value.bool ek] 39 * (blk X1 #[(Value.int .i64) 0, (Value.int .i64) 0] 27 * (blk X2 #[(Value.int .i64) 0, (Value.int .i64) 0] 27 * old w w.heap.size)))))) ∧ Ext w wx)
            case first =>
              clear HI2 HT1
              go_region_held3 (fun w' => (w'.cell? ⟨X, 0, none⟩ = some ((Value.int .i64) 4) ∧ w'.cell? ⟨X, 1, none⟩ = some ((Value.int .i64) yc) ∧ w'.cell? ⟨X, 2, none⟩ = some ((Value.int .i64) ym.page) ∧ w'.cell? ⟨X, 3, none⟩ = some ((Value.int .i64) ym.size) ∧ w'.cell? ⟨X, 4, none⟩ = some ((Value.int .i64) ym.frame) ∧ w'.cell? ⟨X, 5, none⟩ = some ((Value.int .i64) ym.rights) ∧ w'.cell? ⟨X, 6, none⟩ = some ((Value.int .i64) ya.page) ∧ w'.cell? ⟨X, 7, none⟩ = some ((Value.int .i64) ya.kind) ∧ w'.cell? ⟨X, 8, none⟩ = some (Value.bool ya.user)) ∧ w'.cell? ⟨Y, 0, none⟩ = some ((Value.int .i64) ec) ∧ w'.cell? ⟨Y, 1, none⟩ = some (Value.bool ef) ∧ w'.cell? ⟨Y, 2, none⟩ = some ((Value.int .i64) ea) ∧ w'.cell? ⟨Y, 3, none⟩ = some ((Value.int .i64) eb) ∧ w'.cell? ⟨Y, 4, none⟩ = some ((Value.int .i64) er) ∧ w'.cell? ⟨Y, 5, none⟩ = some (Value.bool ek)) (first | (with_reducible exact HKK.out _ _ _ hd) | (with_reducible exact HKK.out _ _ _ hz) | go_keep)
                (first | (go_at_call 9; (with_reducible refine (HW2.out _ _ hd).mono ?_); rintro e w5 ⟨τ2, hI3, rfl, hz, x5⟩; have HI3 := Lib.hid hI3; have xz := xd.trans x5; clear x5 hI3))
              all_goals
                go_wp2_with fail
                go_meet
                case rel => exact ⟨τ2, by first | rfl | simp, HI3, hz, xz⟩
            case rest =>
              obtain ⟨τ2, rfl, HI3, h11, x11⟩ := hcut
              have h12 : Has _ (spaceAt p σ2 * (spaceAt q τ2 * (blk X1 #[(Value.int .i64) 0, (Value.int .i64) 0] 27 * (blk X2 #[(Value.int .i64) 0, (Value.int .i64) 0] 27 * old w w.heap.size)))) := (h11.eq (show _ = blk Y #[(Value.int .i64) ec, Value.bool ef, (Value.int .i64) ea, (Value.int .i64) eb, (Value.int .i64) er, Value.bool ek] 39 * (blk X #[(Value.int .i64) 4, (Value.int .i64) yc, (Value.int .i64) ym.page, (Value.int .i64) ym.size, (Value.int .i64) ym.frame, (Value.int .i64) ym.rights, (Value.int .i64) ya.page, (Value.int .i64) ya.kind, Value.bool ya.user] 35 * (spaceAt p σ2 * (spaceAt q τ2 * (blk X1 #[(Value.int .i64) 0, (Value.int .i64) 0] 27 * (blk X2 #[(Value.int .i64) 0, (Value.int .i64) 0] 27 * old w w.heap.size))))) by ac_rfl)).right.right
              clear h10 x10 hd xd HKK h11 HW2
              go_wp2_with fail
              go_meet
              case rel => exact ⟨σ2, τ2, K1, Lib.hid ⟨HI2.out, HI3.out⟩, h12, x11⟩
          --B]
        have n4 : (yk == 4) = false := by simpa using k4
        by_cases k7 : yk = 7
        · as_aux_lemma =>
          --[C
          subst k7
          clear k13 n1 n2 n3 n4 k4
          obtain ⟨P1, hs1⟩ := hS1.out.1.safe
          obtain ⟨P2, hs2⟩ := hS1.out.2.safe
          have HA1 := Lib.hid (fun R w h => doS p σ1 ⟨7, yc, ym, ya⟩ hs1.ok hs1.calm HYO.out R w h)
          have HA2 := Lib.hid (fun R w h => doS q τ1 ⟨7, yc, ym, ya⟩ hs2.ok hs2.calm HYO.out R w h)
          have HI2 : Hid (Idle (σ1.act ⟨7, yc, ym, ya⟩).1 n 2 K1) := Lib.hid (hS1.out.1.evict _ rfl)
          have HI3 : Hid (Idle (τ1.act ⟨7, yc, ym, ya⟩).1 n 2 K1) := Lib.hid (hS1.out.2.evict _ rfl)
          have HT1 := Lib.hid hS1.out.2
          unfold Ev.val at HA1 HA2
          clear hs1 hs2 hS1 HYO
          generalize σ1.act ⟨7, yc, ym, ya⟩ = q3 at *
          generalize τ1.act ⟨7, yc, ym, ya⟩ = q4 at *
          obtain ⟨σ2, ⟨ec, ef, ⟨ea, eb, er⟩, ek⟩⟩ := q3
          obtain ⟨τ2, ⟨fc, ff, ⟨fa, fb, fr⟩, fk⟩⟩ := q4
          dsimp only at *
          obtain ⟨e0, e1, e2, e3, e4, e5, e6, e7, e8⟩ := h8.right.right.cells9
          go_wp2_with fail
          refine (HA1.out _ _ h8).mono ?_; rintro e w9 ⟨rfl, h9, x9⟩
          have h10 := h9.p2
          have x10 := x8.trans x9
          clear h8 x8 h9 x9 HA1 e0 e1 e2 e3 e4 e5 e6 e7 e8 el HC
          obtain ⟨e0, e1, e2, e3, e4, e5, e6, e7, e8⟩ := h10.right.right.cells9
          have el := h10.right.right.lt
          by_cases hc1 : yc = 1
          · have hcc : (yc != 1) = false := by simpa using hc1
            clear hc1
            have h12 : Has _ (spaceAt p σ2 * (spaceAt q τ1 * (blk X1 #[(Value.int .i64) 0, (Value.int .i64) 0] 27 * (blk X2 #[(Value.int .i64) 0, (Value.int .i64) 0] 27 * old w w.heap.size)))) := (h10.eq (show _ = blk X _ _ * (spaceAt p σ2 * (spaceAt q τ1 * (blk X1 #[(Value.int .i64) 0, (Value.int .i64) 0] 27 * (blk X2 #[(Value.int .i64) 0, (Value.int .i64) 0] 27 * old w w.heap.size)))) by ac_rfl)).right
            go_wp2_with fail
            go_meet
            case rel => exact ⟨σ2, τ1, K1, Lib.hid ⟨HI2.out, HT1.out⟩, h12, x10⟩
          · have hcc : (yc != 1) = true := by simpa using hc1
            go_wp2_with fail
            refine (HA2.out _ _ h10).mono ?_; rintro e w11 ⟨rfl, h11, x11⟩
            have h12 : Has _ (spaceAt p σ2 * (spaceAt q τ2 * (blk X1 #[(Value.int .i64) 0, (Value.int .i64) 0] 27 * (blk X2 #[(Value.int .i64) 0, (Value.int .i64) 0] 27 * old w w.heap.size)))) := (h11.eq (show _ = blk X _ _ * (spaceAt p σ2 * (spaceAt q τ2 * (blk X1 #[(Value.int .i64) 0, (Value.int .i64) 0] 27 * (blk X2 #[(Value.int .i64) 0, (Value.int .i64) 0] 27 * old w w.heap.size)))) by ac_rfl)).right
            have x12 := x10.trans x11
            clear h10 x10 h11 x11 HA2 e0 e1 e2 e3 e4 e5 e6 e7 e8 el
            go_wp2_with fail
            go_meet
            case rel => exact ⟨σ2, τ2, K1, Lib.hid ⟨HI2.out, HI3.out⟩, h12, x12⟩
          --C]
        have n7 : (yk == 7) = false := by simpa using k7
        have h12 : Has _ (spaceAt p σ1 * (spaceAt q τ1 * (blk X1 #[(Value.int .i64) 0, (Value.int .i64) 0] 27 * (blk X2 #[(Value.int .i64) 0, (Value.int .i64) 0] 27 * old w w.heap.size)))) := (h8.eq (show _ = blk X _ _ * (spaceAt p σ1 * (spaceAt q τ1 * (blk X1 #[(Value.int .i64) 0, (Value.int .i64) 0] 27 * (blk X2 #[(Value.int .i64) 0, (Value.int .i64) 0] 27 * old w w.heap.size)))) by ac_rfl)).right
        go_wp2_with fail
        go_meet
        case rel => exact ⟨σ1, τ1, K1, hS1, h12, x8⟩
      case rest =>
        clear h8 x8 HC e0 el HYO hS1
        obtain ⟨σ2, τ2, K2, HI, h9, x9⟩ := hcut
        obtain ⟨P1, hs1⟩ := HI.out.1.safe
        obtain ⟨P2, hs2⟩ := HI.out.2.safe
        have HL1 := Lib.hid (fun R w h => listS p σ2 hs1.wf R w h)
        have HL2 := Lib.hid (fun R w h => listS q τ2 hs2.wf R w h)
        have HF1 := Lib.hid (fun R w h => freeS p σ2 R w h)
        have HF2 := Lib.hid (fun R w h => freeS q τ2 R w h)
        have HBZ := Lib.hid (fun R w h => busyS p σ2 R w h)
        rw [HI.out.1.busy] at HBZ
        rw [HI.out.1.book] at HL1
        rw [HI.out.2.book] at HL2
        have hff : τ2.s.frees.length = σ2.s.frees.length := by
          have := HI.out.1.frees
          have := HI.out.2.frees
          omega
        rw [hff] at HF2
        generalize σ2.s.frees.length = nf at *
        clear hs1 hs2 hff
        go_wp2_with fail
        refine (HL1.out _ _ h9).mono ?_; rintro e w10 ⟨A1, c1, rfl, h10, x10⟩
        have g10 : Has _ (spaceAt q τ2 * (mrow (.slice A1 K2.length c1) K2 * (spaceAt p σ2 * (blk X1 #[(Value.int .i64) 0, (Value.int .i64) 0] 27 * (blk X2 #[(Value.int .i64) 0, (Value.int .i64) 0] 27 * old w w.heap.size))))) := h10.eq (by ac_rfl)
        have y10 := x9.trans x10
        clear h9 x9 h10 x10 HL1
        go_wp2_with fail
        refine (HL2.out _ _ g10).mono ?_; rintro e w11 ⟨A2, c2, rfl, h11, x11⟩
        have g11 : Has _ (mrow (.slice A1 K2.length c1) K2 * (mrow (.slice A2 K2.length c2) K2 * (spaceAt p σ2 * (spaceAt q τ2 * (blk X1 #[(Value.int .i64) 0, (Value.int .i64) 0] 27 * (blk X2 #[(Value.int .i64) 0, (Value.int .i64) 0] 27 * old w w.heap.size)))))) := h11.eq (by ac_rfl)
        have y11 := y10.trans x11
        clear g10 y10 h11 x11 HL2
        go_wp2_with fail
        refine (sameMaps_any K2 A1 A2 _ c1 _ c2 _ _ g11).mono ?_; rintro e w12 ⟨rfl, b12⟩
        have h12 := (g11.below b12).right.right
        have x12 := y11.below b12
        clear g11 y11 b12
        go_wp2_with fail
        refine (HF1.out _ _ h12).mono ?_; rintro e w13 ⟨rfl, hw⟩
        subst hw
        go_wp2_with fail
        refine (HF2.out _ _ h12.p2).mono ?_; rintro e w13 ⟨rfl, hw⟩
        subst hw
        clear HF1 HF2
        go_wp2_with fail
        refine (HBZ.out _ _ h12).mono ?_; rintro e w13 ⟨rfl, hw⟩
        subst hw
        go_wp2_with fail
        go_roundw
        case rel => exact ⟨i + 1, σ2, τ2, K2, by omega, by go_num, HI, h12, x12⟩
        case measure => simp [intOf]; omega
    · obtain rfl : i = m := by omega
      go_wp2_with fail
      go_ret
      exact ⟨rfl, below_of1 hr.right.right.right.right hx⟩
end Go.Proofs.Ytmfheghbgihdmaa
