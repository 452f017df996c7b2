/- Tables against a book, change by change; plain law, with no program in sight. -/
import Derived.Test.YtmfheghbgihdmaaCoreP3
import Derived.Test.YtmfheghbgihdmaaSpcA
import Derived.Test.YtmfheghbgihdmaaSpcN
namespace Go.Proofs.Ytmfheghbgihdmaa
open Go.RowKit
structure TB (s : Ms) (L : List Mp) (n : Nat) : Prop where
  ok : s.Ok
  wf : Wf s 0 [] (fun _ => False)
  lk : Lk s 0 L
  n : s.n = n
section
variable {s : Ms} {L : List Mp} {n : Nat}
theorem TB.first {N : Int} (h : 1 ≤ N) (h1 : N ≤ 128) : TB (memS N 1 []) [] N.toNat :=
  ⟨memS_ok (by omega) h1 (fun x hx => by cases hx), by rw [first_mem h]; exact first_wf (by omega), by rw [first_mem h]; exact first_lk (by omega), memS_n⟩
theorem add_not {x : Mp} (h : Bk.addC L x ≠ 0) : Bk.add L x = L := by
  unfold Bk.addC at h
  unfold Bk.add
  by_cases hc : check x = 0
  · rw [if_neg (by simpa using hc)] at h
    by_cases hb : Bk.bad L x = true
    · rw [if_neg (by rw [hb]; simp)]
    · rw [if_neg hb] at h; exact absurd rfl h
  · rw [if_neg (fun hh => hc hh.1)]
theorem check_few (x : Mp) : check x = 0 ∨ check x = 1 ∨ check x = 2 ∨ check x = 3 := by unfold check; split <;> (try split) <;> (try split) <;> omega
theorem TB.full (h : TB s L n) {x : Mp} (hc : insC s 0 x = 6) : s.frees.length < 3 ∧ insS s 0 x = s := by
  refine ⟨?_, by unfold insS; rw [if_neg (by rw [hc]; decide)]⟩
  rcases ins_code h.wf h.lk x with h1 | h1
  · exact h1.2.2.2
  · rw [hc] at h1
    unfold Bk.addC at h1
    have := check_few x
    split at h1
    · omega
    · split at h1 <;> omega
theorem TB.add (h : TB s L n) (x : Mp) (hc : insC s 0 x ≠ 6) : insC s 0 x = Bk.addC L x ∧ TB (insS s 0 x) (Bk.add L x) n := by
  have he : insC s 0 x = Bk.addC L x := by
    rcases ins_code h.wf h.lk x with h1 | h1
    · exact absurd h1.1 hc
    · exact h1
  refine ⟨he, ?_⟩
  obtain ⟨w1, w2, w3, _⟩ := ins_ok h.wf h.ok.inv h.ok.small x
  have hok : (insS s 0 x).Ok := ⟨w2, by rw [w3]; exact h.ok.small⟩
  by_cases h0 : insC s 0 x = 0
  · exact ⟨hok, w1, (lk_ins h.wf h.ok.inv h.ok.small h.lk h0).1, w3.trans h.n⟩
  · have e : insS s 0 x = s := by unfold insS; rw [if_neg h0]
    rw [e, add_not (by rw [← he]; exact h0)]
    exact h
theorem drop_not {p : Int} (hL : Bk.Ok L) (h : Bk.dropC L p ≠ 0) : Bk.dropL L p = L := by
  unfold Bk.dropC at h
  unfold Bk.dropL
  split
  · rename_i hb
    rw [if_pos hb] at h
    rcases Bk.place hL p with ⟨hf, hd, _⟩ | ⟨_, _, hf, _⟩
    · exact hd
    · rw [hf] at h; exact absurd rfl h
  · rfl
theorem mpOf_getD (o : Option Mp) : mpOf o = (o.getD Mp.zero).val := by cases o <;> rfl
theorem TB.drop (h : TB s L n) (p : Int) : findC s 0 p = Bk.dropC L p ∧ mpOf (Bk.dropR L p) = (findM s 0 p).val ∧ TB (giveL (remS s 0 p) (remG s 0 p)) (Bk.dropL L p) n := by
  obtain ⟨c1, c2⟩ := lk_code h.wf h.lk p
  refine ⟨c1, by rw [mpOf_getD, c2], ?_⟩
  by_cases hf : findC s 0 p = 0
  · obtain ⟨w1, w2, w3, _⟩ := rem_give h.wf h.ok.inv hf
    exact ⟨⟨w2, by show (remGive s p).n ≤ 128; rw [w3]; exact h.ok.small⟩, w1, lk_give h.wf h.ok.inv h.lk hf, w3.trans h.n⟩
  · obtain ⟨_, e2, e3⟩ := rem_none hf
    rw [e2, e3, drop_not h.lk.ok (by rw [← c1]; exact hf)]
    exact h
/-- Each table that goes is given back. -/
theorem TB.gives (h : TB s L n) (p : Int) {k : Nat} (hk : k < (remG s 0 p).length) : (giveL (remS s 0 p) ((remG s 0 p).take k)).has (remG s 0 p)[k] = true := by
  by_cases hf : findC s 0 p = 0
  · obtain ⟨w1, w2, w3, _, w5, _⟩ := rem_ok h.wf h.ok.inv hf
    have hgn : (remG s 0 p).Nodup := by
      have := w1.nd
      rw [List.append_nil] at this
      exact (List.pairwise_reverse.1 this).imp fun h => h.symm
    have hm : (remG s 0 p)[k] ∈ remG s 0 p := List.getElem_mem hk
    have hm' : (remG s 0 p)[k] ∈ (remG s 0 p).reverse ++ [] := by rw [List.append_nil, List.mem_reverse]; exact hm
    have g0 := (w1.gz _ hm').1
    have htk : (remS s 0 p).tk ((remG s 0 p)[k]).toNat = true := (w1.use _).2 (.inr (by rw [Int.toNat_of_nonneg g0]; exact hm'))
    obtain ⟨_, u2, _, u4⟩ := giveL_use ((remG s 0 p).take k) (remS s 0 p) w2
    refine Ms.has_iff.2 ⟨g0, ?_, (u4 _).2 ⟨htk, ?_⟩⟩
    · rw [u2]
      have := w2.tkl _ htk
      have := w2.le
      omega
    · rw [Int.toNat_of_nonneg g0]
      intro hx
      obtain ⟨j, hj, hje⟩ := List.getElem_of_mem hx
      rw [List.getElem_take] at hje
      rw [List.length_take] at hj
      have := (List.pairwise_iff_getElem.1 hgn) j k (by omega) hk (by omega)
      exact this hje
  · have e := (rem_none hf).2.1
    rw [e] at hk
    simp at hk
theorem prot_not {p ri : Int} (hL : Bk.Ok L) (h : Bk.protC L p ri ≠ 0) : Bk.protL L p ri = L := by
  unfold Bk.protC at h
  unfold Bk.protL
  split
  · rename_i hb
    rw [if_pos hb] at h
    rcases Bk.place hL p with ⟨hf, _, hd⟩ | ⟨_, _, hf, _⟩
    · exact hd ri
    · rw [hf] at h; exact absurd rfl h
  · rfl
theorem TB.prot (h : TB s L n) (p ri : Int) : prC s 0 p ri = Bk.protC L p ri ∧ mpOf (Bk.protR L p ri) = (prM s 0 p ri).val ∧ TB (prS s 0 p ri) (Bk.protL L p ri) n := by
  obtain ⟨c1, c2⟩ := lk_code h.wf h.lk p
  have hc : prC s 0 p ri = Bk.protC L p ri := by
    unfold prC Bk.protC Bk.protB
    rw [c1]
    unfold Bk.dropC
    by_cases hr : ri < 0 ∨ 7 < ri
    · rw [if_pos hr, if_neg]
      simp
      omega
    · rw [if_neg hr]
      have e1 : decide (0 ≤ ri) = true := decide_eq_true (by omega)
      have e2 : decide (ri ≤ 7) = true := decide_eq_true (by omega)
      rw [e1, e2]
      cases hasB p <;> rfl
  refine ⟨hc, ?_, ?_⟩
  · rw [mpOf_getD]
    unfold prM
    by_cases h0 : prC s 0 p ri = 0
    · rw [if_pos h0]
      have hr : 0 ≤ ri ∧ ri ≤ 7 := by
        unfold prC at h0
        split at h0
        · cases h0
        · omega
      have hf0 : findC s 0 p = 0 := by
        unfold prC at h0
        rw [if_neg (by omega)] at h0
        exact h0
      obtain ⟨hp, hB, h1, _⟩ := lk_found h.wf h.lk hf0
      have hpB : Bk.protB p ri = true := Bk.protB_iff.2 ⟨hp.1, hp.2, hr.1, hr.2⟩
      unfold Bk.protR
      rw [if_pos hpB, h1]
      rfl
    · rw [if_neg h0]
      have : Bk.protR L p ri = none := by
        rw [hc] at h0
        unfold Bk.protC at h0
        unfold Bk.protR
        split
        · rename_i hb
          rw [if_pos hb] at h0
          cases hf : Bk.find L p with
          | none => rfl
          | some m => rw [hf] at h0; exact absurd rfl h0
        · rfl
      rw [this]
      rfl
  · by_cases h0 : prC s 0 p ri = 0
    · obtain ⟨w1, w2, w3, _⟩ := pr_ok h.wf h.ok.inv h0
      exact ⟨⟨w2, by rw [w3]; exact h.ok.small⟩, w1, lk_pr h.wf h.ok.inv h.lk h0, w3.trans h.n⟩
    · have e : prS s 0 p ri = s := by unfold prS; rw [if_neg h0]
      rw [e, prot_not h.lk.ok (by rw [← hc]; exact h0)]
      exact h
/-- What all lists tell. -/
theorem TB.all (h : TB s L n) : allM s 0 = L ∧ (allT s 0).length = (seenL L).length + 1 ∧ (allT s 0).length + s.frees.length = n ∧ (allT s 0).Nodup ∧ ∀ t ∈ allT s 0, s.has t = true := by
  obtain ⟨_, l2, nd, hm⟩ := list_link h.wf
  have hc := tabs_count h.wf h.ok.inv
  refine ⟨l2.unique h.lk, needed_tabs h.wf h.lk, by rw [h.n] at hc; simpa using hc, nd, fun t ht => ?_⟩
  obtain ⟨a, b, c⟩ := tabs_nat h.wf ((hm t).1 ht)
  exact Ms.has_iff.2 ⟨a, b, c⟩
end
end Go.Proofs.Ytmfheghbgihdmaa
namespace Go.Proofs.Ytmfheghbgihdmaa
open Go.RowKit
/-- A book behind a step that came to a code. -/
def bookN (L : List Mp) (x : Stp) (c : Int) : List Mp :=
  if c = 0 ∧ 1 ≤ x.kind ∧ x.kind ≤ 3 then (if x.kind = 1 then Bk.add L x.m else if x.kind = 2 then Bk.dropL L x.m.page else Bk.protL L x.m.page x.m.rights) else L
theorem bookN_not {L : List Mp} {x : Stp} {c : Int} (h : ¬ (1 ≤ x.kind ∧ x.kind ≤ 3)) : bookN L x c = L := by unfold bookN; rw [if_neg (fun hh => h hh.2)]
theorem bookN_bad {L : List Mp} {x : Stp} {c : Int} (h : c ≠ 0) : bookN L x c = L := by unfold bookN; rw [if_neg (fun hh => h hh.1)]
theorem Lk.all {s : Ms} {L : List Mp} {g : List Int} {X : Int → Prop} (hw : Wf s 0 g X) (h : Lk s 0 L) : allM s 0 = L := ((list_link hw).2.1).unique h
theorem Lk.same_maps {s s' : Ms} {L : List Mp} (h : Lk s 0 L) (hm : ∀ q, InP q → mapAt s' 0 q = mapAt s 0 q) : Lk s' 0 L := ⟨h.ok, fun q hq => (h.same q hq).trans (hm q hq).symm⟩
namespace Safe
variable {σ : Sc} {P : List Mp}
theorem book_walk (h : Safe σ P) {k : Nat} (hk : k < σ.cs.length) : allM (σ.walk k).1.s 0 = allM σ.s 0 := by
  cases hon : (σ.core k).k.on with
  | false =>
    unfold Sc.walk
    rw [step_off hon]
  | true =>
    have hs := h.walk_stepIn hk hon
    exact Lk.all hs.wf (h.lk.same_maps hs.mark.map)
theorem book_ack (h : Safe σ P) (k : Nat) : allM (σ.ack k).1.s 0 = allM σ.s 0 := by
  unfold Sc.ack
  split
  · rfl
  split
  · show allM (giveL σ.s σ.gone) 0 = _
    exact Lk.all (h.wf.give h.ok.s.inv) (h.lk.same_maps fun q hq => mapAt_way (give_way h.wf h.ok.s.inv hq))
  · rfl
theorem book_change (h : Safe σ P) (x : Stp) (hx : 1 ≤ x.kind ∧ x.kind ≤ 3) : allM (σ.change x).1.s 0 = bookN (allM σ.s 0) x (σ.change x).2.code := by
  cases hb : σ.busy with
  | true =>
    have e : σ.change x = (σ, .no 8) := by unfold Sc.change; rw [if_pos hb]
    rw [e, bookN_bad (by show (8 : Int) ≠ 0; decide)]
  | false =>
    obtain ⟨hg, _⟩ := h.quiet hb
    have hwf := h.wf
    rw [hg] at hwf
    by_cases h1 : x.kind = 1
    · have e : σ.change x = ({ σ with s := insS σ.s 0 x.m }, ⟨insC σ.s 0 x.m, false, An.zero, decide (insC σ.s 0 x.m = 0)⟩) := by unfold Sc.change; rw [if_neg (by rw [hb]; simp), if_pos h1]
      rw [e]
      show allM (insS σ.s 0 x.m) 0 = bookN _ x (insC σ.s 0 x.m)
      by_cases hc : insC σ.s 0 x.m = 0
      · have : bookN (allM σ.s 0) x (insC σ.s 0 x.m) = Bk.add (allM σ.s 0) x.m := by unfold bookN; rw [if_pos ⟨hc, hx⟩, if_pos h1]
        rw [this]
        exact Lk.all (ins_ok hwf h.ok.s.inv h.ok.s.small x.m).1 (lk_ins hwf h.ok.s.inv h.ok.s.small h.lk hc).1
      · rw [bookN_bad hc]
        have : insS σ.s 0 x.m = σ.s := by unfold insS; rw [if_neg hc]
        rw [this]
    by_cases h2 : x.kind = 2
    · by_cases hf : findC σ.s 0 x.m.page = 0
      · have e : σ.change x = (σ.post (remS σ.s 0 x.m.page) (findM σ.s 0 x.m.page) (remG σ.s 0 x.m.page), .no 0) := by unfold Sc.change; rw [if_neg (by rw [hb]; simp), if_neg h1, if_pos h2, if_pos hf]
        rw [e]
        show allM (remS σ.s 0 x.m.page) 0 = bookN _ x 0
        have : bookN (allM σ.s 0) x 0 = Bk.dropL (allM σ.s 0) x.m.page := by unfold bookN; rw [if_pos ⟨rfl, hx⟩, if_neg h1, if_pos h2]
        rw [this]
        exact Lk.all (rem_ok hwf h.ok.s.inv hf).1 (lk_rem hwf h.ok.s.inv h.lk hf)
      · have e : σ.change x = (σ, .no (findC σ.s 0 x.m.page)) := by unfold Sc.change; rw [if_neg (by rw [hb]; simp), if_neg h1, if_pos h2, if_neg hf]
        rw [e]
        exact (bookN_bad hf).symm
    · have h3 : x.kind = 3 := by omega
      by_cases hf : prC σ.s 0 x.m.page x.m.rights = 0
      · have e : σ.change x = (σ.post (prS σ.s 0 x.m.page x.m.rights) (prM σ.s 0 x.m.page x.m.rights) [], .no 0) := by unfold Sc.change; rw [if_neg (by rw [hb]; simp), if_neg h1, if_neg h2, if_pos hf]
        rw [e]
        show allM (prS σ.s 0 x.m.page x.m.rights) 0 = bookN _ x 0
        have : bookN (allM σ.s 0) x 0 = Bk.protL (allM σ.s 0) x.m.page x.m.rights := by unfold bookN; rw [if_pos ⟨rfl, hx⟩, if_neg h1, if_neg h2]
        rw [this]
        exact Lk.all (pr_ok hwf h.ok.s.inv hf).1 (lk_pr hwf h.ok.s.inv h.lk hf)
      · have e : σ.change x = (σ, .no (prC σ.s 0 x.m.page x.m.rights)) := by unfold Sc.change; rw [if_neg (by rw [hb]; simp), if_neg h1, if_neg h2, if_neg hf]
        rw [e]
        exact (bookN_bad hf).symm
/-- What is mapped behind a step. -/
theorem book_act (h : Safe σ P) (x : Stp) : allM (σ.act x).1.s 0 = bookN (allM σ.s 0) x (σ.act x).2.code := by
  unfold Sc.act
  split
  · rename_i hx; exact h.book_change x hx
  rename_i hx
  rw [bookN_not hx]
  split; · rfl
  split; · rfl
  rename_i hc
  have hk : x.core.toNat < σ.cs.length := by omega
  split; · rfl
  split; · exact h.book_walk hk
  split; · exact h.book_ack _
  unfold Sc.evict
  split <;> rfl
theorem n_act (h : Safe σ P) (x : Stp) : (σ.act x).1.s.n = σ.s.n ∧ (σ.act x).1.cs.length = σ.cs.length := by
  have hch : (σ.change x).1.s.n = σ.s.n ∧ (σ.change x).1.cs.length = σ.cs.length := by
    cases hb : σ.busy with
    | true => have e : (σ.change x).1 = σ := by unfold Sc.change; rw [if_pos hb]
              rw [e]; exact ⟨rfl, rfl⟩
    | false =>
      obtain ⟨hg, _⟩ := h.quiet hb
      have hwf := h.wf
      rw [hg] at hwf
      unfold Sc.change
      rw [if_neg (by rw [hb]; simp)]
      split
      · exact ⟨(ins_ok hwf h.ok.s.inv h.ok.s.small x.m).2.2.1, rfl⟩
      split
      · split
        · rename_i hf; exact ⟨(rem_ok hwf h.ok.s.inv hf).2.2.1, rfl⟩
        · exact ⟨rfl, rfl⟩
      · split
        · rename_i hf; exact ⟨(pr_ok hwf h.ok.s.inv hf).2.2.1, rfl⟩
        · exact ⟨rfl, rfl⟩
  unfold Sc.act
  split; · exact hch
  split; · exact ⟨rfl, rfl⟩
  split; · exact ⟨rfl, rfl⟩
  rename_i hc
  have hk : x.core.toNat < σ.cs.length := by omega
  split; · exact ⟨rfl, Sc.put_len _ _ _⟩
  split
  · refine ⟨?_, Sc.put_len _ _ _⟩
    cases hon : (σ.core x.core.toNat).k.on with
    | false => unfold Sc.walk; rw [step_off hon]
    | true => exact (h.walk_stepIn hk hon).mark.n
  split
  · unfold Sc.ack
    split; · exact ⟨rfl, rfl⟩
    split
    · exact ⟨(giveL_use σ.gone σ.s h.ok.s.inv).2.1, List.length_set ..⟩
    · exact ⟨rfl, List.length_set ..⟩
  · unfold Sc.evict
    split
    · exact ⟨rfl, rfl⟩
    · exact ⟨rfl, Sc.put_len _ _ _⟩
/-- The first space. -/
theorem new {cores n : Nat} (h1 : 1 ≤ cores) (h4 : cores ≤ 4) (hn : 1 ≤ n) (hn2 : n ≤ 128) : Safe (Sc.new cores n) [] ∧ (Sc.new cores n).s.n = n ∧ (Sc.new cores n).cs.length = cores := by
  have hwf := first_wf hn
  have e := first_eq hn
  refine ⟨⟨⟨⟨?_, ?_⟩, fun c hc => ?_, ?_, ?_, fun _ _ => rfl, Sc.mp_ok_zero⟩, hwf, fun _ => ⟨rfl, fun _ => rfl⟩, fun hx => (by cases hx), fun k c hc => ?_, Bk.Ok.nil⟩, ?_, ?_⟩
  · exact (Ms.Ok.new hn2).takeS.inv
  · show ((Ms.new n).takeS).n ≤ 128
    rw [e]; exact hn2
  · rw [List.eq_of_mem_replicate hc]
    exact ⟨Tl.Ok.nil, Ck.Ok.zero⟩
  · show (List.replicate cores Cr.zero).length ≤ 4
    rw [List.length_replicate]; exact h4
  · show 1 ≤ (List.replicate cores Cr.zero).length
    rw [List.length_replicate]; exact h1
  · have hm := List.mem_of_getElem? hc
    rw [List.eq_of_mem_replicate hm]
    exact ⟨fun hx => (by cases hx), fun x hx => (by cases hx)⟩
  · show ((Ms.new n).takeS).n = n
    rw [e]
  · show (List.replicate cores Cr.zero).length = cores
    rw [List.length_replicate]
theorem book_new {cores n : Nat} (hn : 1 ≤ n) : allM (Sc.new cores n).s 0 = [] := Lk.all (first_wf hn) (first_lk hn)
/-- How many tables there are, how many go, and how many frames are free. -/
theorem counts (h : Safe σ P) : (allT σ.s 0).length + σ.gone.length + σ.s.frees.length = σ.s.n ∧ (allT σ.s 0).length = (seenL (allM σ.s 0)).length + 1 ∧ (allT σ.s 0).Nodup :=
  ⟨tabs_count h.wf h.ok.s.inv, needed_tabs h.wf h.lk, (list_link h.wf).2.2.1⟩
theorem way_zero (h : Safe σ P) (p : Int) : (way σ.s 0 p).code = 0 ∨ (way σ.s 0 p).code = 1 := by
  by_cases hp : InP p
  · exact .inl (wayE_map h.wf hp).1
  · exact .inr (find_out hp)
theorem find_few (h : Safe σ P) (p : Int) : findC σ.s 0 p = 0 ∨ findC σ.s 0 p = 1 ∨ findC σ.s 0 p = 5 := by
  unfold findC
  rcases h.way_zero p with e | e <;> rw [e]
  · rw [if_neg (by decide)]
    split
    · exact .inr (.inr rfl)
    · exact .inl rfl
  · rw [if_pos (by decide)]
    exact .inr (.inl rfl)
theorem change_few (h : Safe σ P) (x : Stp) : (σ.change x).2.code ≠ 12 ∧ (σ.change x).2.fin = false ∧ (σ.change x).2.an = An.zero := by
  unfold Sc.change
  split; · exact ⟨by show (8 : Int) ≠ 12; decide, rfl, rfl⟩
  split
  · refine ⟨?_, rfl, rfl⟩
    show insC σ.s 0 x.m ≠ 12
    unfold insC
    have hc := check_few x.m
    split; · omega
    split
    · rcases h.way_zero x.m.page with e | e <;> rw [e] <;> decide
    split; · decide
    split <;> decide
  split
  · split
    · exact ⟨by show (0 : Int) ≠ 12; decide, rfl, rfl⟩
    · refine ⟨?_, rfl, rfl⟩
      show findC σ.s 0 x.m.page ≠ 12
      rcases h.find_few x.m.page with e | e | e <;> rw [e] <;> decide
  · split
    · exact ⟨by show (0 : Int) ≠ 12; decide, rfl, rfl⟩
    · refine ⟨?_, rfl, rfl⟩
      show prC σ.s 0 x.m.page x.m.rights ≠ 12
      unfold prC
      split
      · decide
      · rcases h.find_few x.m.page with e | e | e <;> rw [e] <;> decide
end Safe
end Go.Proofs.Ytmfheghbgihdmaa
namespace Go.Proofs.Ytmfheghbgihdmaa
open Go.RowKit
set_option maxRecDepth 100000
def sp1 : Stp := ⟨1, 0, ⟨5, 0, 9, 1⟩, ⟨0, 0, false⟩⟩
def sp2 : Stp := ⟨2, 0, ⟨5, 0, 0, 0⟩, ⟨0, 0, false⟩⟩
def sp3 : Stp := ⟨6, 0, ⟨0, 0, 0, 0⟩, ⟨0, 0, false⟩⟩
def sq0 : Sc := Sc.new 1 4
def sq1 : Sc := (sq0.act sp1).1
def sq2 : Sc := (sq1.act sp2).1
def sq3 : Sc := (sq2.act sp3).1
theorem sq_free0 : sq0.s.frees.length = 3 := by kernel_rfl
theorem sq_free1 : sq1.s.frees.length = 0 := by kernel_rfl
theorem sq_free3 : sq3.s.frees.length = 3 := by kernel_rfl
theorem sq_list3 : (allM sq3.s 0) = [] := by kernel_rfl
theorem sq_e1 : (sq0.act sp1).2 = ⟨0, false, ⟨0, 0, 0⟩, true⟩ := by kernel_rfl
theorem sq_e2 : (sq1.act sp2).2 = ⟨0, false, ⟨0, 0, 0⟩, false⟩ := by kernel_rfl
theorem sq_e3 : (sq2.act sp3).2 = ⟨0, false, ⟨0, 0, 0⟩, true⟩ := by kernel_rfl
theorem sp_ok {x : Stp} (h : x = sp1 ∨ x = sp2 ∨ x = sp3) : x.ok := by
  rcases h with rfl | rfl | rfl <;> (unfold Stp.ok Mp.ok Ac.ok i64; decide)
theorem field_back (c a f r : Int) (fin bk : Bool) (X : World) : (Instr.field 39 (.agg #[(Value.int .i64) c, Value.bool fin, (Value.int .i64) a, (Value.int .i64) f, (Value.int .i64) r, Value.bool bk]) 3).run Try.prog X = .ok (Value.bool bk) X := by kernel_rfl
theorem greatSteps_any (A : Option Addr) (n c : Nat) (most : Int) (w : World) : Calls Try.prog 6 #[.slice A n c, (Value.int .i64) most] w (Same (Value.bool (decide (most < n))) w) := by
  by_cases hm : most < n
  · rw [decide_eq_true hm]
    go_enter Try.func6, Try.ntmps6
    go_wp2_with fail
    go_ret
    exact ⟨rfl, rfl⟩
  · rw [decide_eq_false hm]
    go_enter Try.func6, Try.ntmps6
    go_wp2_with fail
    go_ret
    exact ⟨rfl, rfl⟩
theorem Safe.calm {σ : Sc} {P : List Mp} (h : Safe σ P) (hb : σ.busy = false) : overB σ.wait = true := by
  have := (h.quiet hb).2
  unfold overB
  simp [this]
set_option maxHeartbeats 4000000 in
theorem spaceBegun_any (w : World) : Calls Try.prog 5 #[] w (Pure (Value.bool true) w) := by
  have N1 := Lib.hid (fun R w h => newS 1 4 (by omega) (by omega) (by omega) (by omega) R w h)
  have S0 := (Safe.new (cores := 1) (n := 4) (by omega) (by omega) (by omega) (by omega)).1
  have S1 := S0.act sp1
  have S2 := S1.act sp2
  have S3 := S2.act sp3
  have D1 := Lib.hid (fun b R w h => doS b sq0 sp1 S0.ok S0.calm (sp_ok (.inl rfl)) R w h)
  have D2 := Lib.hid (fun b R w h => doS b sq1 sp2 S1.ok S1.calm (sp_ok (.inr (.inl rfl))) R w h)
  have D3 := Lib.hid (fun b R w h => doS b sq2 sp3 S2.ok S2.calm (sp_ok (.inr (.inr rfl))) R w h)
  unfold Ev.val at D1 D2 D3
  rw [sq_e1] at D1
  rw [sq_e2] at D2
  rw [sq_e3] at D3
  have F0 := Lib.hid (fun b R w h => freeS (b := b) (σ := sq0) (R := R) (w := w) h)
  have F1 := Lib.hid (fun b R w h => freeS (b := b) (σ := sq1) (R := R) (w := w) h)
  have F3 := Lib.hid (fun b R w h => freeS (b := b) (σ := sq3) (R := R) (w := w) h)
  have L3 := Lib.hid (fun b R w h => listS (b := b) (σ := sq3) (R := R) (w := w) S3.wf h)
  rw [sq_free0] at F0
  rw [sq_free1] at F1
  rw [sq_free3] at F3
  rw [sq_list3] at L3
  rw [show Sc.new 1 4 = sq0 from rfl] at N1
  rw [show (sq0.act sp1).1 = sq1 from rfl] at D1
  rw [show (sq1.act sp2).1 = sq2 from rfl] at D2
  rw [show (sq2.act sp3).1 = sq3 from rfl] at D3
  unfold sp1 at D1
  unfold sp2 at D2
  unfold sp3 at D3
  dsimp only at D1 D2 D3 F0 F1 F3 L3 N1
  clear S0 S1 S2 S3
  generalize sq0 = s0 at *
  generalize sq1 = s1 at *
  generalize sq2 = s2 at *
  generalize sq3 = s3 at *
  have h0 := has_old w
  go_enter Try.func5, Try.ntmps5
  go_wp2_with fail
  refine (N1.out _ _ h0).mono ?_; rintro e w1 ⟨p, rfl, h1, x1⟩
  have h2 := h1.new #[(Value.int .i64) 0, (Value.int .i64) 0] 27
  have h3 : Has _ (spaceAt p s0 * (blk w1.heap.size #[(Value.int .i64) 0, (Value.int .i64) 0] 27 * old w w.heap.size)) := h2.eq (by ac_rfl)
  have x3 := x1.alloc (.cells #[(Value.int .i64) 0, (Value.int .i64) 0] 27)
  have c0 := h2.cell 0
  have cl := h2.lt
  clear h1 x1 h2 N1 h0
  go_wp2_with fail
  refine (F0.out _ _ _ h3).mono ?_; rintro e w4 ⟨rfl, rfl⟩
  clear F0
  go_wp2_with fail
  refine (D1.out _ _ _ h3).mono ?_; rintro e w4 ⟨rfl, h4, x4⟩
  have x5 := x3.trans x4
  clear D1 h3 x3 x4 c0 cl
  have hfl := fun X => field_back 0 0 0 0 false true X
  go_wp2_with fail
  refine (F1.out _ _ _ h4).mono ?_; rintro e w5 ⟨rfl, rfl⟩
  clear F1
  go_wp2_with fail
  refine (D2.out _ _ _ h4).mono ?_; rintro e w6 ⟨rfl, h6, x6⟩
  have h7 : Has _ (spaceAt p s2 * (blk w6.heap.size #[(Value.int .i64) 0, Value.bool false, (Value.int .i64) 0, (Value.int .i64) 0, (Value.int .i64) 0, Value.bool false] 39 * (blk w1.heap.size #[(Value.int .i64) 0, (Value.int .i64) 0] 27 * old w w.heap.size))) := (h6.new #[(Value.int .i64) 0, Value.bool false, (Value.int .i64) 0, (Value.int .i64) 0, (Value.int .i64) 0, Value.bool false] 39).eq (by ac_rfl)
  have x7 := (x5.trans x6).alloc (.cells #[(Value.int .i64) 0, Value.bool false, (Value.int .i64) 0, (Value.int .i64) 0, (Value.int .i64) 0, Value.bool false] 39)
  clear D2 h4 x5 h6 x6
  go_wp2_with fail
  refine (D3.out _ _ _ h7).mono ?_; rintro e w8 ⟨rfl, h8, x8⟩
  have h9 : Has _ (spaceAt p s3 * (blk w8.heap.size #[(Value.int .i64) 0, Value.bool false, (Value.int .i64) 0, (Value.int .i64) 0, (Value.int .i64) 0, Value.bool true] 39 * (blk w6.heap.size #[(Value.int .i64) 0, Value.bool false, (Value.int .i64) 0, (Value.int .i64) 0, (Value.int .i64) 0, Value.bool false] 39 * (blk w1.heap.size #[(Value.int .i64) 0, (Value.int .i64) 0] 27 * old w w.heap.size)))) := (h8.new #[(Value.int .i64) 0, Value.bool false, (Value.int .i64) 0, (Value.int .i64) 0, (Value.int .i64) 0, Value.bool true] 39).eq (by ac_rfl)
  have x9 := (x7.trans x8).alloc (.cells #[(Value.int .i64) 0, Value.bool false, (Value.int .i64) 0, (Value.int .i64) 0, (Value.int .i64) 0, Value.bool true] 39)
  obtain ⟨e0, e1, e2, e3, e4, e5⟩ := h9.right.cells6
  have el := h9.right.lt
  obtain ⟨d0, d1, d2, d3, d4, d5⟩ := h9.right.right.cells6
  have dl := h9.right.right.lt
  clear D3 h7 x7 h8 x8
  go_wp2_with fail
  refine (F3.out _ _ _ h9).mono ?_; rintro e w10 ⟨rfl, rfl⟩
  clear F3
  go_wp2_with fail
  refine (L3.out _ _ _ h9).mono ?_; rintro e w11 ⟨A, c, rfl, h11, x11⟩
  have xz := x9.trans x11
  clear L3 h9 x9
  go_wp2_with fail
  go_ret
  exact ⟨rfl, below_of1 h11.right.right.right.right.right xz⟩
end Go.Proofs.Ytmfheghbgihdmaa
namespace Go.Proofs.Ytmfheghbgihdmaa
open Go.RowKit
/-- The access that a step of the law is about. -/
def lawA (σ : Sc) (x : Stp) : Ac := if x.kind = 4 then x.a else σ.acc x.core
theorem MkAt.mark {s s' : Ms} {q : Int} (m : MkAt s q) (h : Marked s s' 0) : MkAt s' q :=
  ⟨m.inP, by rw [h.map _ m.inP]; exact m.map, h.used _ m.inP m.used, h.dirty _ m.inP m.dirty⟩
namespace Safe
variable {σ : Sc} {P : List Mp}
theorem mk_change (h : Safe σ P) (x : Stp) {q : Int} (m : MkAt σ.s q) (hno : x.kind = 2 → (σ.change x).2.code = 0 → over (findM σ.s 0 x.m.page) q = false) : MkAt (σ.change x).1.s q := by
  cases hb : σ.busy with
  | true =>
    have e1 : (σ.change x).1 = σ := by unfold Sc.change; rw [if_pos hb]
    rw [e1]; exact m
  | false =>
    have hwf := h.wf
    rw [(h.quiet hb).1] at hwf
    by_cases h1 : x.kind = 1
    · have e1 : (σ.change x).1 = { σ with s := insS σ.s 0 x.m } := by unfold Sc.change; rw [if_neg (by rw [hb]; simp), if_pos h1]
      rw [e1]
      exact m.way (((ins_ok hwf h.ok.s.inv h.ok.s.small x.m).2.2.2 _ m.inP).2.1 m.ne)
    by_cases h2 : x.kind = 2
    · by_cases hf : findC σ.s 0 x.m.page = 0
      · have e0 : σ.change x = (σ.post (remS σ.s 0 x.m.page) (findM σ.s 0 x.m.page) (remG σ.s 0 x.m.page), .no 0) := by unfold Sc.change; rw [if_neg (by rw [hb]; simp), if_neg h1, if_pos h2, if_pos hf]
        rw [e0] at hno ⊢
        obtain ⟨_, _, _, _, _, w6⟩ := rem_ok hwf h.ok.s.inv hf
        exact m.way ((w6 _ m.inP).2 (hno h2 rfl) m.ne)
      · have e0 : σ.change x = (σ, .no (findC σ.s 0 x.m.page)) := by unfold Sc.change; rw [if_neg (by rw [hb]; simp), if_neg h1, if_pos h2, if_neg hf]
        rw [e0]; exact m
    · by_cases hf : prC σ.s 0 x.m.page x.m.rights = 0
      · have e0 : σ.change x = (σ.post (prS σ.s 0 x.m.page x.m.rights) (prM σ.s 0 x.m.page x.m.rights) [], .no 0) := by unfold Sc.change; rw [if_neg (by rw [hb]; simp), if_neg h1, if_neg h2, if_pos hf]
        rw [e0]
        obtain ⟨_, _, _, _, _, w6⟩ := pr_ok hwf h.ok.s.inv hf
        by_cases ho : over (findM σ.s 0 x.m.page) q = true
        · obtain ⟨_, a2, a3⟩ := (w6 _ m.inP).1 ho
          exact ⟨m.inP, by show (mapAt (prS σ.s 0 x.m.page x.m.rights) 0 q).isSome = true; rw [a2]; rfl, by show (way (prS σ.s 0 x.m.page x.m.rights) 0 q).e.used = true; rw [a3]; exact m.used, by show (way (prS σ.s 0 x.m.page x.m.rights) 0 q).e.dirty = true; rw [a3]; exact m.dirty⟩
        · exact m.way ((w6 _ m.inP).2 (by simpa using ho))
      · have e0 : σ.change x = (σ, .no (prC σ.s 0 x.m.page x.m.rights)) := by unfold Sc.change; rw [if_neg (by rw [hb]; simp), if_neg h1, if_neg h2, if_neg hf]
        rw [e0]; exact m
theorem mk_act (h : Safe σ P) (x : Stp) {q : Int} (m : MkAt σ.s q) (hno : x.kind = 2 → (σ.act x).2.code = 0 → over (findM σ.s 0 x.m.page) q = false) : MkAt (σ.act x).1.s q := by
  unfold Sc.act at hno ⊢
  split
  · rename_i hx
    rw [if_pos hx] at hno
    exact h.mk_change x m hno
  split; · exact m
  split; · exact m
  rename_i hc
  have hk : x.core.toNat < σ.cs.length := by omega
  split; · exact m
  split
  · cases hon : (σ.core x.core.toNat).k.on with
    | false =>
      unfold Sc.walk
      rw [step_off hon]
      exact m
    | true => exact m.mark (h.walk_stepIn hk hon).mark
  split
  · unfold Sc.ack
    split; · exact m
    split
    · exact m.way (give_way h.wf h.ok.s.inv m.inP)
    · exact m
  unfold Sc.evict
  split <;> exact m
/-- What is found of a page of a line that is kept. -/
theorem kept_at {s : Ms} {g : List Int} {x : Ln} {q : Int} (hw : Wf s 0 g (fun _ => False)) (hk : Kept s 0 x) (ho : over x.m q = true) (hq : InP q) :
    (mapAt s 0 q).isSome = true ∧ (way s 0 q).e.used = true ∧ (x.dirty = true → (way s 0 q).e.dirty = true) := by
  have he := (entry_over hw hk.inP hq hk.map ho).1
  rw [Wf.overMap hw hk.inP hq hk.map ho hw, he]
  exact ⟨rfl, hk.used, hk.dirty⟩
theorem answer_done {m : Mp} {a : Ac} (h : (answer m a).fin = 0) : may m.rights a = true := by
  unfold answer at h
  split at h
  · assumption
  · cases h
theorem done_mk (h : Safe σ P) (x : Stp) (hf : (σ.act x).2.fin = true) (h0 : (σ.act x).2.an.fin = 0) (hb : (σ.act x).1.busy = false) :
    InP (lawA σ x).page ∧ (mapAt (σ.act x).1.s 0 (lawA σ x).page).isSome = true ∧ (way (σ.act x).1.s 0 (lawA σ x).page).e.used = true ∧ ((lawA σ x).kind = 1 → MkAt (σ.act x).1.s (lawA σ x).page) := by
  unfold lawA
  unfold Sc.act at hf h0 hb ⊢
  split at hf
  · rename_i hx
    rw [(h.change_few x).2.1] at hf
    cases hf
  rename_i h13
  rw [if_neg h13] at h0 hb ⊢
  split at hf; · cases hf
  rename_i h17
  rw [if_neg h17] at h0 hb ⊢
  split at hf; · cases hf
  rename_i hc
  rw [if_neg hc] at h0 hb ⊢
  have hk : x.core.toNat < σ.cs.length := by omega
  split at hf
  · rename_i h4
    rw [if_pos h4] at h0 hb ⊢
    rw [if_pos h4]
    have hb' : σ.busy = false := hb
    have hi := h.core _ _ (at_core hk)
    unfold Sc.access at hf h0 ⊢
    dsimp only at hf h0 ⊢
    show _ ∧ (mapAt σ.s 0 _).isSome = true ∧ (way σ.s 0 _).e.used = true ∧ (_ → MkAt σ.s _)
    unfold coreB at hf h0
    split at hf; · cases hf
    rename_i hca
    rw [if_neg hca] at h0
    split at hf; · cases hf
    rename_i hon
    rw [if_neg hon] at h0
    have hp := check_inP (a := x.a) (by omega)
    cases hh : hitA (σ.core x.core.toNat).l x.a with
    | none => rw [hh] at hf; cases hf
    | some r =>
      rw [hh] at h0
      unfold hitA at hh
      cases hfi : Tl.find (σ.core x.core.toNat).l x.a.page with
      | none => rw [hfi] at hh; cases hh
      | some y =>
        rw [hfi] at hh
        dsimp only at hh h0
        split at hh
        · rename_i hy
          injection hh with hh
          rw [← hh] at h0
          have hm := answer_done h0
          have hmem : y ∈ (σ.core x.core.toNat).l := List.mem_of_find?_eq_some hfi
          have hov : over y.m x.a.page = true := by simpa using List.find?_some hfi
          have hkp : Kept σ.s 0 y := by
            rcases hi.line y hmem with hl | hl
            · exact hl
            · rw [(h.quiet hb').2] at hl; cases hl.1
          obtain ⟨q1, q2, q3⟩ := kept_at h.wf hkp hov hp
          refine ⟨hp, q1, q2, fun h1 => ⟨hp, q1, q2, q3 ?_⟩⟩
          rcases hy with hy | hy | hy
          · exact hy
          · exact absurd h1 hy
          · rw [hm] at hy; cases hy
        · cases hh
  rename_i h4
  rw [if_neg h4] at h0 hb ⊢
  rw [if_neg h4]
  split at hf
  · rename_i h5
    rw [if_pos h5] at h0 hb ⊢
    cases hon : (σ.core x.core.toNat).k.on with
    | false =>
      unfold Sc.walk at hf
      rw [step_off hon] at hf
      cases hf
    | true =>
      have hs := h.walk_stepIn hk hon
      have hon' : σ.on x.core = true := by
        unfold Sc.on
        rw [decide_eq_true (by omega), decide_eq_true (by omega), hon]
        rfl
      have ea : σ.acc x.core = (σ.core x.core.toNat).k.a := by unfold Sc.acc; rw [if_pos hon']
      have hp := check_inP ((Sc.core_ok h.ok x.core.toNat).2.acc hon)
      rw [ea]
      rcases hs.fin with he | he
      · obtain ⟨k1, k2, k3⟩ := he.kept h0
        obtain ⟨q1, q2, q3⟩ := kept_at hs.wf k1 k2 hp
        exact ⟨hp, q1, q2, fun h1 => ⟨hp, q1, q2, q3 (k3 h1)⟩⟩
      · have : (stepC σ.s 0 (σ.core x.core.toNat).k).r.fin = true := hf
        rw [he.z] at this
        cases this
  rename_i h5
  split at hf
  · exfalso
    unfold Sc.ack at hf
    split at hf; · cases hf
    split at hf <;> cases hf
  · exfalso
    unfold Sc.evict at hf
    split at hf <;> cases hf
/-- An unmap that is told as done found a mapping. -/
theorem un_found (_ : Safe σ P) (x : Stp) (h2 : x.kind = 2) (h0 : (σ.act x).2.code = 0) : findC σ.s 0 x.m.page = 0 := by
  unfold Sc.act at h0
  rw [if_pos (by omega)] at h0
  unfold Sc.change at h0
  by_cases hb : σ.busy = true
  · rw [if_pos hb] at h0
    have : (8 : Int) = 0 := h0
    omega
  rw [if_neg hb, if_neg (by omega), if_pos h2] at h0
  by_cases hf : findC σ.s 0 x.m.page = 0
  · exact hf
  · rw [if_neg hf] at h0
    exact h0
/-- What is told of a page that is marked. -/
theorem mk_found (h : Safe σ P) {q : Int} (m : MkAt σ.s q) : findC σ.s 0 q = 0 ∧ (findE σ.s 0 q).dirty = true := by
  have hf := (h.wf.find m.inP).1
  rw [if_pos m.map] at hf
  unfold findE
  rw [if_pos hf]
  exact ⟨hf, m.dirty⟩
theorem at_found (h : Safe σ P) {q : Int} (hq : InP q) (hm : (mapAt σ.s 0 q).isSome = true) (hu : (way σ.s 0 q).e.used = true) : findC σ.s 0 q = 0 ∧ (findE σ.s 0 q).used = true := by
  have hf := (h.wf.find hq).1
  rw [if_pos hm] at hf
  unfold findE
  rw [if_pos hf]
  exact ⟨hf, hu⟩
end Safe
end Go.Proofs.Ytmfheghbgihdmaa
