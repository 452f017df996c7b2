/- What steps of a space come to, and what its book is behind them; plain law, with no program in sight. -/
import Derived.Test.YtegkimecdonfgaaTabK
import Derived.Test.YtegkimecdonfgaaSpcA
namespace Go.Proofs.Ytegkimecdonfgaa
open Go.RowKit
/-- A book behind a step that came to a code. -/
def bookN (L : List Mp) (x : Stp) (c : Int) : List Mp :=
  if c = 0 ∧ 1 ≤ x.kind ∧ x.kind ≤ 3 then (if x.kind = 1 then Bk.add L x.m else if x.kind = 2 then Bk.dropL L x.m.page else Bk.protL L x.m.page x.m.rights) else L
theorem bookN_not {L : List Mp} {x : Stp} {c : Int} (h : ¬ (1 ≤ x.kind ∧ x.kind ≤ 3)) : bookN L x c = L := by unfold bookN; rw [if_neg (fun hh => h hh.2)]
theorem bookN_bad {L : List Mp} {x : Stp} {c : Int} (h : c ≠ 0) : bookN L x c = L := by unfold bookN; rw [if_neg (fun hh => h hh.1)]
theorem Lk.all {s : Ms} {L : List Mp} {g : List Int} {X : Int → Prop} (hw : Wf s 0 g X) (h : Lk s 0 L) : allM s 0 = L := ((list_link hw).2.1).unique h
theorem Lk.same_maps {s s' : Ms} {L : List Mp} (h : Lk s 0 L) (hm : ∀ q, InP q → mapAt s' 0 q = mapAt s 0 q) : Lk s' 0 L := ⟨h.ok, fun q hq => (h.same q hq).trans (hm q hq).symm⟩
namespace Safe
variable {σ : Sc} {P : List Mp}
theorem book_walk (h : Safe σ P) {k : Nat} (hk : k < σ.cs.length) : allM (σ.walk k).1.s 0 = allM σ.s 0 := by
  cases hon : (σ.core k).k.on with
  | false =>
    unfold Sc.walk
    rw [step_off hon]
  | true =>
    have hs := h.walk_stepIn hk hon
    exact Lk.all hs.wf (h.lk.same_maps hs.mark.map)
theorem book_ack (h : Safe σ P) (k : Nat) : allM (σ.ack k).1.s 0 = allM σ.s 0 := by
  unfold Sc.ack
  split
  · rfl
  split
  · show allM (giveL σ.s σ.gone) 0 = _
    exact Lk.all (h.wf.give h.ok.s.inv) (h.lk.same_maps fun q hq => mapAt_way (give_way h.wf h.ok.s.inv hq))
  · rfl
theorem book_change (h : Safe σ P) (x : Stp) (hx : 1 ≤ x.kind ∧ x.kind ≤ 3) : allM (σ.change x).1.s 0 = bookN (allM σ.s 0) x (σ.change x).2.code := by
  cases hb : σ.busy with
  | true =>
    have e : σ.change x = (σ, .no 8) := by unfold Sc.change; rw [if_pos hb]
    rw [e, bookN_bad (by show (8 : Int) ≠ 0; decide)]
  | false =>
    obtain ⟨hg, _⟩ := h.quiet hb
    have hwf := h.wf
    rw [hg] at hwf
    by_cases h1 : x.kind = 1
    · have e : σ.change x = ({ σ with s := insS σ.s 0 x.m }, ⟨insC σ.s 0 x.m, false, An.zero, decide (insC σ.s 0 x.m = 0)⟩) := by unfold Sc.change; rw [if_neg (by rw [hb]; simp), if_pos h1]
      rw [e]
      show allM (insS σ.s 0 x.m) 0 = bookN _ x (insC σ.s 0 x.m)
      by_cases hc : insC σ.s 0 x.m = 0
      · have : bookN (allM σ.s 0) x (insC σ.s 0 x.m) = Bk.add (allM σ.s 0) x.m := by unfold bookN; rw [if_pos ⟨hc, hx⟩, if_pos h1]
        rw [this]
        exact Lk.all (ins_ok hwf h.ok.s.inv h.ok.s.small x.m).1 (lk_ins hwf h.ok.s.inv h.ok.s.small h.lk hc).1
      · rw [bookN_bad hc]
        have : insS σ.s 0 x.m = σ.s := by unfold insS; rw [if_neg hc]
        rw [this]
    by_cases h2 : x.kind = 2
    · by_cases hf : findC σ.s 0 x.m.page = 0
      · have e : σ.change x = (σ.post (remS σ.s 0 x.m.page) (findM σ.s 0 x.m.page) (remG σ.s 0 x.m.page), .no 0) := by unfold Sc.change; rw [if_neg (by rw [hb]; simp), if_neg h1, if_pos h2, if_pos hf]
        rw [e]
        show allM (remS σ.s 0 x.m.page) 0 = bookN _ x 0
        have : bookN (allM σ.s 0) x 0 = Bk.dropL (allM σ.s 0) x.m.page := by unfold bookN; rw [if_pos ⟨rfl, hx⟩, if_neg h1, if_pos h2]
        rw [this]
        exact Lk.all (rem_ok hwf h.ok.s.inv hf).1 (lk_rem hwf h.ok.s.inv h.lk hf)
      · have e : σ.change x = (σ, .no (findC σ.s 0 x.m.page)) := by unfold Sc.change; rw [if_neg (by rw [hb]; simp), if_neg h1, if_pos h2, if_neg hf]
        rw [e]
        exact (bookN_bad hf).symm
    · have h3 : x.kind = 3 := by omega
      by_cases hf : prC σ.s 0 x.m.page x.m.rights = 0
      · have e : σ.change x = (σ.post (prS σ.s 0 x.m.page x.m.rights) (prM σ.s 0 x.m.page x.m.rights) [], .no 0) := by unfold Sc.change; rw [if_neg (by rw [hb]; simp), if_neg h1, if_neg h2, if_pos hf]
        rw [e]
        show allM (prS σ.s 0 x.m.page x.m.rights) 0 = bookN _ x 0
        have : bookN (allM σ.s 0) x 0 = Bk.protL (allM σ.s 0) x.m.page x.m.rights := by unfold bookN; rw [if_pos ⟨rfl, hx⟩, if_neg h1, if_neg h2]
        rw [this]
        exact Lk.all (pr_ok hwf h.ok.s.inv hf).1 (lk_pr hwf h.ok.s.inv h.lk hf)
      · have e : σ.change x = (σ, .no (prC σ.s 0 x.m.page x.m.rights)) := by unfold Sc.change; rw [if_neg (by rw [hb]; simp), if_neg h1, if_neg h2, if_neg hf]
        rw [e]
        exact (bookN_bad hf).symm
/-- What is mapped behind a step. -/
theorem book_act (h : Safe σ P) (x : Stp) : allM (σ.act x).1.s 0 = bookN (allM σ.s 0) x (σ.act x).2.code := by
  unfold Sc.act
  split
  · rename_i hx; exact h.book_change x hx
  rename_i hx
  rw [bookN_not hx]
  split; · rfl
  split; · rfl
  rename_i hc
  have hk : x.core.toNat < σ.cs.length := by omega
  split; · rfl
  split; · exact h.book_walk hk
  split; · exact h.book_ack _
  unfold Sc.evict
  split <;> rfl
theorem n_act (h : Safe σ P) (x : Stp) : (σ.act x).1.s.n = σ.s.n ∧ (σ.act x).1.cs.length = σ.cs.length := by
  have hch : (σ.change x).1.s.n = σ.s.n ∧ (σ.change x).1.cs.length = σ.cs.length := by
    cases hb : σ.busy with
    | true => have e : (σ.change x).1 = σ := by unfold Sc.change; rw [if_pos hb]
              rw [e]; exact ⟨rfl, rfl⟩
    | false =>
      obtain ⟨hg, _⟩ := h.quiet hb
      have hwf := h.wf
      rw [hg] at hwf
      unfold Sc.change
      rw [if_neg (by rw [hb]; simp)]
      split
      · exact ⟨(ins_ok hwf h.ok.s.inv h.ok.s.small x.m).2.2.1, rfl⟩
      split
      · split
        · rename_i hf; exact ⟨(rem_ok hwf h.ok.s.inv hf).2.2.1, rfl⟩
        · exact ⟨rfl, rfl⟩
      · split
        · rename_i hf; exact ⟨(pr_ok hwf h.ok.s.inv hf).2.2.1, rfl⟩
        · exact ⟨rfl, rfl⟩
  unfold Sc.act
  split; · exact hch
  split; · exact ⟨rfl, rfl⟩
  split; · exact ⟨rfl, rfl⟩
  rename_i hc
  have hk : x.core.toNat < σ.cs.length := by omega
  split; · exact ⟨rfl, Sc.put_len _ _ _⟩
  split
  · refine ⟨?_, Sc.put_len _ _ _⟩
    cases hon : (σ.core x.core.toNat).k.on with
    | false => unfold Sc.walk; rw [step_off hon]
    | true => exact (h.walk_stepIn hk hon).mark.n
  split
  · unfold Sc.ack
    split; · exact ⟨rfl, rfl⟩
    split
    · exact ⟨(giveL_use σ.gone σ.s h.ok.s.inv).2.1, List.length_set ..⟩
    · exact ⟨rfl, List.length_set ..⟩
  · unfold Sc.evict
    split
    · exact ⟨rfl, rfl⟩
    · exact ⟨rfl, Sc.put_len _ _ _⟩
/-- The first space. -/
theorem new {cores n : Nat} (h1 : 1 ≤ cores) (h4 : cores ≤ 4) (hn : 1 ≤ n) (hn2 : n ≤ 128) : Safe (Sc.new cores n) [] ∧ (Sc.new cores n).s.n = n ∧ (Sc.new cores n).cs.length = cores := by
  have hwf := first_wf hn
  have e := first_eq hn
  refine ⟨⟨⟨⟨?_, ?_⟩, fun c hc => ?_, ?_, ?_, fun _ _ => rfl, Sc.mp_ok_zero⟩, hwf, fun _ => ⟨rfl, fun _ => rfl⟩, fun hx => (by cases hx), fun k c hc => ?_, Bk.Ok.nil⟩, ?_, ?_⟩
  · exact (Ms.Ok.new hn2).takeS.inv
  · show ((Ms.new n).takeS).n ≤ 128
    rw [e]; exact hn2
  · rw [List.eq_of_mem_replicate hc]
    exact ⟨Tl.Ok.nil, Ck.Ok.zero⟩
  · show (List.replicate cores Cr.zero).length ≤ 4
    rw [List.length_replicate]; exact h4
  · show 1 ≤ (List.replicate cores Cr.zero).length
    rw [List.length_replicate]; exact h1
  · have hm := List.mem_of_getElem? hc
    rw [List.eq_of_mem_replicate hm]
    exact ⟨fun hx => (by cases hx), fun x hx => (by cases hx)⟩
  · show ((Ms.new n).takeS).n = n
    rw [e]
  · show (List.replicate cores Cr.zero).length = cores
    rw [List.length_replicate]
/-- How many tables there are, how many go, and how many frames are free. -/
theorem counts (h : Safe σ P) : (allT σ.s 0).length + σ.gone.length + σ.s.frees.length = σ.s.n ∧ (allT σ.s 0).length = (seenL (allM σ.s 0)).length + 1 ∧ (allT σ.s 0).Nodup :=
  ⟨tabs_count h.wf h.ok.s.inv, needed_tabs h.wf h.lk, (list_link h.wf).2.2.1⟩
theorem way_zero (h : Safe σ P) (p : Int) : (way σ.s 0 p).code = 0 ∨ (way σ.s 0 p).code = 1 := by
  by_cases hp : InP p
  · exact .inl (wayE_map h.wf hp).1
  · exact .inr (find_out hp)
theorem find_few (h : Safe σ P) (p : Int) : findC σ.s 0 p = 0 ∨ findC σ.s 0 p = 1 ∨ findC σ.s 0 p = 5 := by
  unfold findC
  rcases h.way_zero p with e | e <;> rw [e]
  · rw [if_neg (by decide)]
    split
    · exact .inr (.inr rfl)
    · exact .inl rfl
  · rw [if_pos (by decide)]
    exact .inr (.inl rfl)
theorem change_few (h : Safe σ P) (x : Stp) : (σ.change x).2.code ≠ 12 ∧ (σ.change x).2.fin = false ∧ (σ.change x).2.an = An.zero := by
  unfold Sc.change
  split; · exact ⟨by show (8 : Int) ≠ 12; decide, rfl, rfl⟩
  split
  · refine ⟨?_, rfl, rfl⟩
    show insC σ.s 0 x.m ≠ 12
    unfold insC
    have hc := check_few x.m
    split; · omega
    split
    · rcases h.way_zero x.m.page with e | e <;> rw [e] <;> decide
    split; · decide
    split <;> decide
  split
  · split
    · exact ⟨by show (0 : Int) ≠ 12; decide, rfl, rfl⟩
    · refine ⟨?_, rfl, rfl⟩
      show findC σ.s 0 x.m.page ≠ 12
      rcases h.find_few x.m.page with e | e | e <;> rw [e] <;> decide
  · split
    · exact ⟨by show (0 : Int) ≠ 12; decide, rfl, rfl⟩
    · refine ⟨?_, rfl, rfl⟩
      show prC σ.s 0 x.m.page x.m.rights ≠ 12
      unfold prC
      split
      · decide
      · rcases h.find_few x.m.page with e | e | e <;> rw [e] <;> decide
theorem access_few (a : Ac) (k : Nat) : (σ.access k a).2.code = checkAccess a ∨ (σ.access k a).2.code = 8 ∨ (σ.access k a).2.code = 0 := by
  show (coreB _ 0 _ a).code = _ ∨ (coreB _ 0 _ a).code = _ ∨ (coreB _ 0 _ a).code = _
  unfold coreB
  split; · exact .inl rfl
  split; · exact .inr (.inl rfl)
  split <;> exact .inr (.inr rfl)
theorem checkAccess_few (a : Ac) : checkAccess a = 0 ∨ checkAccess a = 1 ∨ checkAccess a = 2 := by unfold checkAccess; split <;> (try split) <;> omega
theorem walk_few (h : Safe σ P) {k : Nat} (hk : k < σ.cs.length) : (σ.walk k).2.code = if (σ.core k).k.on = true then 0 else 9 := by
  show (stepC σ.s 0 (σ.core k).k).code = _
  cases hon : (σ.core k).k.on with
  | false => rw [step_off hon]; rfl
  | true => exact (h.walk_stepIn hk hon).code
/-- No walk meets a table that is not in use, nor a word that is none. -/
theorem no_fault (h : Safe σ P) (x : Stp) : (σ.act x).2.code ≠ 12 ∧ (x.kind = 5 → (σ.act x).2.code = 0 ∨ (σ.act x).2.code = 9 ∨ (σ.act x).2.code = 1) := by
  unfold Sc.act
  split
  · exact ⟨(h.change_few x).1, fun hh => by omega⟩
  split
  · exact ⟨by show (2 : Int) ≠ 12; decide, fun hh => by omega⟩
  split
  · exact ⟨by show (1 : Int) ≠ 12; decide, fun _ => .inr (.inr rfl)⟩
  rename_i hc
  have hk : x.core.toNat < σ.cs.length := by omega
  split
  · refine ⟨?_, fun hh => by omega⟩
    rcases access_few (σ := σ) x.a x.core.toNat with e | e | e
    · rw [e]
      rcases checkAccess_few x.a with e | e | e <;> rw [e] <;> decide
    · rw [e]; decide
    · rw [e]; decide
  split
  · rw [h.walk_few hk]
    split
    · exact ⟨by decide, fun _ => .inl rfl⟩
    · exact ⟨by decide, fun _ => .inr (.inl rfl)⟩
  split
  · refine ⟨?_, fun hh => by omega⟩
    unfold Sc.ack
    split
    · show (9 : Int) ≠ 12; decide
    · split
      · show (0 : Int) ≠ 12; decide
      · show (0 : Int) ≠ 12; decide
  · refine ⟨?_, fun hh => by omega⟩
    unfold Sc.evict
    split
    · show (9 : Int) ≠ 12; decide
    · show (0 : Int) ≠ 12; decide
end Safe
end Go.Proofs.Ytegkimecdonfgaa
namespace Go.Proofs.Ytegkimecdonfgaa
open Go.RowKit
set_option maxRecDepth 100000
def sp1 : Stp := ⟨1, 0, ⟨5, 0, 9, 1⟩, ⟨0, 0, false⟩⟩
def sp2 : Stp := ⟨2, 0, ⟨5, 0, 0, 0⟩, ⟨0, 0, false⟩⟩
def sp3 : Stp := ⟨6, 0, ⟨0, 0, 0, 0⟩, ⟨0, 0, false⟩⟩
def sq0 : Sc := Sc.new 1 4
def sq1 : Sc := (sq0.act sp1).1
def sq2 : Sc := (sq1.act sp2).1
def sq3 : Sc := (sq2.act sp3).1
theorem sq_free0 : sq0.s.frees.length = 3 := by kernel_rfl
theorem sq_free1 : sq1.s.frees.length = 0 := by kernel_rfl
theorem sq_free3 : sq3.s.frees.length = 3 := by kernel_rfl
theorem sq_list3 : (allM sq3.s 0) = [] := by kernel_rfl
theorem sq_e1 : (sq0.act sp1).2 = ⟨0, false, ⟨0, 0, 0⟩, true⟩ := by kernel_rfl
theorem sq_e2 : (sq1.act sp2).2 = ⟨0, false, ⟨0, 0, 0⟩, false⟩ := by kernel_rfl
theorem sq_e3 : (sq2.act sp3).2 = ⟨0, false, ⟨0, 0, 0⟩, true⟩ := by kernel_rfl
theorem sp_ok {x : Stp} (h : x = sp1 ∨ x = sp2 ∨ x = sp3) : x.ok := by
  rcases h with rfl | rfl | rfl <;> (unfold Stp.ok Mp.ok Ac.ok i64; decide)
theorem field_back (c a f r : Int) (fin bk : Bool) (X : World) : (Instr.field 89 (.agg #[(Value.int .i64) c, Value.bool fin, (Value.int .i64) a, (Value.int .i64) f, (Value.int .i64) r, Value.bool bk]) 3).run Try.prog X = .ok (Value.bool bk) X := by kernel_rfl
theorem greatSteps_any (A : Option Addr) (n c : Nat) (most : Int) (w : World) : Calls Try.prog 45 #[.slice A n c, (Value.int .i64) most] w (Same (Value.bool (decide (most < n))) w) := by
  by_cases hm : most < n
  · rw [decide_eq_true hm]
    go_enter Try.func45, Try.ntmps45
    go_wp2_with fail
    go_ret
    exact ⟨rfl, rfl⟩
  · rw [decide_eq_false hm]
    go_enter Try.func45, Try.ntmps45
    go_wp2_with fail
    go_ret
    exact ⟨rfl, rfl⟩
theorem Safe.calm {σ : Sc} {P : List Mp} (h : Safe σ P) (hb : σ.busy = false) : overB σ.wait = true := by
  have := (h.quiet hb).2
  unfold overB
  simp [this]
set_option maxHeartbeats 4000000 in
theorem spaceBegun_any (w : World) : Calls Try.prog 44 #[] w (Pure (Value.bool true) w) := by
  have N1 := Lib.hid (fun R w h => newS 1 4 (by omega) (by omega) (by omega) (by omega) R w h)
  have S0 := (Safe.new (cores := 1) (n := 4) (by omega) (by omega) (by omega) (by omega)).1
  have S1 := S0.act sp1
  have S2 := S1.act sp2
  have S3 := S2.act sp3
  have D1 := Lib.hid (fun b R w h => doS b sq0 sp1 S0.ok S0.calm (sp_ok (.inl rfl)) R w h)
  have D2 := Lib.hid (fun b R w h => doS b sq1 sp2 S1.ok S1.calm (sp_ok (.inr (.inl rfl))) R w h)
  have D3 := Lib.hid (fun b R w h => doS b sq2 sp3 S2.ok S2.calm (sp_ok (.inr (.inr rfl))) R w h)
  unfold Ev.val at D1 D2 D3
  rw [sq_e1] at D1
  rw [sq_e2] at D2
  rw [sq_e3] at D3
  have F0 := Lib.hid (fun b R w h => freeS (b := b) (σ := sq0) (R := R) (w := w) h)
  have F1 := Lib.hid (fun b R w h => freeS (b := b) (σ := sq1) (R := R) (w := w) h)
  have F3 := Lib.hid (fun b R w h => freeS (b := b) (σ := sq3) (R := R) (w := w) h)
  have L3 := Lib.hid (fun b R w h => listS (b := b) (σ := sq3) (R := R) (w := w) S3.wf h)
  rw [sq_free0] at F0
  rw [sq_free1] at F1
  rw [sq_free3] at F3
  rw [sq_list3] at L3
  rw [show Sc.new 1 4 = sq0 from rfl] at N1
  rw [show (sq0.act sp1).1 = sq1 from rfl] at D1
  rw [show (sq1.act sp2).1 = sq2 from rfl] at D2
  rw [show (sq2.act sp3).1 = sq3 from rfl] at D3
  unfold sp1 at D1
  unfold sp2 at D2
  unfold sp3 at D3
  dsimp only at D1 D2 D3 F0 F1 F3 L3 N1
  clear S0 S1 S2 S3
  generalize sq0 = s0 at *
  generalize sq1 = s1 at *
  generalize sq2 = s2 at *
  generalize sq3 = s3 at *
  have h0 := has_old w
  go_enter Try.func44, Try.ntmps44
  go_wp2_with fail
  refine (N1.out _ _ h0).mono ?_; rintro e w1 ⟨p, rfl, h1, x1⟩
  have h2 := h1.new #[(Value.int .i64) 0, (Value.int .i64) 0] 83
  have h3 : Has _ (spaceAt p s0 * (blk w1.heap.size #[(Value.int .i64) 0, (Value.int .i64) 0] 83 * old w w.heap.size)) := h2.eq (by ac_rfl)
  have x3 := x1.alloc (.cells #[(Value.int .i64) 0, (Value.int .i64) 0] 83)
  have c0 := h2.cell 0
  have cl := h2.lt
  clear h1 x1 h2 N1 h0
  go_wp2_with fail
  refine (F0.out _ _ _ h3).mono ?_; rintro e w4 ⟨rfl, rfl⟩
  clear F0
  go_wp2_with fail
  refine (D1.out _ _ _ h3).mono ?_; rintro e w4 ⟨rfl, h4, x4⟩
  have x5 := x3.trans x4
  clear D1 h3 x3 x4 c0 cl
  have hfl := fun X => field_back 0 0 0 0 false true X
  go_wp2_with fail
  refine (F1.out _ _ _ h4).mono ?_; rintro e w5 ⟨rfl, rfl⟩
  clear F1
  go_wp2_with fail
  refine (D2.out _ _ _ h4).mono ?_; rintro e w6 ⟨rfl, h6, x6⟩
  have h7 : Has _ (spaceAt p s2 * (blk w6.heap.size #[(Value.int .i64) 0, Value.bool false, (Value.int .i64) 0, (Value.int .i64) 0, (Value.int .i64) 0, Value.bool false] 89 * (blk w1.heap.size #[(Value.int .i64) 0, (Value.int .i64) 0] 83 * old w w.heap.size))) := (h6.new #[(Value.int .i64) 0, Value.bool false, (Value.int .i64) 0, (Value.int .i64) 0, (Value.int .i64) 0, Value.bool false] 89).eq (by ac_rfl)
  have x7 := (x5.trans x6).alloc (.cells #[(Value.int .i64) 0, Value.bool false, (Value.int .i64) 0, (Value.int .i64) 0, (Value.int .i64) 0, Value.bool false] 89)
  clear D2 h4 x5 h6 x6
  go_wp2_with fail
  refine (D3.out _ _ _ h7).mono ?_; rintro e w8 ⟨rfl, h8, x8⟩
  have h9 : Has _ (spaceAt p s3 * (blk w8.heap.size #[(Value.int .i64) 0, Value.bool false, (Value.int .i64) 0, (Value.int .i64) 0, (Value.int .i64) 0, Value.bool true] 89 * (blk w6.heap.size #[(Value.int .i64) 0, Value.bool false, (Value.int .i64) 0, (Value.int .i64) 0, (Value.int .i64) 0, Value.bool false] 89 * (blk w1.heap.size #[(Value.int .i64) 0, (Value.int .i64) 0] 83 * old w w.heap.size)))) := (h8.new #[(Value.int .i64) 0, Value.bool false, (Value.int .i64) 0, (Value.int .i64) 0, (Value.int .i64) 0, Value.bool true] 89).eq (by ac_rfl)
  have x9 := (x7.trans x8).alloc (.cells #[(Value.int .i64) 0, Value.bool false, (Value.int .i64) 0, (Value.int .i64) 0, (Value.int .i64) 0, Value.bool true] 89)
  obtain ⟨e0, e1, e2, e3, e4, e5⟩ := h9.right.cells6
  have el := h9.right.lt
  obtain ⟨d0, d1, d2, d3, d4, d5⟩ := h9.right.right.cells6
  have dl := h9.right.right.lt
  clear D3 h7 x7 h8 x8
  go_wp2_with fail
  refine (F3.out _ _ _ h9).mono ?_; rintro e w10 ⟨rfl, rfl⟩
  clear F3
  go_wp2_with fail
  refine (L3.out _ _ _ h9).mono ?_; rintro e w11 ⟨A, c, rfl, h11, x11⟩
  have xz := x9.trans x11
  clear L3 h9 x9
  go_wp2_with fail
  go_ret
  exact ⟨rfl, below_of1 h11.right.right.right.right.right xz⟩
end Go.Proofs.Ytegkimecdonfgaa
