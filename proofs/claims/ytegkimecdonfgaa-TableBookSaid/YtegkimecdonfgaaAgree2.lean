/- What is told of memories that differ in frames that are not in use alone: through Insert, Remove, Protect. Plain law. -/
import Derived.Test.YtegkimecdonfgaaRows2
import Derived.Test.YtegkimecdonfgaaWkFind
import Derived.RangeFuncNested
import Derived.RangeFuncBound
import Derived.RangeFuncCalls
import Derived.RangeFuncLeaves
import Derived.Shelf.Abstract
import Derived.Shelf.RegionOpen
import Derived.WalkKit
import Derived.OwnWalkIn
import Derived.TacticsInMore
import Derived.LoopNIn
import Derived.LoopIn
import Derived.Test.YtegkimecdonfgaaAgree
import Derived.Test.YtegkimecdonfgaaEntry2
import Derived.Deep.RegionHeld3
import Derived.BigQuiet
import Derived.Lib.SliceRun
import Derived.Outline
namespace Go.Proofs.Ytegkimecdonfgaa
open Go.RowKit
theorem Agree.takeS {s s' : Ms} (h : Agree s s') : Agree s.takeS s'.takeS := by
  have ht := h.top
  cases hk : s.top with
  | none =>
    have e1 : s.takeS = s := by unfold Ms.takeS; rw [hk]
    have e2 : s'.takeS = s' := by unfold Ms.takeS; rw [← ht, hk]
    rw [e1, e2]; exact h
  | some k =>
    have hk' : s'.top = some k := by rw [← ht]; exact hk
    have e1 : s.takeS = s.take k := by unfold Ms.takeS; rw [hk]
    have e2 : s'.takeS = s'.take k := by unfold Ms.takeS; rw [hk']
    have f1 := takeS_frees hk
    have f2 := takeS_frees hk'
    rw [h.fr] at f1
    rw [e1] at f1 ⊢
    rw [e2] at f2 ⊢
    refine ⟨h.n, fun j => ?_, List.append_cancel_right (f1.trans f2.symm), fun j i hj => ?_⟩
    · show fput s.tk k true j = fput s'.tk k true j
      unfold fput
      rw [h.tk]
    · show (if j = k then (0 : Int) else s.wd j i) = (if j = k then (0 : Int) else s'.wd j i)
      by_cases e : j = k
      · rw [if_pos e, if_pos e]
      · rw [if_neg e, if_neg e]
        have hj : fput s.tk k true j = true := hj
        rw [fput_ne _ _ e] at hj
        exact h.wd j i hj
theorem Agree.takeN {s s' : Ms} (h : Agree s s') : ∀ m, Agree (takeN s m) (takeN s' m)
  | 0 => h
  | m + 1 => (Agree.takeN h m).takeS
theorem Agree.chain {p lw : Int} {sz : Nat} : ∀ (m : Nat) (s s' : Ms) (t : Int), Agree s s' → Agree (chain s p lw sz m t) (chain s' p lw sz m t)
  | 0, _, _, _, h => h.setW _ _ _
  | m + 1, s, s', t, h => by
    have ht := h.top
    unfold Go.Proofs.Ytegkimecdonfgaa.chain
    rw [← ht]
    cases hk : s.top with
    | none => exact h
    | some k =>
      have hk' : s'.top = some k := by rw [← ht]; exact hk
      have e1 : s.takeS = s.take k := by unfold Ms.takeS; rw [hk]
      have e2 : s'.takeS = s'.take k := by unfold Ms.takeS; rw [hk']
      have h2 := h.takeS
      rw [e1, e2] at h2
      exact Agree.chain m _ _ _ (h2.setW _ _ _)
section
variable {s s' : Ms}
theorem Agree.insS (h : Agree s s') (r : Int) (x : Mp) : Agree (insS s r x) (insS s' r x) := by
  unfold Go.Proofs.Ytegkimecdonfgaa.insS
  rw [← h.insC r x, ← h.way r x.page]
  split
  · exact Agree.chain _ _ _ _ h
  · exact h
theorem Agree.allZ (h : Agree s s') {t : Int} (ht : s.has t = true) : allZ s t = allZ s' t := by
  have e : ∀ i : Nat, wordV s t i = wordV s' t i := fun i => h.word ht i
  unfold Go.Proofs.Ytegkimecdonfgaa.allZ
  simp only [e]
theorem Agree.cutR {p : Int} {tabs : List Int} : ∀ (k : Nat) (s s' : Ms), Agree s s' → (∀ j, j ≤ k → s.has (tabs.getD j 0) = true) → Agree (cutR p tabs k s).1 (cutR p tabs k s').1 ∧ (cutR p tabs k s).2 = (cutR p tabs k s').2
  | 0, _, _, h, _ => ⟨h.setW _ _ _, rfl⟩
  | k + 1, s, s', h, hu => by
    have h1 : Agree (s.setW (tabs.getD (k + 1) 0).toNat (index p (3 - (k + 1) : Nat)).toNat 0) (s'.setW (tabs.getD (k + 1) 0).toNat (index p (3 - (k + 1) : Nat)).toNat 0) := h.setW _ _ _
    have hz := h1.allZ (t := tabs.getD (k + 1) 0) (hu _ (Nat.le_refl _))
    obtain ⟨i1, i2⟩ := Agree.cutR (p := p) (tabs := tabs) k _ _ h1 (fun j hj => hu j (by omega))
    unfold Go.Proofs.Ytegkimecdonfgaa.cutR
    rw [← hz]
    split
    · exact ⟨i1, by rw [i2]⟩
    · exact ⟨h1, rfl⟩
theorem Agree.rem (h : Agree s s') (r p : Int) : Agree (remS s r p) (remS s' r p) ∧ remG s r p = remG s' r p := by
  unfold remS remG
  rw [← h.findC r p, ← h.way r p]
  by_cases hf : Go.Proofs.Ytegkimecdonfgaa.findC s r p = 0
  · rw [if_pos hf, if_pos hf, if_pos hf, if_pos hf]
    have hcode : (Go.Proofs.Ytegkimecdonfgaa.way s r p).code = 0 := by
      unfold Go.Proofs.Ytegkimecdonfgaa.findC at hf
      split at hf
      · rename_i hn; exact absurd hf hn
      · rename_i hn; simpa using hn
    obtain ⟨_, n, hn, _, _, hu⟩ := way_tabs hcode
    rw [hn, Nat.add_sub_cancel]
    refine Agree.cutR n s s' h fun j hj => ?_
    rw [List.getD_eq_getElem?_getD, List.getElem?_eq_getElem (by omega)]
    exact hu _ (List.getElem_mem _)
  · rw [if_neg hf, if_neg hf, if_neg hf, if_neg hf]
    exact ⟨h, rfl⟩
theorem Agree.pr (h : Agree s s') (r p ri : Int) : Agree (prS s r p ri) (prS s' r p ri) ∧ prC s r p ri = prC s' r p ri ∧ prM s r p ri = prM s' r p ri := by
  have hc : prC s r p ri = prC s' r p ri := by unfold prC; rw [h.findC]
  refine ⟨?_, hc, ?_⟩
  · unfold prS
    rw [← hc, ← h.way r p]
    split
    · exact h.setW _ _ _
    · exact h
  · unfold prM
    rw [← hc, ← h.findM r p]
end
/-- Removing keeps the law of a memory. -/
theorem cutR_ok2 {p : Int} {tabs : List Int} : ∀ (k : Nat) {s : Ms}, s.Ok → (cutR p tabs k s).1.Ok
  | 0, _, h => h.setW _ _ ⟨by omega, by omega⟩
  | k + 1, _, h => by
    unfold Go.Proofs.Ytegkimecdonfgaa.cutR
    split
    · exact cutR_ok2 k (h.setW _ _ ⟨by omega, by omega⟩)
    · exact h.setW _ _ ⟨by omega, by omega⟩
theorem remS_ok {s : Ms} (h : s.Ok) (r p : Int) : (remS s r p).Ok := by
  unfold remS
  split
  · exact cutR_ok2 _ h
  · exact h
theorem prS_ok {s : Ms} (h : s.Ok) (r p ri : Int) : (prS s r p ri).Ok := by
  unfold prS
  split
  · exact h.setW _ _ (encW_u64 _ _)
  · exact h
end Go.Proofs.Ytegkimecdonfgaa
namespace Go.Proofs.Ytegkimecdonfgaa
open Go.RowKit Go.Shelf
set_option maxRecDepth 100000
attribute [local go_sem] Oper.semAt_some
/-- What has come when k rounds are over, of a row from its end. -/
def backL (m : List Int) (k : Nat) : List (Int × Int) := (List.range k).map fun (j : Nat) => (((m.length : Int) - 1 - (j : Int)), m[m.length - 1 - j]?.getD 0)
theorem backL_succ (m : List Int) (k : Nat) : backL m (k + 1) = backL m k ++ [(((m.length : Int) - 1 - k), m[m.length - 1 - k]?.getD 0)] := by simp [backL, List.range_succ]
theorem backL_len (m : List Int) (k : Nat) : (backL m k).length = k := by simp [backL]
theorem backL_all (m : List Int) : (backL m m.length).map Prod.snd = m.reverse := by
  unfold backL
  rw [List.map_map]
  apply List.ext_getElem
  · simp
  · intro i h1 h2
    simp at h1 h2 ⊢
    rw [List.getElem?_eq_getElem (by omega)]
    rfl
/-- What the body must keep. -/
structure KpT (T : Nat → Prop) (A B : World) : Prop where
  same : ∀ b, T b → B.heap[b]? = A.heap[b]?
theorem KpT.refl (T : Nat → Prop) (A : World) : KpT T A A := ⟨fun _ _ => rfl⟩
theorem KpT.trans {T : Nat → Prop} {A B C : World} (h : KpT T A B) (k : KpT T B C) : KpT T A C := ⟨fun b hb => (k.same b hb).trans (h.same b hb)⟩
theorem KpT.cell {T : Nat → Prop} {A B : World} (h : KpT T A B) {b o : Nat} (hb : T b) : B.cell? ⟨b, o, none⟩ = A.cell? ⟨b, o, none⟩ := by
  have := h.same b hb
  unfold World.cell?
  simp only [this]
set_option maxHeartbeats 2000000 in
theorem back1 (n : Nat) (hn : 1 ≤ n) (l Bs c : Nat) (A : Option Addr) (m : List Int) (hm : m.length ≤ 9223372036854775807) (T : Nat → Prop) (hT : T Bs) (J Jx : List (Int × Int) → World → Prop)
    (hY : ∀ pre x W, J pre W → pre.length < m.length → YieldAt Fence.wide (n - 1) Try.prog l #[(Value.int .i64) x.1, (Value.int .i64) x.2] W fun e W' =>
      (e = .returned (.bool true) ∧ J (pre ++ [x]) W' ∧ KpT T W W') ∨ (e = .returned (.bool false) ∧ Jx (pre ++ [x]) W'))
    (W : World) (hBs : W.cell? ⟨Bs, 0, none⟩ = some (.slice A m.length c)) (hc : ∀ j, (hj : j < m.length) → ∃ b, A = some ⟨b, 0, none⟩ ∧ T b ∧ W.cell? ⟨b, j, none⟩ = some ((Value.int .i64) m[j])) (h0 : J [] W) :
    CallsIn Fence.wide n Try.prog 124 #[.func (.yield l) #[] #[], .pointer (some ⟨Bs, 0, none⟩)] W fun e W' => (∃ v, e = .returned v) ∧
      ((∃ ys, ys = backL m m.length ∧ J ys W') ∨ (∃ pre, (∃ k, k ≤ m.length ∧ pre = backL m k) ∧ Jx pre W')) := by
  refine callsIn_of_wp Try.func124 rfl trivial ?_ rfl
  simp only [Try.ntmps124, List.size_toArray, List.length_cons, List.length_nil, Nat.reduceAdd, Nat.reduceSub, Array.replicate_succ, Array.replicate_zero, List.push_toArray, List.append_toArray, List.nil_append, List.cons_append]
  gi_wp2
  gi_loopw [3] (fun i wr => ∃ q : Nat, q ≤ m.length ∧ i = (Value.int .i64) ((q : Int) - 1) ∧ J (backL m (m.length - q)) wr ∧ KpT T W wr)
    (fun i _ => (intOf i + 1).toNat)
  case atStart => exact ⟨m.length, Nat.le_refl _, by go_num, by rw [Nat.sub_self]; exact h0, KpT.refl _ _⟩
  case round =>
    obtain ⟨q, hq, hi, hJs, hnx⟩ := hrel
    have hBs' := (hnx.cell hT).trans hBs
    cases q with
    | zero =>
      obtain rfl := hi
      gi_wp2
      go_end0
      exact ⟨⟨_, rfl⟩, .inl ⟨_, rfl, hJs⟩⟩
    | succ j =>
      have hij : ((j + 1 : Nat) : Int) - 1 = (j : Int) := by omega
      rw [hij] at hi
      subst hi
      obtain ⟨b, hA, hTb, hcb⟩ := hc j (by omega)
      have hcx := (hnx.cell hTb).trans hcb
      have hji : (j : Int) < m.length := by omega
      have hk1 : m.length - j = m.length - (j + 1) + 1 := by omega
      have hsx : backL m (m.length - j) = backL m (m.length - (j + 1)) ++ [((j : Int), m[j])] := by
        rw [hk1, backL_succ]
        have e1 : m.length - 1 - (m.length - (j + 1)) = j := by omega
        rw [e1, List.getElem?_eq_getElem (by omega)]
        congr 2
        simp
        omega
      obtain ⟨fn, tmps, assign, body, hy, hR⟩ := hY _ ((j : Int), m[j]) _ hJs (by rw [backL_len]; omega)
      dsimp only at hy
      subst hA
      gi_wp2
      refine hR.mono ?_
      rintro e W3 (⟨rfl, hJ3, hk3⟩ | ⟨rfl, hJx3⟩)
      · gi_wp2
        go_roundw
        case rel => exact ⟨j, by omega, by go_num, by rw [hsx]; exact hJ3, hnx.trans hk3⟩
        case measure => first | (simp [intOf]; done) | (simp [intOf]; omega)
      · gi_wp2
        refine bodyPost_ret (results_none rfl _ _ _) rfl ?_
        exact ⟨⟨_, rfl⟩, .inr ⟨_, ⟨m.length - j, by omega, hsx.symm⟩, hJx3⟩⟩
theorem back_stops (n : Nat) (hn : 1 ≤ n) (Bs c : Nat) (A : Option Addr) (m : List Int) (hm : m.length ≤ 9223372036854775807) (T : Nat → Prop) (hT : T Bs) (w : World) (hB : Bs < w.heap.size) (hBs : w.cell? ⟨Bs, 0, none⟩ = some (.slice A m.length c)) (hc : ∀ j, (hj : j < m.length) → ∃ b, A = some ⟨b, 0, none⟩ ∧ b < w.heap.size ∧ T b ∧ w.cell? ⟨b, j, none⟩ = some ((Value.int .i64) m[j])) :
    SeqStopsK Fence.wide n Try.prog 124 #[.pointer (some ⟨Bs, 0, none⟩)] (fun x : Int × Int => #[(Value.int .i64) x.1, (Value.int .i64) x.2]) (KpT T) (fun xs => xs = backL m m.length) (fun pre => ∃ k, k ≤ m.length ∧ pre = backL m k) m.length w := by
  intro l J Jx W hW hJ hJx hY h0
  refine back1 n hn l Bs c A m hm T hT J Jx hY W ((hW.cell (p := ⟨Bs, 0, none⟩) hB).trans hBs) (fun j hj => ?_) h0
  obtain ⟨b, h1, h2, h3, h4⟩ := hc j hj
  exact ⟨b, h1, h3, (hW.cell (p := ⟨b, j, none⟩) h2).trans h4⟩
theorem backward_any (A : Option Addr) (n c : Nat) (w : World) : Calls Try.prog 97 #[.slice A n c] w fun e w' => e = .returned (.func (.func 124) #[] #[.pointer (some ⟨w.heap.size, 0, none⟩)]) ∧ w' = w.alloc (.cells #[.slice A n c] 36) := by
  have hmf : ∀ (fn : Fn) (first cap : Array Value) (w : World), (Instr.makeFunc fn first cap).run Try.prog w = .ok (.func fn first cap) w := fun _ _ _ _ => rfl
  go_enter Try.func97, Try.ntmps97
  go_wp2_with fail
  go_ret
  exact ⟨rfl, rfl⟩
end Go.Proofs.Ytegkimecdonfgaa
namespace Go.Proofs.Ytegkimecdonfgaa
open Go.RowKit Hpm
def exact' (x : Hp) : HProp := fun h => h = x
def AllCells (P : HProp) : Prop := ∀ h, P h → ∀ b o, h b = some o → o.isCells = true
theorem AllCells.star {P Q : HProp} (hp : AllCells P) (hq : AllCells Q) : AllCells (P * Q) := by
  rintro h ⟨h1, h2, d, rfl, p, q⟩ b o e
  simp only [union] at e
  cases e1 : h1 b with
  | none => rw [e1] at e; exact hq h2 q b o (by simpa using e)
  | some x => rw [e1] at e; simp at e; subst e; exact hp h1 p b x e1
theorem AllCells.ex {α : Type} {P : α → HProp} (h : ∀ x, AllCells (P x)) : AllCells (ex P) := fun k ⟨x, p⟩ => h x k p
theorem AllCells.blk (b : Nat) (cs : Array Value) (t : TypeId) : AllCells (blk b cs t) := by
  rintro h rfl k o e
  simp only [single] at e
  split at e
  · injection e with e; subst e; rfl
  · cases e
theorem AllCells.row (e size : Nat) (v : Value) (n : Nat) (xs : List Value) : AllCells (row e size v n xs) := by
  rintro h ⟨_, ⟨_, _, rfl⟩ | ⟨g, cap, cur, _, _, _, _, _, hb⟩⟩ b o ho
  · cases ho
  · exact AllCells.blk _ _ _ h hb b o ho
theorem AllCells.lift (p : Prop) : AllCells (lift p) := by
  rintro h ⟨_, rfl⟩ b o e
  cases e
theorem framesCells (f : Nat) (s : Ms) : AllCells (framesAt f s) := by
  unfold framesAt
  refine AllCells.ex fun g => AllCells.ex fun vf => ?_
  unfold framesIn
  exact (AllCells.blk _ _ _).star ((AllCells.blk _ _ _).star ((AllCells.row _ _ _ _ _).star (AllCells.lift _)))
/-- What is not P's, exactly. -/
theorem has_exact {w : World} {P R : HProp} (h : Has w (P * R)) : ∃ x, R x ∧ Has w (P * exact' x) ∧ sub x (fun b => w.heap[b]?) := by
  obtain ⟨_, s, h1, h2, d, rfl, p, r⟩ := h
  exact ⟨h2, r, ⟨_, s, h1, h2, d, rfl, p, rfl⟩, sub_union_right d s⟩
theorem exact_sub {w : World} {P : HProp} {x : Hp} (h : Has w (P * exact' x)) : sub x (fun b => w.heap[b]?) := by
  obtain ⟨_, s, h1, h2, d, rfl, p, r⟩ := h
  have r : h2 = x := r
  subst r
  exact sub_union_right d s
theorem exact_back {w : World} {P R : HProp} {x : Hp} (h : Has w (P * exact' x)) (r : R x) : Has w (P * R) := by
  obtain ⟨_, s, h1, h2, d, rfl, p, e⟩ := h
  have e : h2 = x := e
  subst e
  exact ⟨_, s, h1, h2, d, rfl, p, r⟩
/-- All that is not P's. -/
theorem has_rest {w : World} {P : HProp} {x : Hp} (h : Has w (P * exact' x)) (hc : AllCells P) : ∃ y, sub x y ∧ Has w (P * exact' y) ∧ ∀ b o, w.heap[b]? = some o → o.isCells = false → y b = some o := by
  obtain ⟨_, s, h1, h2, d, rfl, p, e⟩ := h
  have e : h2 = x := e
  subst e
  refine ⟨fun b => if (h1 b).isSome then none else w.heap[b]?, ?_, ⟨_, ?_, h1, _, ?_, rfl, p, rfl⟩, ?_⟩
  · intro b o e
    have hb : h1 b = none := by
      rcases d b with h | h
      · exact h
      · rw [h] at e; cases e
    show (if (h1 b).isSome then none else w.heap[b]?) = some o
    rw [hb]
    exact sub_union_right d s b o e
  · refine sub_union (sub_union_left s) fun b o e => ?_
    replace e : (if (h1 b).isSome then none else w.heap[b]?) = some o := e
    split at e
    · cases e
    · exact e
  · intro b
    cases hb : h1 b with
    | none => exact .inl rfl
    | some o => right; simp [hb]
  · intro b o e ho
    show (if (h1 b).isSome then none else w.heap[b]?) = some o
    cases hb : h1 b with
    | none => exact e
    | some o' =>
      have h3 := sub_union_left s b o' hb
      have h4 : w.heap[b]? = some o' := h3
      rw [e] at h4
      injection h4 with h4
      subst h4
      rw [hc h1 p b o hb] at ho
      cases ho
theorem exact_mono {w : World} {P : HProp} {x y : Hp} (h : Has w (P * exact' y)) (hs : sub x y) : Has w (P * exact' x) := by
  obtain ⟨_, s, h1, h2, d, rfl, p, e⟩ := h
  have e : h2 = y := e
  subst e
  refine ⟨_, sub_union (sub_union_left s) (fun b o hb => sub_union_right d s b o (hs b o hb)), h1, x, fun b => ?_, rfl, p, rfl⟩
  rcases d b with h | h
  · exact .inl h
  · right
    cases hx : x b with
    | none => rfl
    | some o => rw [hs b o hx] at h; cases h
/-- It stands through the turn of a block that is no cells, and is no part of x. -/
theorem exact_grown {w w' : World} {P : HProp} {x : Hp} {row : Option Nat} (h : Has w (P * exact' x)) (hc : AllCells P) (hg : w.grownBy w' row) (hr : ∀ r, row = some r → x r = none ∧ ∃ o : Obj, w.heap[r]? = some o ∧ o.isCells = false) : Has w' (P * exact' x) := by
  obtain ⟨_, s, h1, h2, d, rfl, p, e⟩ := h
  have e : h2 = x := e
  subst e
  refine ⟨_, fun b o hb => ?_, h1, h2, d, rfl, p, rfl⟩
  have h3 : w.heap[b]? = some o := s b o hb
  have hlt : b < w.heap.size := (Array.getElem?_eq_some_iff.1 h3).1
  show w'.heap[b]? = some o
  rw [hg.block b hlt ?_]
  · exact h3
  · intro e
    obtain ⟨hx, o', ho', hcl⟩ := hr b e.symm
    simp only [union] at hb
    cases hb1 : h1 b with
    | none => rw [hb1, hx] at hb; cases hb
    | some o1 =>
      have h4 := sub_union_left s b o1 hb1
      have h4 : w.heap[b]? = some o1 := h4
      rw [ho'] at h4
      injection h4 with h4
      subst h4
      rw [hc h1 p b o' hb1] at hcl
      cases hcl
/-- A call that has a contract by pieces, at the exact rest: what it leaves. -/
theorem call_keeps {P : Program} {fn : Nat} {args : Array Value} {v : Value} {A B : HProp} {x : Hp} {w : World} (hc : AllCells A) (h : Has w (A * exact' x))
    (hcall : ∀ R, Has w (A * R) → Calls P fn args w (Res v (B * R) w)) (Bd : Nat) :
    Calls P fn args w fun e w' => e = .returned v ∧ Has w' (B * exact' x) ∧ Ext w w' ∧ KeepsFrom Bd w w' ∧ KpT (fun b => (x b).isSome = true) w w' := by
  obtain ⟨y, hs, hy, hall⟩ := has_rest h hc
  refine (hcall _ hy).mono fun e w' ⟨he, hB, hx⟩ => ⟨he, exact_mono hB hs, hx, ⟨hx.size, fun k o _ hk ho => exact_sub hB k o (hall k o hk ho)⟩, ⟨fun b hb => ?_⟩⟩
  obtain ⟨o, ho⟩ := Option.isSome_iff_exists.1 hb
  have h1 : w'.heap[b]? = some o := exact_sub hB b o (hs b o ho)
  have h2 : w.heap[b]? = some o := exact_sub h b o ho
  rw [h1, h2]
end Go.Proofs.Ytegkimecdonfgaa
namespace Go.Proofs.Ytegkimecdonfgaa
open Go.RowKit Go.Shelf Hpm
set_option maxRecDepth 100000
attribute [local go_sem] Oper.semAt_some
theorem calls_of_marks {P : Program} {f : FuncId} {fn : Func} {c : Code} {args : Array Value} {w : World} {R : Ending → World → Prop} (hf : P.funcs[f]? = some fn) (hb : fn.body = some c)
    (h : c.wp P (bodyPostM Fence.wide 9 P fn R) { tmps := args ++ Array.replicate (fn.ntmps - args.size) undef, defers := [] } w) : Calls P f args w R :=
  (callsIn_wide (n := 9)).1 (callsIn_of_wp_marks (F := Fence.wide) (n := 9) hf hb trivial (wpIn_wide.2 h) rfl)
theorem marks_ret {P : Program} {fn : Func} {R : Ending → World → Prop} {a : Act} {w : World} {v : Value} (hr : (results fn a.tmps).run P w = .ok v w) (hd : a.defers = []) (hR : R (.returned v) w) : bodyPostM Fence.wide 9 P fn R .ret a w := by
  show LeavesInM Fence.wide 9 P fn a.tmps R a.defers .returning w
  rw [hd]
  unfold LeavesInM LeavesIn
  exact ⟨v, hr, hR⟩
/-- No panic is borne, for a while. -/
def Calm (Q : Exit → Act → World → Prop) : Exit → Act → World → Prop
  | .panic _, _, _ => False
  | e, a, w => Q e a w
theorem wp_calm {P : Program} {c : Code} {Q : Exit → Act → World → Prop} {a : Act} {w : World} (h : c.wp P (Calm Q) a w) : c.wp P Q a w :=
  Code.wp_mono (fun e _ _ h => by cases e <;> first | exact h | exact h.elim) h
theorem blk_some {b : Nat} {cs : Array Value} {t : TypeId} {R : HProp} {x : Hp} (h : (blk b cs t * R) x) : (x b).isSome = true := by
  obtain ⟨h1, h2, d, rfl, p, r⟩ := h
  have p : h1 = single b (.cells cs t (0, 0)) := p
  subst p
  simp [union, single]
theorem row_some {g : Nat} {e size n m c : Nat} {xs : List Value} {R : HProp} {x : Hp} (h : (row e size (.slice (some ⟨g, 0, none⟩) m c) n xs * R) x) : (x g).isSome = true := by
  obtain ⟨h1, h2, d, rfl, ⟨_, ⟨hv, _⟩ | ⟨g', cap, cur, hv, _, _, _, _, hb⟩⟩, r⟩ := h
  · injection hv with e; cases e
  · injection hv with e
    injection e with e
    injection e with e
    subst e
    have hb : h1 = single _ _ := hb
    subst hb
    simp [union, single]
/-- What take comes to. -/
def Took (b f n : Nat) (s : Ms) (R : HProp) (w : World) (e : Ending) (w' : World) : Prop :=
  (n ≤ s.frees.length ∧ ∃ A c, Res (Value.bool true) (blk b #[.pointer (some ⟨f, 0, none⟩), .slice A n c] 107 * (row 3 1 (.slice A n c) n ((tops s n).map (Value.int .i64)) * (framesAt f (takeN s n) * R))) w e w') ∨
  (s.frees.length < n ∧ ∃ s', s'.Ok ∧ Agree s' s ∧ Res (Value.bool false) (framesAt f s' * R) w e w')
set_option maxHeartbeats 4000000 in
theorem takeB (b f : Nat) (s : Ms) (hs : s.Ok) (n : Nat) (hn : n ≤ 3) (R : HProp) (w : World) (h : Has w (blk b #[.pointer (some ⟨f, 0, none⟩), .slice none 0 0] 107 * (framesAt f s * R))) :
    Calls Try.prog 60 #[.pointer (some ⟨b, 0, none⟩), (Value.int .i64) n] w (Took b f n s R w) := by
  have h1 : Has _ (blk w.heap.size #[.pointer (some ⟨b, 0, none⟩)] 105 * (blk b #[.pointer (some ⟨f, 0, none⟩), .slice none 0 0] 107 * (row 3 1 (.slice none 0 0) 0 ((tops s 0).map (Value.int .i64)) * (framesAt f (takeN s 0) * R)))) := (Has.rowNil (e := 3) (size := 1) (h.new #[.pointer (some ⟨b, 0, none⟩)] 105)).p2.eq (congrArg _ (star_left_comm _ _ _))
  have x1 := (Ext.refl w).alloc (.cells #[.pointer (some ⟨b, 0, none⟩)] 105)
  clear h
  refine calls_of_marks Try.func60 rfl ?_
  simp only [Try.ntmps60, List.size_toArray, List.length_cons, List.length_nil, Nat.reduceAdd, Nat.reduceSub, Array.replicate_succ, Array.replicate_zero, List.push_toArray, List.append_toArray, List.nil_append, List.cons_append]
  go_upto_region 1 with fail
  generalize w.alloc (.cells #[.pointer (some ⟨b, 0, none⟩)] 105) = w1 at *
  generalize w.heap.size = X at *
  go_wp2_with fail
  go_loopw [9] (fun t9 wr => ∃ (i : Nat) (A : Option Addr) (c : Nat), i ≤ n ∧ i ≤ s.frees.length ∧ t9 = (Value.int .i64) i ∧ Has wr (blk X #[.pointer (some ⟨b, 0, none⟩)] 105 * (blk b #[.pointer (some ⟨f, 0, none⟩), .slice A i c] 107 * (row 3 1 (.slice A i c) i ((tops s i).map (Value.int .i64)) * (framesAt f (takeN s i) * R)))) ∧ Ext w wr) (fun t9 _ => n - (intOf t9).toNat)
  case atStart => exact ⟨0, none, 0, by omega, by omega, rfl, h1, x1⟩
  case round =>
    clear h1 x1
    obtain ⟨i, A, c, hi, hif, rfl, hr, hx⟩ := hrel
    by_cases hlt : i < n
    · have HT := Lib.hid (fun R w h => takeF f (takeN s i) R w h (takeN_ok hs i))
      have htop := takeN_top hif
      have c0 := hr.cell 0
      have cl := hr.lt
      obtain ⟨b0, b1⟩ := hr.right.cells2
      have bl := hr.right.lt
      have h2 : Has wr (framesAt f (takeN s i) * (blk X #[.pointer (some ⟨b, 0, none⟩)] 105 * (blk b #[.pointer (some ⟨f, 0, none⟩), .slice A i c] 107 * (row 3 1 (.slice A i c) i ((tops s i).map (Value.int .i64)) * R)))) := hr.eq (by ac_rfl)
      have hts : tops s (i + 1) = tops s i ++ [(takeN s i).topV] := rfl
      have hns : takeN s (i + 1) = (takeN s i).takeS := rfl
      by_cases hneg : (takeN s i).topV < 0
      · have hie := htop.1 hneg
        have hno : (takeN s i).top = none := by
          cases ht : (takeN s i).top with
          | none => rfl
          | some k => unfold Ms.topV at hneg; rw [ht] at hneg; exact absurd hneg (by simp)
        have hstk : (takeN s i).takeS = takeN s i := by unfold Ms.takeS; rw [hno]
        rw [hstk] at HT
        have HAG := Lib.hid (takeN_give hs i hif)
        have HOK := Lib.hid (fun l => giveL_ok (takeN_ok hs i) l)
        have hml := tops_len s i
        have hlt2 : s.frees.length < n := by omega
        have HLT := Lib.hid hlt2
        clear hr hts hns htop hno hstk hie hlt2
        generalize (takeN s i).topV = k at *
        generalize takeN s i = s1 at *
        generalize tops s i = m at *
        subst hml
        go_wp2_with fail
        refine (HT.out _ _ h2).mono ?_; rintro e w3 ⟨rfl, h3, x3⟩
        have x4 := hx.trans x3
        clear c0 cl b0 b1 bl h2 hx x3 HT
        have c0 := h3.right.cell 0
        have cl := h3.right.lt
        obtain ⟨b0, b1⟩ := h3.right.right.cells2
        have bl := h3.right.right.lt
        go_wp2_with fail
        refine (backward_any A m.length c w3).mono ?_; rintro e w4 ⟨rfl, rfl⟩
        have h4 : Has (w3.alloc (.cells #[.slice A m.length c] 36)) (framesAt f s1 * (blk w3.heap.size #[.slice A m.length c] 36 * (blk X #[.pointer (some ⟨b, 0, none⟩)] 105 * (blk b #[.pointer (some ⟨f, 0, none⟩), .slice A m.length c] 107 * (row 3 1 (.slice A m.length c) m.length (m.map (Value.int .i64)) * R))))) := (h3.new #[.slice A m.length c] 36).eq (by ac_rfl)
        have x5 := x4.alloc (.cells #[.slice A m.length c] 36)
        clear h3 x4 c0 cl b0 b1 bl
        go_wp2_with fail
        generalize w3.alloc (.cells #[.slice A m.length c] 36) = w5 at *
        generalize w3.heap.size = Bs at *
        obtain ⟨x, hx, h5, hsub⟩ := has_exact h4
        have hbk := Lib.hid (fun (w' : World) (s' : Ms) (h : Has w' (framesAt f s' * exact' x)) => exact_back h hx)
        have hT1 : (x Bs).isSome = true := blk_some hx
        have hxlt : ∀ b, (x b).isSome = true → b < w5.heap.size := fun b hb => by
          obtain ⟨o, ho⟩ := Option.isSome_iff_exists.1 hb
          exact (Array.getElem?_eq_some_iff.1 (hsub b o ho)).1
        have hcell : ∀ j, (hj : j < m.length) → ∃ b, A = some ⟨b, 0, none⟩ ∧ b < w5.heap.size ∧ (x b).isSome = true ∧ w5.cell? ⟨b, j, none⟩ = some ((Value.int .i64) m[j]) := fun j hj => by
          have h6 : Has w5 (row 3 1 (.slice A m.length c) m.length (m.map (Value.int .i64)) * (framesAt f s1 * (blk Bs #[.slice A m.length c] 36 * (blk X #[.pointer (some ⟨b, 0, none⟩)] 105 * (blk b #[.pointer (some ⟨f, 0, none⟩), .slice A m.length c] 107 * R))))) := h4.eq (by ac_rfl)
          obtain ⟨b', e, hb, hc, _⟩ := Has.rowGet (e := 3) (size := 1) h6 (i := j) (u := (Value.int .i64) m[j]) (by simp [hj])
          subst e
          refine ⟨b', rfl, hb, ?_, hc⟩
          have h7 : (row 3 1 (.slice (some ⟨b', 0, none⟩) m.length c) m.length (m.map (Value.int .i64)) * (blk Bs #[.slice (some ⟨b', 0, none⟩) m.length c] 36 * (blk X #[.pointer (some ⟨b, 0, none⟩)] 105 * (blk b #[.pointer (some ⟨f, 0, none⟩), .slice (some ⟨b', 0, none⟩) m.length c] 107 * R)))) x := by
            have e : (blk Bs #[.slice (some ⟨b', 0, none⟩) m.length c] 36 * (blk X #[.pointer (some ⟨b, 0, none⟩)] 105 * (blk b #[.pointer (some ⟨f, 0, none⟩), .slice (some ⟨b', 0, none⟩) m.length c] 107 * (row 3 1 (.slice (some ⟨b', 0, none⟩) m.length c) m.length (m.map (Value.int .i64)) * R)))) = (row 3 1 (.slice (some ⟨b', 0, none⟩) m.length c) m.length (m.map (Value.int .i64)) * (blk Bs #[.slice (some ⟨b', 0, none⟩) m.length c] 36 * (blk X #[.pointer (some ⟨b, 0, none⟩)] 105 * (blk b #[.pointer (some ⟨f, 0, none⟩), .slice (some ⟨b', 0, none⟩) m.length c] 107 * R)))) := by ac_rfl
            exact e ▸ hx
          exact row_some h7
        have hG := Lib.hid (fun (s' : Ms) (hs' : s'.Ok) (k : Int) (w' : World) (h : Has w' (framesAt f s' * exact' x)) => call_keeps (P := Try.prog) (fn := 17) (args := #[.pointer (some ⟨f, 0, none⟩), (Value.int .i64) k]) (v := Value.bool (s'.has k)) (B := framesAt f (s'.giveS k)) (framesCells f s') h (fun R h => giveF f s' k R w' h hs') w5.heap.size)
        clear h4
        refine (wpIn_wide (n := 6)).1 ?_
        apply wpIn_rangeFunc_ownG (F := Fence.wide) (n := 6) rfl (by omega) (gf := 124) (lb := #[.pointer (some ⟨Bs, 0, none⟩)]) rfl trivial (enters_of Try.func124 (by kernel_rfl) rfl) (back_stops 5 (by omega) Bs c A m (by omega) (fun b => (x b).isSome = true) hT1 w5 (hxlt _ hT1) ((hbk.out _ _ h5).right.cell 0) hcell) (fun h k => h.trans k) (fun W l o o' hl hW ho hw => ⟨fun b hb => World.putObj_heap_other (by have := hxlt b hb; omega)⟩) (Below.refl _ _) (fun _ => rfl)
          (fun pre W => Has W (framesAt f (giveL s1 (pre.map Prod.snd)) * exact' x) ∧ Ext w W) (fun _ _ _ => False)
          (fun pre W W' row hs hg hr => ⟨exact_grown hs.1 (framesCells _ _) hg (fun r e => ⟨by
            cases hxr : x r with
            | none => rfl
            | some o => have := hxlt r (by rw [hxr]; rfl); have := (hr r e).1; omega, (hr r e).2⟩), hs.2.grown hg⟩)
          (fun _ _ _ _ _ hs _ _ => hs)
          ⟨h5, x5⟩
        case hassign =>
          intro l x W K hK
          gi_wp2
          exact hK
        case hbody =>
          rintro l pre y W ⟨hW, hE⟩ _
          have h6 := hbk.out W _ hW
          have c0 := h6.right.right.cell 0
          have cl := h6.right.right.lt
          obtain ⟨b0, b1⟩ := h6.right.right.right.cells2
          have bl := h6.right.right.right.lt
          have HGk := Lib.hid (hG.out _ (HOK.out _) y.2 W hW)
          gi_wp2_with (refine ⟨trivial, ?_⟩; gi_at_call 17; refine (CallsIn.inRound l (callsIn_wide.2 HGk.out)).mono ?_; rintro e W2 ⟨rfl, hW2, hE2, hKF, hKT⟩)
          exact ⟨hKF, hKT, by rw [List.map_append, List.map_singleton, giveL_snoc]; exact hW2, hE.trans hE2⟩
        case hdone =>
          rintro D ys W hD rfl ⟨hW, hE⟩ hK
          rw [backL_all] at hW
          go_wp2_with fail
          refine ⟨by simp, .inl ⟨_, _, rfl, run_takeDeferred hK, ?_⟩⟩
          have hxD : x D = none := by
            cases hxr : x D with
            | none => rfl
            | some o => have := hxlt D (by rw [hxr]; rfl); omega
          have hW2 := exact_grown hW (framesCells _ _) (grownBy_putObj' W D (.deferred none)) (fun r e => by cases e; exact ⟨hxD, _, hK, rfl⟩)
          have hE2 := hE.grown (grownBy_putObj' W D (.deferred none))
          refine ⟨_, results_tmp rfl _ _ _, .inr ⟨HLT.out, _, HOK.out _, HAG.out, rfl, ?_, hE2⟩⟩
          have h6 := hbk.out _ _ hW2
          exact (h6.eq (show _ = (blk Bs #[.slice A m.length c] 36 * (blk X #[.pointer (some ⟨b, 0, none⟩)] 105 * (blk b #[.pointer (some ⟨f, 0, none⟩), .slice A m.length c] 107 * row 3 1 (.slice A m.length c) m.length (m.map (Value.int .i64))))) * (framesAt f (giveL s1 m.reverse) * R) by ac_rfl)).right
        case hstop =>
          intro D c pre W _ _ h
          exact h.elim
      · have hif' : i < s.frees.length := by
          have : i ≠ s.frees.length := fun e => hneg (htop.2 e)
          omega
        have HTS := Lib.hid hts
        have HNS := Lib.hid hns
        clear hr hts hns htop
        generalize (takeN s i).topV = k at *
        generalize hS : (takeN s i).takeS = s2 at *
        generalize takeN s i = s1 at *
        clear hS
        go_wp2_with fail
        refine (HT.out _ _ h2).mono ?_; rintro e w3 ⟨rfl, h3, x3⟩
        have x4 := hx.trans x3
        have h4 : Has w3 (row 3 1 (.slice A i c) i ((tops s i).map (Value.int .i64)) * (blk X #[.pointer (some ⟨b, 0, none⟩)] 105 * (blk b #[.pointer (some ⟨f, 0, none⟩), .slice A i c] 107 * (framesAt f s2 * R)))) := h3.eq (by ac_rfl)
        clear c0 cl b0 b1 bl h2 h3 hx x3 HT
        have c0 := h4.right.cell 0
        have cl := h4.right.lt
        obtain ⟨b0, b1⟩ := h4.right.right.cells2
        have bl := h4.right.right.lt
        have bf := h4.right.right.free 1
        have h4d : Has w3.drew (row 3 1 (.slice A i c) i ((tops s i).map (Value.int .i64)) * (blk X #[.pointer (some ⟨b, 0, none⟩)] 105 * (blk b #[.pointer (some ⟨f, 0, none⟩), .slice A i c] 107 * (framesAt f s2 * R)))) := h4.drew
        go_upto_region 9 with fail
        have hS0 : (fun (L : Array Bool) (w' : World) => w'.cell? ⟨X, 0, none⟩ = some (.pointer (some ⟨b, 0, none⟩)) ∧ Till 7 4 (fun w' => w'.cell? ⟨b, 1, none⟩ = some (.slice A i c)) L w') (Array.replicate 11 false) w3.drew := ⟨h4d.right.cell 0, Till.start (h4d.right.right.cell 1)⟩
        refine wp_calm ?_
        refine region_L (S := fun L w' => w'.cell? ⟨X, 0, none⟩ = some (.pointer (some ⟨b, 0, none⟩)) ∧ Till 7 4 (fun w' => w'.cell? ⟨b, 1, none⟩ = some (.slice A i c)) L w') (by kernel_rfl) hS0 (fun hHeld => ?_)
        clear c0 b0 b1 bf hS0
        refine anyL_take (i := 0) (v := ?_) rfl (by kernel_rfl) (by kernel_rfl) (by kernel_rfl) (fun _ _ _ h => h) (Good.and Good.const (Good.till (by decide) ⟨_, ⟨4, .data⟩, rfl, by simp, rfl, rfl⟩)) (Or.inl ⟨by kernel_rfl, ?_⟩) hHeld (fun hHeld => ?_)
        rotate_left
        focus (intro wS hSw; obtain ⟨Lx, hLx, hs1, hs2⟩ := hSw; have cS := hs1; go_simp; first | done | with_reducible rfl)
        refine anyL_take (i := 1) (v := ?_) rfl (by kernel_rfl) (by kernel_rfl) (by kernel_rfl) (fun _ _ _ h => h) (Good.and Good.const (Good.till (by decide) ⟨_, ⟨4, .data⟩, rfl, by simp, rfl, rfl⟩)) (Or.inl ⟨by kernel_rfl, ?_⟩) hHeld (fun hHeld => ?_)
        rotate_left
        focus (intro wS hSw; obtain ⟨Lx, hLx, hs1, hs2⟩ := hSw; have cS := hs1; go_simp; first | done | with_reducible rfl)
        refine anyL_take (i := 2) (v := ?_) rfl (by kernel_rfl) (by kernel_rfl) (by kernel_rfl) (fun _ _ _ h => h) (Good.and Good.const (Good.till (by decide) ⟨_, ⟨4, .data⟩, rfl, by simp, rfl, rfl⟩)) (Or.inl ⟨by kernel_rfl, ?_⟩) hHeld (fun hHeld => ?_)
        rotate_left
        focus (intro wS hSw; obtain ⟨Lx, hLx, hs1, hs2⟩ := hSw; skip; go_simp; first | done | with_reducible rfl)
        refine anyL_take (i := 3) (v := ?_) rfl (by kernel_rfl) (by kernel_rfl) (by kernel_rfl) (fun _ _ _ h => h) (Good.and Good.const (Good.till (by decide) ⟨_, ⟨4, .data⟩, rfl, by simp, rfl, rfl⟩)) (Or.inl ⟨by kernel_rfl, ?_⟩) hHeld (fun hHeld => ?_)
        rotate_left
        focus (intro wS hSw; obtain ⟨Lx, hLx, hs1, hs2⟩ := hSw; skip; go_simp; first | done | with_reducible rfl)
        refine anyL_take (i := 4) (v := ?_) rfl (by kernel_rfl) (by kernel_rfl) (by kernel_rfl) (fun _ _ _ h => h) (Good.and Good.const (Good.till (by decide) ⟨_, ⟨4, .data⟩, rfl, by simp, rfl, rfl⟩)) (Or.inl ⟨by kernel_rfl, ?_⟩) hHeld (fun hHeld => ?_)
        rotate_left
        focus (intro wS hSw; obtain ⟨Lx, hLx, hs1, hs2⟩ := hSw; have cS := hs2.still hLx; go_simp; first | done | with_reducible rfl)
        refine anyL_take (i := 5) (v := ?_) rfl (by kernel_rfl) (by kernel_rfl) (by kernel_rfl) (fun _ _ _ h => h) (Good.and Good.const (Good.till (by decide) ⟨_, ⟨4, .data⟩, rfl, by simp, rfl, rfl⟩)) (Or.inl ⟨by kernel_rfl, ?_⟩) hHeld (fun hHeld => ?_)
        rotate_left
        focus (intro wS hSw; obtain ⟨Lx, hLx, hs1, hs2⟩ := hSw; skip; go_simp; first | done | with_reducible rfl)
        refine anyL_ready (rs := [6]) (by kernel_rfl) (by simp) ?_
        refine OneOf.cons rfl (fun K hK => ?_) OneOf.nil
        have k1 := h4d.build #[(Value.int .i64) k] 3
        try simp only [World.size_alloc] at k1
        go_simp
        refine hK.out _ _ ⟨k1.right.cell 0, ⟨fun _ => by kernel_rfl, fun _ => k1.right.right.right.cell 1⟩⟩ (fun hHeld => ?_)
        clear hK K
        refine anyL_ready (rs := [7]) (by kernel_rfl) (by simp) ?_
        refine OneOf.cons rfl (fun K hK => ?_) OneOf.nil
        refine step_append_has rfl (.tmp 35) (.tmp 37) 36 rfl Try.underlying36 elemI (.slice A i c) i ((tops s i).map (Value.int .i64)) (by simp [Act.eval]) k1 ⟨w3.drew.heap.size, 0, none⟩ 1 1 [(Value.int .i64) k] (by simp [Act.eval]) rfl (news_cell (k1.right.right.cell 0)) (one_int k) (by unfold maxLen; omega) (by omega) ?_
        intro A' c' w5 k2 y2
        try go_simp
        refine hK.out _ _ ⟨k2.right.cell 0, ⟨fun _ => by kernel_rfl, fun h => till_gone (by kernel_rfl) h⟩⟩ (fun hHeld => ?_)
        clear hK K
        refine anyL_take (i := 8) (v := ?_) rfl (by kernel_rfl) (by kernel_rfl) (by kernel_rfl) (fun _ _ _ h => h) (Good.and Good.const (Good.till (by decide) ⟨_, ⟨4, .data⟩, rfl, by simp, rfl, rfl⟩)) (Or.inl ⟨by kernel_rfl, ?_⟩) hHeld (fun hHeld => ?_)
        rotate_left
        focus (intro wS hSw; obtain ⟨Lx, hLx, hs1, hs2⟩ := hSw; skip; go_simp; first | done | with_reducible rfl)
        refine anyL_take (i := 9) (v := ?_) rfl (by kernel_rfl) (by kernel_rfl) (by kernel_rfl) (fun _ _ _ h => h) (Good.and Good.const (Good.till (by decide) ⟨_, ⟨4, .data⟩, rfl, by simp, rfl, rfl⟩)) (Or.inl ⟨by kernel_rfl, ?_⟩) hHeld (fun hHeld => ?_)
        rotate_left
        focus (intro wS hSw; obtain ⟨Lx, hLx, hs1, hs2⟩ := hSw; skip; go_simp; first | done | with_reducible rfl)
        have h6 : Has w5 (blk b #[.pointer (some ⟨f, 0, none⟩), .slice A i c] 107 * (blk X #[.pointer (some ⟨b, 0, none⟩)] 105 * (row 3 1 (.slice A' (i + 1) c') (i + 1) ((tops s i).map (Value.int .i64) ++ [(Value.int .i64) k]) * (framesAt f s2 * R)))) := by
          have := k2.eq (show _ = blk w3.drew.heap.size #[(Value.int .i64) k] 3 * (blk b #[.pointer (some ⟨f, 0, none⟩), .slice A i c] 107 * (blk X #[.pointer (some ⟨b, 0, none⟩)] 105 * (row 3 1 (.slice A' (i + 1) c') (i + 1) ((tops s i).map (Value.int .i64) ++ [(Value.int .i64) k]) * (framesAt f s2 * R)))) by ac_rfl)
          exact this.right
        have g0 := h6.lt
        have g1 := h6.free 1
        have g2 := h6.cell 1
        have h7 := (h6.set 1 (.slice A' (i + 1) c')).p2
        refine anyL_ready (rs := [10]) (by kernel_rfl) (by simp) ?_
        refine OneOf.cons rfl (fun K hK => ?_) OneOf.nil
        go_simp
        refine hK.out _ _ ⟨h7.cell 0, ⟨fun _ => by kernel_rfl, fun h => till_gone (by kernel_rfl) h⟩⟩ (fun hHeld => ?_)
        clear hK K
        refine anyL_done (by kernel_rfl) ?_
        clear hHeld
        unfold Calm
        dsimp only
        go_wp2_with fail
        go_roundw
        case rel => exact ⟨i + 1, A', c', by omega, by omega, by go_num, by rw [HTS.out, HNS.out, List.map_append]; exact h7, ((x4.drew.alloc _).trans y2).set _ _⟩
        case measure => simp [intOf]; omega
    · obtain rfl : i = n := by omega
      go_wp2_with fail
      refine marks_ret (v := Value.bool true) (by simp [results, Try.results60, go_sem]) rfl ?_
      exact .inl ⟨hif, A, c, rfl, hr.right, hx⟩
end Go.Proofs.Ytegkimecdonfgaa
namespace Go.Proofs.Ytegkimecdonfgaa
open Go.RowKit
section
variable {w : World} {R : HProp} {e size : Nat} {v : Value} {A : Option Addr} {n c : Nat} {xs : List Value}
end
section
variable {P : Program} {w : World} {R : HProp}
end
end Go.Proofs.Ytegkimecdonfgaa
namespace Go.Proofs.Ytegkimecdonfgaa
open Go.RowKit
set_option maxRecDepth 100000
theorem run_append_row {P : Program} {w : World} {R : HProp} {t ty e : TypeId} {z : Value} {size bytes : Nat} (hT : P.underlying t = some (.slice e)) (hE : Elem P e z size bytes)
    (v : Value) (n : Nat) (xs : List Value) (u : Value) (m : Nat) (ys : List Value) (h : Has w (row e size v n xs * (row e size u m ys * R))) (h1 : ∀ y ∈ ys, y.oneCell' = true)
    (h63 : n + m ≤ maxLen) (hbytes : (n + m) * bytes ≤ 140737488355328) :
    ∃ A c w', (Builtin.append_ #[t, t] ty #[v, u]).run P w = .ok (.slice A (n + m) c) w' ∧ Has w' (row e size (.slice A (n + m) c) (n + m) (xs ++ ys) * (row e size u m ys * R)) ∧ Ext w w' := by
  rcases h.p2.rowCases with ⟨rfl, rfl, rfl, _⟩ | ⟨g, cap, cur, rfl, _⟩
  · obtain ⟨i, hi, _, hsz, _⟩ := info_parts hE.info
    obtain ⟨A, c, rfl⟩ := h.rowForm
    exact ⟨A, c, w, run_append_owned_none (P := P) (w := w) 0 t ty e i size hT hi (.slice A n c) n xs h.ownsRow, by simpa using h, Ext.refl w⟩
  · have hget := fun j y (hy : ys[j]? = some y) => h.p2.rowGet hy
    have hl := h.p2.rowLens.1
    obtain ⟨v', w', hr, h2, x2⟩ := run_append_has (ty := ty) hT hE v n xs h ⟨g, 0, none⟩ m cap ys hl (fun j y hy => by
      obtain ⟨g', hg', _, hc, _⟩ := hget j y hy
      injection hg' with hg'
      injection hg' with hg'
      subst hg'
      rw [Addr.add_lit, Nat.zero_add]
      exact hc) h1 h63 hbytes
    have hf : ∃ A c, v' = .slice A (n + m) c := by
      rcases h2.rowCases with ⟨hv, hn, _, _⟩ | ⟨g, cap, cur, hv, _⟩
      · exact ⟨none, 0, by rw [hv, hn]⟩
      · exact ⟨_, _, hv⟩
    obtain ⟨A, c, rfl⟩ := hf
    exact ⟨A, c, w', hr, h2, x2⟩
theorem step_append_row {P : Program} {ops : Array Oper} {o : Oper} {a : Act} {w : World} {R : HProp} {K : Act → World → Prop} {Q : Exit → Act → World → Prop} {E : Prop}
    (hg : o.guard = none) (s x : Operand) (t : TypeId) (hop : o.op = Op.call { callee := Callee.builtin Builtin.append, args := #[s, x], argTypes := #[t, t] })
    {e : TypeId} {z : Value} {size bytes : Nat} (hT : P.underlying t = some (.slice e)) (hE : Elem P e z size bytes)
    (v : Value) (n : Nat) (xs : List Value) (hs : a.eval s = v) (u : Value) (m : Nat) (ys : List Value) (hx : a.eval x = u) (h : Has w (row e size v n xs * (row e size u m ys * R))) (h1 : ∀ y ∈ ys, y.oneCell' = true)
    (h63 : n + m ≤ maxLen) (hbytes : (n + m) * bytes ≤ 140737488355328)
    (hK : ∀ A c w', Has w' (row e size (.slice A (n + m) c) (n + m) (xs ++ ys) * (row e size u m ys * R)) → Ext w w' → K (a.put o.dst (.slice A (n + m) c)) w') :
    if Region.wanted o (yielded ops a.tmps) = true then Oper.wp P o a w K Q else E := by
  have hw : Region.wanted o (yielded ops a.tmps) = true := by simp [Region.wanted, hg]
  rw [if_pos hw]
  obtain ⟨A, c, w', hrun, h2, h3⟩ := run_append_row (ty := o.type) hT hE v n xs u m ys h h1 h63 hbytes
  unfold Oper.wp
  simp [execOp, hop, resolve, invoke, builtin, hs, hx, hrun, Result.andThen]
  exact hK A c w' h2 h3
theorem many_int (l : List Int) : ∀ u ∈ l.map (Value.int .i64), u.oneCell' = true := by
  intro u hu
  obtain ⟨x, _, rfl⟩ := List.mem_map.1 hu
  rfl
def ClonedI (l : List Int) (w : World) (e : Ending) (w' : World) : Prop := ∃ A n c, e = .returned (.slice A n c) ∧ Has w' (irow (.slice A n c) l * old w w.heap.size) ∧ Ext w w'
theorem clone_int (l : List Int) (A : Option Addr) (n c : Nat) (R : HProp) (w : World) (hs : l.length ≤ 1000000) (h : Has w (irow (.slice A n c) l * R)) :
    Calls Try.prog 61 #[.slice A n c] w (ClonedI l w) := by
  have q22 : ∀ (w : World) (a : Option Addr) (n c n' c' : Nat), (binOp .eql 36 (.slice a n c) (.slice none n' c')).run Try.prog w = .ok (.bool a.isNone) w := fun w a n c n' c' => Lib.run_eql_slice_nil w _ _ a n c n' c' Try.underlying36
  have hl0 := irow_len h
  subst hl0
  cases A with
  | none =>
    have h0 : l = [] ∧ c = 0 := by
      rcases Has.rowCases (e := 3) (size := 1) h with ⟨hv, h0, _⟩ | ⟨g, cap, cur, hv, _⟩
      · injection hv with a b d
        exact ⟨List.eq_nil_of_length_eq_zero h0, d⟩
      · injection hv with a
        cases a
    obtain ⟨rfl, rfl⟩ := h0
    go_enter Try.func61, Try.ntmps61
    go_wp2_with fail
    go_ret
    exact ⟨none, 0, 0, rfl, Has.rowNil (has_old w), Ext.refl _⟩
  | some a =>
    have h0 : ∃ g, a = ⟨g, 0, none⟩ := by
      rcases Has.rowCases (e := 3) (size := 1) h with ⟨hv, h0, _⟩ | ⟨g, cap, cur, hv, _⟩
      · injection hv with a b d
        cases a
      · injection hv with a
        injection a with a
        exact ⟨g, a⟩
    obtain ⟨g, rfl⟩ := h0
    have h1 := (has_old w).new #[] 3
    have hrow : Has (w.alloc (.cells #[] 3)) (row 3 1 (.slice (some ⟨w.heap.size, 0, none⟩) 0 0) 0 [] * old w w.heap.size) := h1.rowOf rfl (Nat.le_refl _) (by unfold maxLen; omega) rfl rfl
    have hn := fun k (hk : k < l.length) => irow_at (h.alloc (.cells #[] 3)) hk
    have hne : Hid (∀ j u, (l.map (Value.int .i64))[j]? = some u → (w.alloc (.cells #[] 3)).cell? ((⟨g, 0, none⟩ : Addr).add j) = some u) := fun j u hu => by
      rw [Addr.add_lit, Nat.zero_add]
      obtain ⟨hj, e⟩ := List.getElem?_eq_some_iff.1 hu
      have hj' : j < l.length := by simpa using hj
      obtain ⟨b, e1, _, hc⟩ := hn j hj'
      injection e1 with e1
      injection e1 with e1
      subst e1
      rw [hc, ← e]
      simp
    have x1 := (Ext.refl w).alloc (.cells #[] 3)
    have hml : Hid ((l.map (Value.int .i64)).length = l.length * 1) := Lib.hid (by simp)
    clear hn h1 h
    go_enter Try.func61, Try.ntmps61
    go_wp2_with (at_builtin; refine wpList_append_has rfl _ _ 36 rfl Try.underlying36 elemI _ _ _ rfl hrow ⟨g, 0, none⟩ l.length c (l.map (Value.int .i64)) rfl hml.out hne.out (many_int l) ?c2 ?c3 ?_)
    case c2 => unfold maxLen; omega
    case c3 => omega
    intro v' w2 h' x'
    obtain ⟨A', c', rfl⟩ := h'.rowForm
    have h2 : Has w2 (irow (.slice A' l.length c') l * old w w.heap.size) := h'
    go_wp2_with fail
    go_ret
    exact ⟨A', _, c', rfl, h2, x1.trans x'⟩
end Go.Proofs.Ytegkimecdonfgaa
