/- Insert, Remove and Protect on a tree of tables, against a book; with no program in sight. -/
import Derived.Test.YtmfheghbgihdmaaWalkM2
import Derived.Test.YtmfheghbgihdmaaSep
import Derived.ProofKit
import Derived.OpenShut
import Derived.ChangeOld
import Derived.Below
import Derived.Deep.Slices
import Derived.Test.YtmfheghbgihdmaaProg
import Derived.Laws.StructEq
import Derived.KernelRfl
import Derived.Lib.Hide
import Derived.WalkSpells
import Derived.Outline
import Derived.BigQuiet
namespace Go.Proofs.Ytmfheghbgihdmaa
open Go.RowKit
/-- A book that says what the tables say. -/
structure Lk (s : Ms) (r : Int) (L : List Mp) : Prop where
  ok : Bk.Ok L
  same : ∀ q, InP q → Bk.find L q = mapAt s r q
section
variable {s : Ms} {r : Int} {gone : List Int} {X : Int → Prop} {L : List Mp}
theorem MapOk.inP {x : Mp} (h : MapOk x) : InP x.page := ⟨h.p0, by have := h.p1; have := h.sp; omega⟩
theorem Bk.mem_find {L : List Mp} (h : Bk.Ok L) {m : Mp} (hm : m ∈ L) : Bk.find L m.page = some m := by
  obtain ⟨k, hk, rfl⟩ := List.getElem_of_mem hm
  have hc := h.chk _ (List.getElem_mem hk)
  exact (Bk.over_at h hk (over_iff.2 ⟨by omega, by have := hc.sp; omega⟩)).2
theorem Bk.find_mem {L : List Mp} {p : Int} {m : Mp} (h : Bk.find L p = some m) : m ∈ L ∧ over m p = true := ⟨List.mem_of_find?_eq_some h, by have := List.find?_some h; exact this⟩
theorem Lk.mem (h : Lk s r L) {m : Mp} (hm : m ∈ L) : mapAt s r m.page = some m := by
  rw [← h.same _ (h.ok.chk _ hm).inP]
  exact Bk.mem_find h.ok hm
/-- Two books that say the same of each page are the same. -/
theorem Bk.ext_find {a b : List Mp} (ha : Bk.Ok a) (hb : Bk.Ok b) (h : ∀ q, InP q → Bk.find a q = Bk.find b q) : a = b := by
  refine Bk.Ok.ext ha hb fun x => ?_
  constructor
  · intro hx
    have := Bk.mem_find ha hx
    rw [h _ (ha.chk _ hx).inP] at this
    exact (Bk.find_mem this).1
  · intro hx
    have := Bk.mem_find hb hx
    rw [← h _ (hb.chk _ hx).inP] at this
    exact (Bk.find_mem this).1
theorem Lk.unique {K : List Mp} (h : Lk s r L) (k : Lk s r K) : L = K := Bk.ext_find h.ok k.ok fun q hq => (h.same q hq).trans (k.same q hq).symm
/-- What a page that is of two mappings says of them. -/
theorem meet_of {a b : Mp} (ha : MapOk a) (hb : MapOk b) {q : Int} (h1 : over a q = true) (h2 : over b q = true) : meet a b = true := by
  cases h : meet a b with
  | true => rfl
  | false =>
    have := (meet_false ha hb).1 h
    have := over_iff.1 h1
    have := over_iff.1 h2
    omega
/-- Below a table there is a mapping. -/
theorem Wf.some_map (hw : Wf s r gone (fun _ => False)) : ∀ (n d : Nat), n + d = 2 → ∀ {p t : Int}, InP p → tabD s r p (d + 1) = some t → ∃ q, InP q ∧ q / pow8 (3 - d) = p / pow8 (3 - d) ∧ mapAt s r q ≠ none := by
  intro n
  induction n with
  | zero =>
    intro d hd p t hp ht
    obtain rfl : d = 2 := by omega
    rcases hw.full p 2 t hp (by omega) ht with h | ⟨i, hi, hne⟩
    · cases h
    obtain ⟨q, hq, hpre, hix, _⟩ := page_at hp (show 0 ≤ 3 by omega) i hi
    have hq' : tabD s r q 3 = some t := by rw [← ht]; exact tabD_prefix s r hq hp 3 (by omega) hpre
    obtain ⟨h1, h2⟩ := hw.at_ hq (by omega) hq'
    have hd0 : decC (wordV s t (index q (0 : Nat))) (0 : Nat) = 0 := h2
    have hl := dec0_leaf hd0
    have hE : Ends s r q 3 t := by
      refine ⟨by omega, hq', h1, h2, ?_⟩
      unfold goB eOf
      show (_ && (_ && ((decE (wordV s t (index q (0 : Nat))) (0 : Nat)).there && !(decE (wordV s t (index q (0 : Nat))) (0 : Nat)).leaf))) = false
      rcases hl with e | e <;> simp_all
    refine ⟨q, hq, hpre, ?_⟩
    rw [mapAt_ends hq hE]
    have ht' : (eOf s q t (3 - 3)).there = true := by
      cases h : (eOf s q t (3 - 3)).there with
      | true => rfl
      | false =>
        have := (hE.not h).2
        have hix' : index q (3 - 3 : Nat) = i := hix
        rw [hix'] at this
        exact absurd this hne
    rw [if_pos (hE.leafOf ht')]
    simp
  | succ n ih =>
    intro d hd p t hp ht
    rcases hw.full p d t hp (by omega) ht with h | ⟨i, hi, hne⟩
    · cases h
    obtain ⟨q, hq, hpre, hix, _⟩ := page_at hp (show 2 - d ≤ 3 by omega) i hi
    have e1 : 2 - d + 1 = 3 - d := by omega
    have e2 : 3 - (d + 1) = 2 - d := by omega
    rw [e1] at hpre
    have hq' : tabD s r q (d + 1) = some t := by rw [← ht]; exact tabD_prefix s r hq hp (d + 1) (by omega) (by rw [show 4 - (d + 1) = 3 - d by omega]; exact hpre)
    cases hg : goB s q t (3 - (d + 1)) with
    | true =>
      have hv : tabD s r q (d + 1 + 1) = some (eOf s q t (3 - (d + 1))).frame := tabD_succ.2 ⟨t, hq', hg, rfl⟩
      obtain ⟨x, hx, hxp, hxm⟩ := ih (d + 1) (by omega) hq hv
      refine ⟨x, hx, ?_, hxm⟩
      rw [← hpre]
      exact div_up (by omega) hxp
    | false =>
      obtain ⟨h1, h2⟩ := hw.at_ hq (by omega) hq'
      have hE : Ends s r q (d + 1) t := ⟨by omega, hq', h1, h2, hg⟩
      refine ⟨q, hq, hpre, ?_⟩
      rw [mapAt_ends hq hE]
      have ht' : (eOf s q t (3 - (d + 1))).there = true := by
        cases h : (eOf s q t (3 - (d + 1))).there with
        | true => rfl
        | false =>
          have := (hE.not h).2
          rw [e2, hix] at this
          exact absurd this hne
      rw [if_pos (hE.leafOf ht')]
      simp
/-- Where a mapping may stand: just where the book lets it. -/
theorem there_bad (hw : Wf s r gone (fun _ => False)) (hL : Lk s r L) {x : Mp} (hx : MapOk x) : ((way s r x.page).e.there = true ∨ (way s r x.page).lev < x.size) ↔ Bk.bad L x = true := by
  have hp := hx.inP
  obtain ⟨d, t, he⟩ := hw.ends _ hp
  have hle := he.le
  obtain ⟨z, hz, hz3⟩ : ∃ z : Nat, x.size = z ∧ z < 3 := by
    rcases hx.size with ⟨a, _⟩ | ⟨a, _⟩ | ⟨a, _⟩
    · exact ⟨0, a, by omega⟩
    · exact ⟨1, a, by omega⟩
    · exact ⟨2, a, by omega⟩
  have hsp : span x.size = pow8 z := by rw [hz]; exact span_pow hz3
  have hxe : x = ⟨x.page / pow8 z * pow8 z, z, x.frame, x.rights⟩ := by
    have := hx.al
    rw [hsp] at this
    have h8 := pow8_pos z
    have e : x.page / pow8 z * pow8 z = x.page := by have := Int.mul_ediv_add_emod x.page (pow8 z); rw [Int.mul_comm]; omega
    rw [e, ← hz]
  have hov : ∀ q, over x q = decide (q / pow8 z = x.page / pow8 z) := fun q => by
    conv => lhs; rw [hxe]
    exact over_pre hz3 _ _ _ _
  rw [way_ends hp.1 hp.2 he]
  dsimp only
  rw [hz]
  constructor
  · rintro (h | h)
    · have hl := he.leafOf h
      have hm : mapAt s r x.page = some (leafMap (eOf s x.page t (3 - d)) ((3 - d : Nat) : Int) x.page) := by rw [mapAt_ends hp he, if_pos hl]
      obtain ⟨h1, h2⟩ := hw.self hp hm
      rw [← hL.same _ hp] at hm
      exact Bk.bad_find (by rw [hm]; rfl)
    · have hz1 : 3 - d < z := by omega
      obtain ⟨u, hu⟩ := tabD_some_mono he.tab (show 3 - z + 1 ≤ d by omega)
      obtain ⟨q, hq, hpre, hqm⟩ := hw.some_map (z - 1) (3 - z) (by omega) hp hu
      rw [show 3 - (3 - z) = z by omega] at hpre
      cases hm : mapAt s r q with
      | none => exact absurd hm hqm
      | some m =>
        obtain ⟨h1, h2⟩ := hw.self hq hm
        rw [← hL.same _ hq] at hm
        have hmem := (Bk.find_mem hm).1
        have : meet m x = true := meet_of h2 hx h1 (by rw [hov]; exact decide_eq_true hpre)
        exact List.any_eq_true.2 ⟨m, hmem, this⟩
  · intro hb
    obtain ⟨m, hm, hmeet⟩ := List.any_eq_true.1 hb
    have hmo := hL.ok.chk _ hm
    have hma := hL.mem hm
    apply Classical.byContradiction
    intro hn
    rw [not_or] at hn
    have ht : (eOf s x.page t (3 - d)).there = false := by simpa using hn.1
    have hzl : z ≤ 3 - d := by omega
    unfold meet at hmeet
    rcases Bool.or_eq_true_iff.1 hmeet with h | h
    · have := Wf.overMap hw hmo.inP hp hma h hw
      rw [mapAt_ends hp he, (he.not ht).1] at this
      cases this
    · rw [hov] at h
      have hpre := div_up hzl (of_decide_eq_true h)
      obtain ⟨hs, hse⟩ := he.same hp hmo.inP hpre
      rw [mapAt_ends hmo.inP hs, hse, (he.not ht).1] at hma
      cases hma
theorem ins_code (hw : Wf s r gone (fun _ => False)) (hL : Lk s r L) (x : Mp) : (insC s r x = 6 ∧ check x = 0 ∧ Bk.bad L x = false ∧ s.frees.length < 3) ∨ insC s r x = Bk.addC L x := by
  unfold insC Bk.addC
  by_cases hc : check x = 0
  · have hx := mapOk_of hc
    have hp := hx.inP
    have hwc := (wayE_map hw hp).1
    have hb := there_bad hw hL hx
    have hcn : ¬ (check x ≠ 0) := by omega
    have hwn : ¬ ((way s r x.page).code ≠ 0) := by rw [hwc]; simp
    rw [if_neg hcn, if_neg hwn, if_neg hcn]
    by_cases h : (way s r x.page).e.there = true ∨ (way s r x.page).lev < x.size
    · rw [if_pos h, if_pos (hb.1 h)]
      exact .inr rfl
    · rw [if_neg h]
      have hbf : Bk.bad L x = false := by
        cases hbb : Bk.bad L x with
        | false => rfl
        | true => exact absurd (hb.2 hbb) h
      by_cases hf : (s.frees.length : Int) < (way s r x.page).lev - x.size
      · rw [if_pos hf]
        refine .inl ⟨rfl, hc, hbf, ?_⟩
        obtain ⟨d, t, he⟩ := hw.ends _ hp
        rw [way_ends hp.1 hp.2 he] at hf
        dsimp only at hf
        have h0 : 0 ≤ x.size := by rcases hx.size with ⟨a, _⟩ | ⟨a, _⟩ | ⟨a, _⟩ <;> omega
        by_cases hd : d = 0
        · subst hd
          by_cases h3 : s.frees.length < 3
          · exact h3
          · exfalso
            rcases hx.size with ⟨a, _⟩ | ⟨a, _⟩ | ⟨a, _⟩ <;> omega
        · omega
      · rw [if_neg hf, if_neg (by rw [hbf]; simp)]
        exact .inr rfl
  · rw [if_pos hc, if_pos hc]
    exact .inr rfl
/-- Insert. -/
theorem ins_ok (hw : Wf s r gone (fun _ => False)) (hi : s.Inv) (hn : s.n ≤ 128) (x : Mp) :
    Wf (insS s r x) r gone (fun _ => False) ∧ (insS s r x).Inv ∧ (insS s r x).n = s.n ∧
    ∀ q, InP q → mapAt (insS s r x) r q = (if insC s r x = 0 ∧ over x q = true then some x else mapAt s r q) ∧
      (mapAt s r q ≠ none → way (insS s r x) r q = way s r q) ∧
      (insC s r x = 0 ∧ over x q = true → mapAt s r q = none ∧ (way (insS s r x) r q).e = leafE x) := by
  unfold insS
  by_cases hc : insC s r x = 0
  · rw [if_pos hc]
    have hc0 := hc
    unfold insC at hc0
    by_cases hk : check x = 0
    · have hx := mapOk_of hk
      have hp := hx.inP
      have hwc := (wayE_map hw hp).1
      rw [if_neg (by omega), if_neg (by rw [hwc]; simp)] at hc0
      by_cases h : (way s r x.page).e.there = true ∨ (way s r x.page).lev < x.size
      · rw [if_pos h] at hc0; cases hc0
      rw [if_neg h] at hc0
      by_cases hf : (s.frees.length : Int) < (way s r x.page).lev - x.size
      · rw [if_pos hf] at hc0; cases hc0
      rw [not_or] at h
      obtain ⟨d, t, he⟩ := hw.ends _ hp
      have hle := he.le
      rw [way_ends hp.1 hp.2 he] at h hf ⊢
      dsimp only at h hf ⊢
      rw [tabsD_last he.tab]
      obtain ⟨z, hz, hz3⟩ : ∃ z : Nat, x.size = z ∧ z < 3 := by
        rcases hx.size with ⟨a, _⟩ | ⟨a, _⟩ | ⟨a, _⟩
        · exact ⟨0, a, by omega⟩
        · exact ⟨1, a, by omega⟩
        · exact ⟨2, a, by omega⟩
      have hsp : span x.size = pow8 z := by rw [hz]; exact span_pow hz3
      have h8 := pow8_pos z
      have hal : x.page / pow8 z * pow8 z = x.page := by have := Int.mul_ediv_add_emod x.page (pow8 z); have h2 := hx.al; rw [hsp] at h2; rw [Int.mul_comm]; omega
      have hxe : x = ⟨x.page / pow8 z * pow8 z, z, x.frame, x.rights⟩ := by rw [hal, ← hz]
      have hov : ∀ q, over x q = decide (q / pow8 z = x.page / pow8 z) := fun q => by
        conv => lhs; rw [hxe]
        exact over_pre hz3 _ _ _ _
      have hfa : entFault (leafE x) z = 0 := by
        refine entFault_ok rfl ⟨by omega, by omega, hx.r0, hx.r7, hx.f0, hx.f1, fun _ => ⟨by omega, ?_⟩, fun h => by cases h⟩
        have := hx.fa
        rw [hz] at this
        exact this
      obtain ⟨k1, k2, k3⟩ := dec_enc hfa
      have hrg : 0 ≤ encW (leafE x) z ∧ encW (leafE x) z < 18446744073709551616 := by
        have := wordE_ne (entOk_of hfa rfl)
        unfold encW
        rw [if_pos ⟨hfa, rfl⟩]
        omega
      have ht : (eOf s x.page t (3 - d)).there = false := by simpa using h.1
      rw [hz] at h hf ⊢
      rw [Int.toNat_natCast]
      obtain ⟨n, hnn⟩ : ∃ n : Nat, ((3 - d : Nat) : Int) - z = n := ⟨3 - d - z, by omega⟩
      rw [hnn, Int.toNat_natCast]
      obtain ⟨i1, i2, i3, i4, i5⟩ := chain_ok (p := x.page) (lw := encW (leafE x) z) (sz := z) hp hz3 k1 (by rw [k2]; rfl) hrg n d t s r gone (fun _ => False) (by omega) hi hn (by omega) hw (fun _ h => h.elim) he ht
      refine ⟨i1, i2, i3, fun q hq => ?_⟩
      have := i5 q hq
      by_cases hpre : q / pow8 z = x.page / pow8 z
      · rw [if_pos hpre, k2] at this
        have ho : over x q = true := by rw [hov]; exact decide_eq_true hpre
        have hlm : leafMap (leafE x) z q = x := by
          rw [leafMap_eq hq hfa rfl (span_pow hz3), hpre]
          exact hxe.symm
        have hnone : mapAt s r q = none := by
          obtain ⟨hs, hse⟩ := he.same hp hq (div_up (show z ≤ 3 - d by omega) hpre)
          rw [mapAt_ends hq hs, hse, (he.not ht).1]
          rfl
        refine ⟨?_, fun hne => absurd hnone hne, fun _ => ⟨hnone, this.2⟩⟩
        rw [this.1, hlm, if_pos ⟨hc, ho⟩]
      · rw [if_neg hpre] at this
        have ho : ¬ over x q = true := by rw [hov]; simpa using hpre
        refine ⟨?_, this.2, fun h => absurd h.2 ho⟩
        rw [this.1, if_neg (fun h => ho h.2)]
    · rw [if_pos hk] at hc0
      exact absurd hc0 hk
  · rw [if_neg hc]
    exact ⟨hw, hi, rfl, fun q hq => ⟨by rw [if_neg (fun h => hc h.1)], fun _ => rfl, fun h => absurd h.1 hc⟩⟩
end
end Go.Proofs.Ytmfheghbgihdmaa
namespace Go.Proofs.Ytmfheghbgihdmaa
open Go.RowKit
structure Ln where
  m : Mp
  dirty : Bool
  deriving DecidableEq
def Ln.cells (x : Ln) : List Value := [(Value.int .i64) x.m.page, (Value.int .i64) x.m.size, (Value.int .i64) x.m.frame, (Value.int .i64) x.m.rights, Value.bool x.dirty]
/-- Cells of many lines, one behind the other. -/
def lcells (l : List Ln) : List Value := l.flatMap Ln.cells
theorem lcells_len (l : List Ln) : (lcells l).length = l.length * 5 := by
  induction l with
  | nil => rfl
  | cons x l ih =>
    show (x.cells ++ lcells l).length = _
    rw [List.length_append, ih]
    simp [Ln.cells]
    omega
theorem lcells_append (a b : List Ln) : lcells (a ++ b) = lcells a ++ lcells b := by simp [lcells]
namespace Tl
def drop (l : List Ln) (m : Mp) : List Ln := l.filter fun x => !meet x.m m
def room (l : List Ln) : List Ln := if l.length = 6 then l.tail else l
def put (l : List Ln) (x : Ln) : List Ln := if check x.m = 0 then room (drop l x.m) ++ [x] else l
def evict (l : List Ln) : List Ln := l.tail
def find (l : List Ln) (p : Int) : Option Ln := l.find? fun x => over x.m p
/-- What a core keeps: mappings that may be, no two of which meet, and not too many. -/
structure Ok (l : List Ln) : Prop where
  len : l.length ≤ 6
  chk : ∀ x ∈ l, check x.m = 0
  apart : l.Pairwise fun a b => meet a.m b.m = false
theorem Ok.nil : Ok [] := ⟨by simp, fun x h => (by cases h), List.Pairwise.nil⟩
theorem Ok.sub {l k : List Ln} (h : Ok l) (s : k.Sublist l) : Ok k :=
  ⟨Nat.le_trans s.length_le h.len, fun x hx => h.chk x (s.subset hx), h.apart.sublist s⟩
theorem Ok.drop {l : List Ln} (h : Ok l) (m : Mp) : Ok (drop l m) := h.sub List.filter_sublist
theorem Ok.evict {l : List Ln} (h : Ok l) : Ok (evict l) := h.sub (List.tail_sublist l)
theorem drop_apart (l : List Ln) (m : Mp) : ∀ x ∈ drop l m, meet x.m m = false := fun x hx => by
  have := (List.mem_filter.1 hx).2
  simpa using this
theorem room_sub (l : List Ln) : (room l).Sublist l := by
  unfold room
  split
  · exact List.tail_sublist l
  · exact List.Sublist.refl l
theorem room_len {l : List Ln} (h : l.length ≤ 6) : (room l).length ≤ 5 := by
  unfold room
  split
  · simp; omega
  · omega
theorem Ok.put {l : List Ln} (h : Ok l) (x : Ln) : Ok (put l x) := by
  unfold Tl.put
  split
  · rename_i hc
    have hd := h.drop x.m
    have hr := hd.sub (room_sub _)
    refine ⟨?_, fun y hy => ?_, ?_⟩
    · have := room_len hd.len
      simp
      omega
    · rcases List.mem_append.1 hy with hy | hy
      · exact hr.chk y hy
      · rw [List.mem_singleton.1 hy]
        exact hc
    · rw [List.pairwise_append]
      refine ⟨hr.apart, List.pairwise_singleton _ _, fun a ha b hb => ?_⟩
      rw [List.mem_singleton.1 hb]
      exact drop_apart l x.m a ((room_sub _).subset ha)
  · exact h
/-- A line that was put, with what was put behind it. -/
def At (l : List Ln) (x : Ln) (n : Nat) : Prop := ∃ a b, l = a ++ x :: b ∧ b.length ≤ n
theorem At.put (l : List Ln) {x : Ln} (h : check x.m = 0) : At (put l x) x 0 := ⟨_, [], by unfold Tl.put; rw [if_pos h], Nat.le_refl _⟩
theorem At.drop {l : List Ln} {x : Ln} {n : Nat} (h : At l x n) {m : Mp} (hm : meet x.m m = false) : At (drop l m) x n := by
  obtain ⟨a, b, rfl, hb⟩ := h
  refine ⟨Tl.drop a m, Tl.drop b m, ?_, Nat.le_trans (List.length_filter_le _ _) hb⟩
  unfold Tl.drop
  rw [List.filter_append, List.filter_cons]
  simp [hm]
theorem At.room {l : List Ln} {x : Ln} {n : Nat} (h : At l x n) (hn : n < 5) : At (room l) x n := by
  obtain ⟨a, b, rfl, hb⟩ := h
  unfold Tl.room
  split
  · rename_i hl
    cases a with
    | nil => simp at hl; omega
    | cons y a => exact ⟨a, b, rfl, hb⟩
  · exact ⟨a, b, rfl, hb⟩
/-- Of lines that are apart, the one that has a page is found. -/
theorem At.find {l : List Ln} {x : Ln} {n : Nat} {p : Int} (h : At l x n) (hp : ∀ y ∈ l, y ≠ x → over y.m p = false) (ho : over x.m p = true) : find l p = some x := by
  unfold Tl.find
  obtain ⟨a, b, rfl, _⟩ := h
  rw [List.find?_append]
  cases hf : a.find? fun x => over x.m p with
  | none => simp [ho]
  | some y =>
    have h1 := List.find?_some hf
    have h2 := List.mem_of_find?_eq_some hf
    by_cases e : y = x
    · rw [e]; rfl
    · have := hp y (List.mem_append_left _ h2) e
      rw [this] at h1
      cases h1
end Tl
end Go.Proofs.Ytmfheghbgihdmaa
namespace Go.Proofs.Ytmfheghbgihdmaa
open Go.RowKit
structure Ck where
  on : Bool
  a : Ac
  t : Int
  level : Int
  mark : Bool
  w : Int
/-- What a step tells. -/
structure Rs where
  fin : Bool
  an : An
  ln : Ln
def Rs.zero : Rs := ⟨false, An.zero, ⟨Mp.zero, false⟩⟩
def Ck.zero : Ck := ⟨false, Ac.zero, 0, 0, false, 0⟩
def Ck.idle (c : Ck) : Ck := { c with on := false, a := Ac.zero, mark := false }
def Ck.again (c : Ck) (root : Int) : Ck := if c.on = true then { c with t := root, level := 3, mark := false } else c
def Ck.begin (c : Ck) (root : Int) (a : Ac) : Ck := { c with on := true, a := a, t := root, level := 3, mark := false }
def readyE (e : En) (a : Ac) : Bool := e.used && (e.dirty || a.kind != 1)
def markE (e : En) (a : Ac) : En := { e with used := true, dirty := e.dirty || a.kind == 1 }
structure Sp where
  c : Ck
  s : Ms
  r : Rs
  code : Int
/-- The word that a step reads. -/
def Ck.word (c : Ck) (s : Ms) : Int := wordV s c.t (index c.a.page c.level)
def Ck.leafEnd (c : Ck) (s : Ms) (e : En) : Sp :=
  ⟨c.idle, s, ⟨true, answer (leafMap e c.level c.a.page) c.a, ⟨leafMap e c.level c.a.page, e.dirty⟩⟩, 0⟩
def Ck.endWith (c : Ck) (s : Ms) (f : Int) : Sp := ⟨c.idle, s, ⟨true, ⟨f, 0, 0⟩, ⟨Mp.zero, false⟩⟩, 0⟩
/-- A step. -/
def stepC (s : Ms) (root : Int) (c : Ck) : Sp :=
  if c.on = false then ⟨c, s, Rs.zero, 9⟩
  else if s.has c.t = false then ⟨c, s, Rs.zero, 12⟩
  else if c.mark = true ∧ c.word s ≠ c.w then ⟨c.again root, s, Rs.zero, 0⟩
  else if decC (c.word s) c.level ≠ 0 then ⟨c, s, Rs.zero, decC (c.word s) c.level⟩
  else if (decE (c.word s) c.level).there = false then c.endWith s 1
  else if (decE (c.word s) c.level).leaf = false then ⟨{ c with t := (decE (c.word s) c.level).frame, level := c.level - 1 }, s, Rs.zero, 0⟩
  else if may (decE (c.word s) c.level).rights c.a = false then c.endWith s 2
  else if c.mark = true then
    c.leafEnd (s.setW c.t.toNat (index c.a.page c.level).toNat (encW (markE (decE (c.word s) c.level) c.a) c.level)) (markE (decE (c.word s) c.level) c.a)
  else if readyE (decE (c.word s) c.level) c.a = true then c.leafEnd s (decE (c.word s) c.level)
  else ⟨{ c with mark := true, w := c.word s }, s, Rs.zero, 0⟩
/-- Where a walk may be. -/
structure Ck.Ok (c : Ck) : Prop where
  acc : c.on = true → checkAccess c.a = 0
  l0 : c.on = true → 0 ≤ c.level
  l3 : c.on = true → c.level ≤ 3
  off : c.on = false → c.a = Ac.zero ∧ c.mark = false
  dec : c.mark = true → decC c.w c.level = 0
  leaf : c.mark = true → (decE c.w c.level).there = true ∧ (decE c.w c.level).leaf = true
  may : c.mark = true → may (decE c.w c.level).rights c.a = true
  need : c.mark = true → readyE (decE c.w c.level) c.a = false
theorem Ck.Ok.zero : Ck.zero.Ok := ⟨fun h => (by cases h), fun h => (by cases h), fun h => (by cases h), fun _ => ⟨rfl, rfl⟩, fun h => (by cases h), fun h => (by cases h), fun h => (by cases h), fun h => (by cases h)⟩
theorem Ck.Ok.idle {c : Ck} : c.idle.Ok := ⟨fun h => (by cases h), fun h => (by cases h), fun h => (by cases h), fun _ => ⟨rfl, rfl⟩, fun h => (by cases h), fun h => (by cases h), fun h => (by cases h), fun h => (by cases h)⟩
theorem Ck.Ok.begin {c : Ck} (root : Int) {a : Ac} (h : checkAccess a = 0) : (c.begin root a).Ok :=
  ⟨fun _ => h, fun _ => (by show (0 : Int) ≤ 3; omega), fun _ => (by show (3 : Int) ≤ 3; omega), fun h => (by cases h), fun h => (by cases h), fun h => (by cases h), fun h => (by cases h), fun h => (by cases h)⟩
theorem Ck.Ok.again {c : Ck} (h : c.Ok) (root : Int) : (c.again root).Ok := by
  unfold Ck.again
  split
  · rename_i hon
    exact ⟨fun _ => h.acc hon, fun _ => (by show (0 : Int) ≤ 3; omega), fun _ => (by show (3 : Int) ≤ 3; omega), fun h => (by rw [hon] at h; cases h), fun h => (by cases h), fun h => (by cases h), fun h => (by cases h), fun h => (by cases h)⟩
  · exact h
theorem Ck.Ok.step {c : Ck} (h : c.Ok) (s : Ms) (root : Int) : (stepC s root c).c.Ok := by
  unfold stepC
  split
  · exact h
  rename_i hon
  have hon : c.on = true := by simpa using hon
  split
  · exact h
  split
  · exact h.again root
  rename_i hm
  split
  · exact h
  rename_i hd
  have hd : decC (c.word s) c.level = 0 := by simpa using hd
  split
  · exact Ck.Ok.idle
  rename_i ht
  split
  · rename_i hl
    have hmk : c.mark = false := by
      cases hmk : c.mark with
      | false => rfl
      | true =>
        have e : c.word s = c.w := Decidable.byContradiction fun e => hm ⟨hmk, e⟩
        have := (h.leaf hmk).2
        rw [← e, hl] at this
        cases this
    have h0 := h.l0 hon
    have hpos : 0 < c.level := by
      refine Decidable.byContradiction fun hn => ?_
      have e0 : c.level = 0 := by omega
      rw [e0] at hd ht hl
      rcases dec0_leaf hd with hx | hx
      · exact ht hx
      · rw [hl] at hx; cases hx
    have h3 := h.l3 hon
    exact ⟨fun _ => h.acc hon, fun _ => (by show 0 ≤ c.level - 1; omega), fun _ => (by show c.level - 1 ≤ 3; omega), fun hx => (by have : c.on = false := hx; rw [hon] at this; cases this), fun hx => (by have : c.mark = true := hx; rw [hmk] at this; cases this),
      fun hx => (by have : c.mark = true := hx; rw [hmk] at this; cases this), fun hx => (by have : c.mark = true := hx; rw [hmk] at this; cases this), fun hx => (by have : c.mark = true := hx; rw [hmk] at this; cases this)⟩
  rename_i hl
  split
  · exact Ck.Ok.idle
  rename_i hmay
  split
  · exact Ck.Ok.idle
  split
  · exact Ck.Ok.idle
  rename_i hr
  exact ⟨h.acc, h.l0, h.l3, fun hx => (by have : c.on = false := hx; rw [hon] at this; cases this), fun _ => hd, fun _ => ⟨by simpa using ht, by simpa using hl⟩, fun _ => (by simpa using hmay), fun _ => (by simpa using hr)⟩
/-- A mark is needed just if the leaf is not what it must be. -/
theorem mark_ready (e : En) (a : Ac) : markE e a = e ↔ readyE e a = true := by
  obtain ⟨t, l, r, u, d, f⟩ := e
  unfold markE readyE
  constructor
  · intro h
    injection h with _ _ _ h4 h5 _
    cases u <;> cases d <;> simp_all
  · intro h
    cases u <;> cases d <;> simp_all
end Go.Proofs.Ytmfheghbgihdmaa
namespace Go.Proofs.Ytmfheghbgihdmaa
open Go.RowKit
section
variable {s : Ms} {r : Int} {gone : List Int} {X : Int → Prop} {L : List Mp}
theorem stop_zero {L : Nat} (h : L ≤ 3) : stopW 0 L := ⟨(dec_zero h).1, by rw [(dec_zero h).2]; simp [En.zero]⟩
/-- A word at the end of a way becomes none, or a leaf: what ways tell then. -/
theorem put_map (hw : Wf s r gone X) {p t v : Int} {d : Nat} (hp : InP p) (he : Ends s r p d t) (hv : stopW v (3 - d)) : ∀ q, InP q →
    if q / pow8 (3 - d) = p / pow8 (3 - d) then way (putAt s p t d v) r q = ⟨0, tabsD s r q (d + 1), ((3 - d : Nat) : Int), decE v (3 - d : Nat)⟩ ∧ way s r q = ⟨0, tabsD s r q (d + 1), ((3 - d : Nat) : Int), eOf s p t (3 - d)⟩
    else way (putAt s p t d v) r q = way s r q := by
  intro q hq
  obtain ⟨e, u, hu⟩ := hw.ends q hq
  obtain ⟨hu', hE⟩ := put_ends hw hp he.le he.tab he.no hv hq hu
  have htabs : tabsD (putAt s p t d v) r q (e + 1) = tabsD s r q (e + 1) := by
    unfold tabsD
    refine List.map_congr_left fun x hx => ?_
    rw [put_tab hw hp he.le he.tab he.no hv hq x (by have := List.mem_range.1 hx; have := hu.le; omega)]
  by_cases hpre : q / pow8 (3 - d) = p / pow8 (3 - d)
  · rw [if_pos hpre]
    obtain ⟨hs, hse⟩ := he.same hp hq hpre
    obtain ⟨rfl, rfl⟩ := hs.unique hu
    rw [if_pos ⟨rfl, hpre⟩] at hE
    rw [way_ends hq.1 hq.2 hu', way_ends hq.1 hq.2 hu, hE, hse, htabs]
    exact ⟨rfl, rfl⟩
  · rw [if_neg hpre]
    rw [if_neg (fun h => hpre h.2)] at hE
    rw [way_ends hq.1 hq.2 hu', way_ends hq.1 hq.2 hu, hE, htabs]
theorem mapAt_way {s s' : Ms} {r q : Int} (h : way s' r q = way s r q) : mapAt s' r q = mapAt s r q := by unfold mapAt; rw [h]
theorem find_zero {p : Int} (h : findC s r p = 0) : InP p := by
  apply Classical.byContradiction
  intro hn
  have := find_out (s := s) (r := r) hn
  unfold findC at h
  rw [this] at h
  cases h
/-- The mapping that is found, where it stands. -/
theorem Wf.found (hw : Wf s r gone X) {p : Int} (h : findC s r p = 0) : ∃ d t, Ends s r p d t ∧ (eOf s p t (3 - d)).leaf = true ∧ way s r p = ⟨0, tabsD s r p (d + 1), ((3 - d : Nat) : Int), eOf s p t (3 - d)⟩ ∧ mapAt s r p = some (findM s r p) ∧
    3 - d < 3 ∧ ∀ q, over (findM s r p) q = decide (q / pow8 (3 - d) = p / pow8 (3 - d)) := by
  have hp := find_zero h
  obtain ⟨d, t, he⟩ := hw.ends p hp
  have hwe := way_ends hp.1 hp.2 he
  have hf := hw.find hp
  rw [h] at hf
  have hm : mapAt s r p = some (findM s r p) := by
    cases hh : mapAt s r p with
    | none => rw [hh] at hf; cases hf.1
    | some m => rw [hf.2, hh]; rfl
  have hl : (eOf s p t (3 - d)).leaf = true := by
    rw [mapAt_ends hp he] at hm
    split at hm
    · assumption
    · cases hm
  have hfm : findM s r p = leafMap (eOf s p t (3 - d)) ((3 - d : Nat) : Int) p := by
    rw [mapAt_ends hp he, if_pos hl] at hm
    injection hm with hm
    exact hm.symm
  obtain ⟨h3, _, ho⟩ := he.map hp hl
  refine ⟨d, t, he, hl, hwe, hm, h3, fun q => ?_⟩
  rw [hfm]
  exact ho q
/-- Remove. -/
theorem rem_ok (hw : Wf s r gone (fun _ => False)) (hi : s.Inv) {p : Int} (hf : findC s r p = 0) :
    Wf (remS s r p) r ((remG s r p).reverse ++ gone) (fun _ => False) ∧ (remS s r p).Inv ∧ (remS s r p).n = s.n ∧ (remS s r p).frees = s.frees ∧ (∀ u, (remS s r p).tk u = s.tk u) ∧
    ∀ q, InP q → mapAt (remS s r p) r q = (if over (findM s r p) q = true then none else mapAt s r q) ∧ (over (findM s r p) q = false → mapAt s r q ≠ none → way (remS s r p) r q = way s r q) := by
  have hp := find_zero hf
  obtain ⟨d, t, he, hl, hwe, hm, h3, ho⟩ := hw.found hf
  have hle := he.le
  unfold remS remG
  rw [if_pos hf, if_pos hf, hwe]
  dsimp only
  rw [tabsD_len, Nat.add_sub_cancel]
  have hv := stop_zero (show 3 - d ≤ 3 by omega)
  have hP := hw.put hp he.le he.tab he.no hv
  have hX : Wf (putAt s p t d 0) r gone (fun u => u = t) := hP.mono (by
    rintro u (⟨a, _⟩ | a)
    · exact a.elim
    · exact a.2)
  have hmp := put_map hw hp he hv
  have hmap : ∀ q, InP q → mapAt (putAt s p t d 0) r q = (if over (findM s r p) q = true then none else mapAt s r q) ∧ (over (findM s r p) q = false → mapAt s r q ≠ none → way (putAt s p t d 0) r q = way s r q) := fun q hq => by
    have := hmp q hq
    rw [ho q]
    split at this
    · rename_i hpre
      rw [decide_eq_true hpre, if_pos rfl]
      refine ⟨?_, fun h => by cases h⟩
      unfold mapAt
      rw [this.1, (dec_zero (show 3 - d ≤ 3 by omega)).2]
      rfl
    · rename_i hpre
      rw [decide_eq_false hpre, if_neg (by simp)]
      exact ⟨mapAt_way this, fun _ _ => this⟩
  have hPi : (putAt s p t d 0).Inv := hi.setW _ _ (by omega)
  cases d with
  | zero =>
    have htr : t = r := by have := he.tab; injection this with this; exact this.symm
    have e0 : (tabsD s r p 1).getD 0 0 = t := tabsD_get he.tab (by omega)
    have es : cutR p (tabsD s r p (0 + 1)) 0 s = (putAt s p t 0 0, []) := by unfold cutR; rw [e0]
    rw [es]
    subst htr
    exact ⟨hX.no_root, hPi, rfl, rfl, fun _ => rfl, hmap⟩
  | succ k =>
    have e0 : (tabsD s r p (k + 1 + 1)).getD (k + 1) 0 = t := tabsD_get he.tab (by omega)
    have ez : s.setW ((tabsD s r p (k + 1 + 1)).getD (k + 1) 0).toNat (index p (3 - (k + 1) : Nat)).toNat 0 = putAt s p t (k + 1) 0 := by rw [e0]
    unfold cutR
    rw [ez, e0]
    by_cases hz : allZ (putAt s p t (k + 1) 0) t = true
    · rw [if_pos hz]
      have htab : ∀ j, j ≤ k + 1 → tabD (putAt s p t (k + 1) 0) r p j = tabD s r p j := fun j hj => put_tab hw hp he.le he.tab he.no hv hp j (by omega)
      obtain ⟨i1, i2, i3, i4, i5, i6⟩ := cutR_ok hp k (putAt s p t (k + 1) 0) r gone t (tabsD s r p (k + 1 + 1)) (by omega) hPi hX (by rw [htab _ (Nat.le_refl _)]; exact he.tab) hz (fun j hj => by
        rw [htab j (by omega)]
        obtain ⟨u, hu⟩ := tabD_some_mono he.tab (show j ≤ k + 1 by omega)
        rw [tabsD_get hu (by omega), hu]
        rfl)
      refine ⟨?_, i2, i3, i4, i5, fun q hq => ?_⟩
      · dsimp only
        rw [List.reverse_cons, List.append_assoc]
        exact i1
      · have a := i6 q hq
        have b := hmap q hq
        refine ⟨a.1.trans b.1, fun h1 h2 => ?_⟩
        have hb := b.2 h1 h2
        have : mapAt (putAt s p t (k + 1) 0) r q ≠ none := by rw [mapAt_way hb]; exact h2
        exact (a.2 this).trans hb
    · rw [if_neg hz]
      exact ⟨hX.no_full (by simpa using hz), hPi, rfl, rfl, fun _ => rfl, hmap⟩
/-- A leaf becomes another one. -/
theorem leaf_ok (hw : Wf s r gone (fun _ => False)) (hi : s.Inv) {p t : Int} {d : Nat} (hp : InP p) (he : Ends s r p d t) {e' : En} (hf : entFault e' (3 - d : Nat) = 0) (hl' : e'.leaf = true) :
    Wf (putAt s p t d (encW e' (3 - d : Nat))) r gone (fun _ => False) ∧ (putAt s p t d (encW e' (3 - d : Nat))).Inv ∧
    ∀ q, InP q → if q / pow8 (3 - d) = p / pow8 (3 - d) then way (putAt s p t d (encW e' (3 - d : Nat))) r q = ⟨0, tabsD s r q (d + 1), ((3 - d : Nat) : Int), e'⟩ ∧ way s r q = ⟨0, tabsD s r q (d + 1), ((3 - d : Nat) : Int), eOf s p t (3 - d)⟩
      else way (putAt s p t d (encW e' (3 - d : Nat))) r q = way s r q := by
  have ht : e'.there = true := by
    cases h : e'.there with
    | true => rfl
    | false => rw [entFault_not hf h] at hl'; cases hl'
  obtain ⟨k1, k2, k3⟩ := dec_enc hf
  have hv : stopW (encW e' (3 - d : Nat)) (3 - d) := ⟨k1, by rw [k2, hl']; simp⟩
  have hne : encW e' (3 - d : Nat) ≠ 0 := fun h => by rw [k3.1 h] at ht; cases ht
  have hrg : 0 ≤ encW e' (3 - d : Nat) ∧ encW e' (3 - d : Nat) < 18446744073709551616 := by
    have := wordE_ne (entOk_of hf ht)
    unfold encW
    rw [if_pos ⟨hf, ht⟩]
    omega
  refine ⟨(hw.put hp he.le he.tab he.no hv).mono ?_, hi.setW _ _ hrg, fun q hq => ?_⟩
  · rintro u (⟨a, _⟩ | a)
    · exact a
    · exact hne a.1
  · have := put_map hw hp he hv q hq
    rw [k2] at this
    exact this
theorem rights_ok {e : En} {l ri : Int} (hf : entFault e l = 0) (hl : e.leaf = true) (h0 : 0 ≤ ri) (h7 : ri ≤ 7) : entFault { e with rights := ri } l = 0 := by
  have ht : e.there = true := by
    cases h : e.there with
    | true => rfl
    | false => rw [entFault_not hf h] at hl; cases hl
  have hk := entOk_of hf ht
  exact entFault_ok ht ⟨hk.l0, hk.l4, h0, h7, hk.f0, hk.f1, hk.leaf, fun h => by rw [hl] at h; cases h⟩
theorem mark_ok {e : En} {l : Int} (a : Ac) (hf : entFault e l = 0) (hl : e.leaf = true) : entFault (markE e a) l = 0 ∧ (markE e a).leaf = true := by
  have ht : e.there = true := by
    cases h : e.there with
    | true => rfl
    | false => rw [entFault_not hf h] at hl; cases hl
  have hk := entOk_of hf ht
  exact ⟨entFault_ok ht ⟨hk.l0, hk.l4, hk.r0, hk.r7, hk.f0, hk.f1, hk.leaf, fun h => by have h' : e.leaf = false := h; rw [hl] at h'; cases h'⟩, hl⟩
/-- Protect. -/
theorem pr_ok (hw : Wf s r gone (fun _ => False)) (hi : s.Inv) {p ri : Int} (hf : prC s r p ri = 0) :
    Wf (prS s r p ri) r gone (fun _ => False) ∧ (prS s r p ri).Inv ∧ (prS s r p ri).n = s.n ∧ (prS s r p ri).frees = s.frees ∧ (∀ u, (prS s r p ri).tk u = s.tk u) ∧
    ∀ q, InP q → (over (findM s r p) q = true → mapAt s r q = some (findM s r p) ∧ mapAt (prS s r p ri) r q = some { findM s r p with rights := ri } ∧ (way (prS s r p ri) r q).e = { (way s r q).e with rights := ri }) ∧
      (over (findM s r p) q = false → way (prS s r p ri) r q = way s r q) := by
  have hr : 0 ≤ ri ∧ ri ≤ 7 := by
    unfold prC at hf
    split at hf
    · cases hf
    · omega
  have hf0 : findC s r p = 0 := by
    unfold prC at hf
    rw [if_neg (by omega)] at hf
    exact hf
  have hp := find_zero hf0
  obtain ⟨d, t, he, hl, hwe, hm, h3, ho⟩ := hw.found hf0
  have hef := (enc_dec he.dec).1
  have hf' : entFault { eOf s p t (3 - d) with rights := ri } (3 - d : Nat) = 0 := rights_ok hef hl hr.1 hr.2
  have es : prS s r p ri = putAt s p t d (encW { eOf s p t (3 - d) with rights := ri } (3 - d : Nat)) := by
    unfold prS
    rw [if_pos hf, hwe]
    dsimp only
    rw [tabsD_last he.tab]
  rw [es]
  obtain ⟨i1, i2, i3⟩ := leaf_ok hw hi hp he hf' hl
  refine ⟨i1, i2, rfl, rfl, fun _ => rfl, fun q hq => ⟨fun hov => ?_, fun hov => ?_⟩⟩
  · have := i3 q hq
    rw [ho q] at hov
    have hpre := of_decide_eq_true hov
    rw [if_pos hpre] at this
    have hmq : mapAt s r q = some (findM s r p) := Wf.overMap hw hp hq hm (by rw [ho q]; exact hov) hw
    refine ⟨hmq, ?_, ?_⟩
    · unfold mapAt at hmq ⊢
      rw [this.2] at hmq
      rw [this.1]
      dsimp only at hmq ⊢
      rw [if_pos hl] at hmq
      rw [if_pos hl]
      injection hmq with hmq
      rw [← hmq]
      have hef2 : entFault (eOf s p t (3 - d)) (3 - d : Nat) = 0 := hef
      rw [leafMap_eq hq hf' hl (span_pow h3), leafMap_eq hq hef2 hl (span_pow h3)]
    · rw [this.1, this.2]
  · have := i3 q hq
    rw [ho q] at hov
    rw [if_neg (of_decide_eq_false hov)] at this
    exact this
end
end Go.Proofs.Ytmfheghbgihdmaa
namespace Go.Proofs.Ytmfheghbgihdmaa
open Go.RowKit
theorem check_has {a : Ac} (h : checkAccess a = 0) : hasB a.page = true := by
  unfold checkAccess at h
  unfold hasB
  split at h
  · cases h
  · split at h
    · cases h
    · simp; omega
theorem leafMap_mark {e : En} {l p : Int} (a : Ac) (hf : entFault e l = 0) (hl : e.leaf = true) : leafMap (markE e a) l p = leafMap e l p := by
  obtain ⟨h1, h2⟩ := mark_ok a hf hl
  unfold leafMap
  rw [h1, h2, hf, hl]
  rfl
theorem leafMap_rights {e : En} {l p : Int} (hf : entFault e l = 0) (hl : e.leaf = true) (hp : hasB p = true) : (leafMap e l p).rights = e.rights := by
  have h : 0 ≤ p ∧ p < 4096 := by simpa [hasB] using hp
  unfold leafMap
  rw [if_pos ⟨hf, hl, h⟩]
theorem setW_same (s : Ms) (k i : Nat) : s.setW k i (s.wd k i) = s := by
  unfold Ms.setW
  obtain ⟨n, tk, wd, next, back⟩ := s
  dsimp only
  congr 1
  funext a b
  split
  · rename_i h; rw [h.1, h.2]
  · rfl
theorem mark_twice (e : En) (a : Ac) : readyE (markE e a) a = true := by
  obtain ⟨t, l, r, u, d, f⟩ := e
  obtain ⟨p, k, us⟩ := a
  unfold readyE markE
  dsimp only
  cases d <;> simp
  by_cases h : k = 1 <;> simp [h]
/-- The memory behind a walk that was done. -/
def sW (s : Ms) (y : Wy) (a : Ac) : Ms := s.setW (y.tabs.getLastD 0).toNat (index a.page y.lev).toNat (encW (markE y.e a) y.lev)
/-- Is it done? -/
def doneB (y : Wy) (a : Ac) : Bool := y.e.there && may y.e.rights a
def endS (s : Ms) (y : Wy) (a : Ac) : Ms := if doneB y a = true then sW s y a else s
def endR (y : Wy) (a : Ac) : Rs :=
  if y.e.there = false then ⟨true, ⟨1, 0, 0⟩, ⟨Mp.zero, false⟩⟩
  else if may y.e.rights a = false then ⟨true, ⟨2, 0, 0⟩, ⟨Mp.zero, false⟩⟩
  else ⟨true, answer (leafMap y.e y.lev a.page) a, ⟨leafMap y.e y.lev a.page, (markE y.e a).dirty⟩⟩
/-- How many steps it takes. -/
def cntW (y : Wy) (a : Ac) : Int := 4 - y.lev + (if doneB y a = true ∧ readyE y.e a = false then 1 else 0)
structure OnWay (s : Ms) (root : Int) (a : Ac) (i : Nat) (c : Ck) : Prop where
  on : c.on = true
  acc : c.a = a
  ok : c.Ok
  lev : ∃ L : Nat, c.level = L ∧ L ≤ 3 ∧ (∃ ac, way s root a.page = wayA s a.page L c.t ac) ∧ (c.mark = false → i + L = 3) ∧ (c.mark = true → i + L = 4 ∧ s.has c.t = true ∧ c.word s = c.w)
theorem OnWay.start (s : Ms) (root : Int) {a : Ac} {c : Ck} (hc : checkAccess a = 0) (hon : c.on = true) (ha : c.a = a) (ht : c.t = root) (hl : c.level = 3) (hm : c.mark = false) : OnWay s root a 0 c := by
  refine ⟨hon, ha, ⟨fun _ => (by rw [ha]; exact hc), fun _ => (by omega), fun _ => (by omega), fun h => (by rw [hon] at h; cases h), fun h => (by rw [hm] at h; cases h), fun h => (by rw [hm] at h; cases h), fun h => (by rw [hm] at h; cases h), fun h => (by rw [hm] at h; cases h)⟩, 3, by rw [hl]; rfl, Nat.le_refl _, ⟨[], ?_⟩, fun _ => rfl, fun h => (by rw [hm] at h; cases h)⟩
  unfold way
  rw [if_pos (check_has hc), ht]
theorem OnWay.few {s : Ms} {root : Int} {a : Ac} {i : Nat} {c : Ck} (h : OnWay s root a i c) : i ≤ 4 := by
  obtain ⟨L, _, _, _, h1, h2⟩ := h.lev
  cases hm : c.mark with
  | true => have := (h2 hm).1; omega
  | false => have := h1 hm; omega
/-- What a step of it comes to. -/
inductive WayStep (s : Ms) (root : Int) (a : Ac) (i : Nat) (c : Ck) (r : Sp) : Prop
  | bad (h : r.code ≠ 0) (hc : (way s root a.page).code = r.code) (hr : r.r = Rs.zero) (hs : r.s = s) (hk : r.c = c)
  | on (h : r.code = 0) (hr : r.r = Rs.zero) (hs : r.s = s) (hw : OnWay s root a (i + 1) r.c)
  | done (h : r.code = 0) (hc : (way s root a.page).code = 0) (hr : r.r = endR (way s root a.page) a) (hs : r.s = endS s (way s root a.page) a) (hi : ((i + 1 : Nat) : Int) = cntW (way s root a.page) a) (hw : r.c.on = false) (hk : r.c.Ok)
theorem OnWay.step {s : Ms} {root : Int} {a : Ac} {i : Nat} {c : Ck} (hw : OnWay s root a i c) : WayStep s root a i c (stepC s root c) := by
  obtain ⟨L, hL, hL3, ⟨ac, hway⟩, hm0, hm1⟩ := hw.lev
  have hon := hw.on
  have ha := hw.acc
  have hck := hw.ok.acc hon
  rw [ha] at hck
  have hp := check_has hck
  have hword : c.word s = wordV s c.t (index a.page L) := by unfold Ck.word; rw [ha, hL]
  have hok := hw.ok.step s root
  cases hmk : c.mark with
  | true =>
    obtain ⟨hi, hh, hcw⟩ := hm1 hmk
    have hd := hw.ok.dec hmk
    obtain ⟨hth, hlf⟩ := hw.ok.leaf hmk
    have hmay := hw.ok.may hmk
    have hnr := hw.ok.need hmk
    rw [← hcw, hword, hL] at hd hth hlf hmay hnr
    rw [ha] at hmay hnr
    have hY := wayA_end (acc := ac) hh hd (.inr hlf)
    rw [← hway] at hY
    unfold stepC at hok ⊢
    rw [if_neg (by rw [hon]; simp), if_neg (by rw [hh]; simp), if_neg (by rintro ⟨_, h⟩; exact h hcw), if_neg (by rw [hword, hL]; simp [hd]), if_neg (by rw [hword, hL, hth]; simp), if_neg (by rw [hword, hL, hlf]; simp), if_neg (by rw [hword, hL, ha, hmay]; simp), if_pos hmk] at hok ⊢
    have hf := (enc_dec hd).1
    have hdone : doneB (way s root a.page) a = true := by rw [hY]; unfold doneB; simp [hth, hmay]
    refine .done rfl (by rw [hY]) ?_ ?_ ?_ rfl hok
    · unfold Ck.leafEnd endR
      rw [hY]
      dsimp only
      rw [if_neg (by rw [hth]; simp), if_neg (by rw [hmay]; simp), ha, hL, hword, leafMap_mark a hf hlf]
    · unfold Ck.leafEnd endS
      rw [if_pos hdone]
      unfold sW
      rw [hY, ha, hL, hword]
      simp
    · unfold cntW
      rw [hdone, hY]
      dsimp only
      rw [if_pos ⟨rfl, hnr⟩]
      omega
  | false =>
    have hi := hm0 hmk
    unfold stepC at hok ⊢
    rw [if_neg (by rw [hon]; simp)] at hok ⊢
    cases hh : s.has c.t with
    | false =>
      rw [if_pos rfl]
      rw [wayA_free hh] at hway
      exact .bad (show (12 : Int) ≠ 0 by decide) (by rw [hway]; rfl) rfl rfl rfl
    | true =>
      rw [hh] at hok
      rw [if_neg (by simp), if_neg (by rintro ⟨h, _⟩; rw [hmk] at h; cases h)] at hok ⊢
      by_cases hd : decC (wordV s c.t (index a.page L)) L = 0
      · rw [if_neg (by rw [hword, hL]; simp [hd])] at hok ⊢
        have hf := (enc_dec hd).1
        cases hth : (decE (wordV s c.t (index a.page L)) L).there with
        | false =>
          rw [if_pos (by rw [hword, hL]; exact hth)] at hok ⊢
          rw [wayA_end hh hd (.inl hth)] at hway
          refine .done rfl (by rw [hway]) ?_ ?_ ?_ rfl hok
          · unfold Ck.endWith endR
            rw [hway]
            dsimp only
            rw [if_pos hth]
          · unfold Ck.endWith endS doneB
            rw [hway]
            dsimp only
            rw [hth]
            simp
          · unfold cntW doneB
            rw [hway]
            dsimp only
            rw [hth]
            simp
            omega
        | true =>
          rw [if_neg (by rw [hword, hL, hth]; simp)] at hok ⊢
          cases hlf : (decE (wordV s c.t (index a.page L)) L).leaf with
          | false =>
            rw [if_pos (by rw [hword, hL]; exact hlf)] at hok ⊢
            obtain ⟨K, hK, hY⟩ := wayA_on (acc := ac) hh hd (by rw [hth, hlf]; simp)
            subst hK
            refine .on rfl rfl rfl ⟨hon, ha, hok, K, ?_, by omega, ⟨ac ++ [c.t], ?_⟩, fun _ => by omega, fun h => by rw [show c.mark = true from h] at hmk; cases hmk⟩
            · show c.level - 1 = _
              omega
            · rw [hway, hY]
              show _ = wayA s a.page K (decE (c.word s) c.level).frame _
              rw [hword, hL]
          | true =>
            rw [if_neg (by rw [hword, hL, hlf]; simp)] at hok ⊢
            rw [wayA_end hh hd (.inr hlf)] at hway
            cases hmay : may (decE (wordV s c.t (index a.page L)) L).rights a with
            | false =>
              rw [if_pos (by rw [hword, hL, ha]; exact hmay)] at hok ⊢
              refine .done rfl (by rw [hway]) ?_ ?_ ?_ rfl hok
              · unfold Ck.endWith endR
                rw [hway]
                dsimp only
                rw [if_neg (by rw [hth]; simp), if_pos hmay]
              · unfold Ck.endWith endS doneB
                rw [hway]
                dsimp only
                rw [hth, hmay]
                simp
              · unfold cntW doneB
                rw [hway]
                dsimp only
                rw [hth, hmay]
                simp
                omega
            | true =>
              rw [if_neg (by rw [hword, hL, ha, hmay]; simp), if_neg (by rw [hmk]; simp)] at hok ⊢
              have hdone : doneB (way s root a.page) a = true := by rw [hway]; unfold doneB; simp [hth, hmay]
              cases hr : readyE (decE (wordV s c.t (index a.page L)) L) a with
              | true =>
                rw [if_pos (by rw [hword, hL, ha]; exact hr)] at hok ⊢
                have hme := (mark_ready _ a).2 hr
                refine .done rfl (by rw [hway]) ?_ ?_ ?_ rfl hok
                · unfold Ck.leafEnd endR
                  rw [hway]
                  dsimp only
                  rw [if_neg (by rw [hth]; simp), if_neg (by rw [hmay]; simp), ha, hL, hword, hme]
                · unfold Ck.leafEnd endS
                  rw [if_pos hdone]
                  unfold sW
                  rw [hway]
                  dsimp only
                  rw [hme, (enc_dec hd).2]
                  have hg : (ac ++ [c.t]).getLastD 0 = c.t := by simp
                  rw [hg]
                  exact (setW_same s _ _).symm
                · unfold cntW
                  rw [hdone, hway]
                  dsimp only
                  rw [hr]
                  simp
                  omega
              | false =>
                rw [if_neg (by rw [hword, hL, ha, hr]; simp)] at hok ⊢
                refine .on rfl rfl rfl ⟨hon, ha, hok, L, hL, hL3, ⟨ac, ?_⟩, fun h => (by cases h), fun _ => ⟨by omega, hh, rfl⟩⟩
                rw [hway]
                exact (wayA_end hh hd (.inr hlf)).symm
      · rw [if_pos (by rw [hword, hL]; exact hd)]
        rw [wayA_bad hh hd] at hway
        exact .bad (by rw [hword, hL]; exact hd) (by rw [hway, hword, hL]; rfl) rfl rfl rfl
theorem encW_u64 (e : En) (l : Int) : 0 ≤ encW e l ∧ encW e l < 18446744073709551616 := by
  unfold encW
  split
  · rename_i h
    obtain ⟨_, a, b⟩ := wordE_ne (entOk_of h.1 h.2)
    omega
  · omega
end Go.Proofs.Ytmfheghbgihdmaa
namespace Go.Proofs.Ytmfheghbgihdmaa
open Go.RowKit
theorem meet_of_over {a b : Mp} {p : Int} (ha : over a p = true) (hb : over b p = true) : meet a b = true := by
  rw [over_iff] at ha hb
  unfold meet
  rw [Bool.or_eq_true, over_iff, over_iff]
  omega
theorem meet_symm (a b : Mp) : meet a b = meet b a := Bool.or_comm _ _
namespace Tl
theorem Ok.one {l : List Ln} (h : Ok l) {x y : Ln} (hx : x ∈ l) (hy : y ∈ l) {p : Int} (ox : over x.m p = true) (oy : over y.m p = true) : x = y := by
  obtain ⟨i, hi, rfl⟩ := List.getElem_of_mem hx
  obtain ⟨j, hj, rfl⟩ := List.getElem_of_mem hy
  have hm := meet_of_over ox oy
  rcases Nat.lt_trichotomy i j with hlt | rfl | hlt
  · rw [List.pairwise_iff_getElem.1 h.apart i j hi hj hlt] at hm; cases hm
  · rfl
  · rw [meet_symm, List.pairwise_iff_getElem.1 h.apart j i hj hi hlt] at hm; cases hm
theorem Ok.find {l : List Ln} (h : Ok l) {x : Ln} {n : Nat} {p : Int} (ha : At l x n) (ho : over x.m p = true) : find l p = some x := by
  refine ha.find (fun y hy hne => ?_) ho
  have hx : x ∈ l := by
    obtain ⟨a, b, rfl, _⟩ := ha
    simp
  cases hq : over y.m p with
  | false => rfl
  | true => exact absurd (h.one hy hx hq ho) hne
/-- The document's way to look: the first line that has the page. -/
def idx (l : List Ln) (p : Int) : Int := match l.findIdx? fun x => over x.m p with | some k => (k : Int) | none => -1
theorem idx_find (l : List Ln) (p : Int) : (find l p = none ∧ idx l p = -1) ∨ ∃ (k : Nat) (h : k < l.length), idx l p = k ∧ find l p = some l[k] ∧ over l[k].m p = true := by
  unfold find idx
  cases hf : l.findIdx? fun x => over x.m p with
  | none =>
    left
    refine ⟨?_, rfl⟩
    rw [List.find?_eq_none]
    intro x hx
    have := List.findIdx?_eq_none_iff.1 hf x hx
    simpa using this
  | some k =>
    right
    obtain ⟨hk, h1, h2⟩ := List.findIdx?_eq_some_iff_getElem.1 hf
    refine ⟨k, hk, rfl, ?_, h1⟩
    rw [List.find?_eq_some_iff_getElem]
    exact ⟨h1, k, hk, rfl, fun j hj => by have := h2 j hj; simpa using this⟩
end Tl
end Go.Proofs.Ytmfheghbgihdmaa
namespace Go.Proofs.Ytmfheghbgihdmaa
open Go.RowKit
/-- What is kept answers. -/
def hitA (l : List Ln) (a : Ac) : Option An :=
  match Tl.find l a.page with
  | some x => if x.dirty = true ∨ a.kind ≠ 1 ∨ may x.m.rights a = false then some (answer x.m a) else none
  | none => none
/-- What Begin tells. -/
structure Bq where
  an : An
  fin : Bool
  code : Int
  c : Ck
def coreB (l : List Ln) (root : Int) (k : Ck) (a : Ac) : Bq :=
  if checkAccess a ≠ 0 then ⟨An.zero, false, checkAccess a, k⟩
  else if k.on = true then ⟨An.zero, false, 8, k⟩
  else match hitA l a with
    | some r => ⟨r, true, 0, k⟩
    | none => ⟨An.zero, false, 0, k.begin root a⟩
theorem coreB_ok {l : List Ln} {root : Int} {k : Ck} {a : Ac} (h : k.Ok) : (coreB l root k a).c.Ok := by
  unfold coreB
  split; · exact h
  rename_i hc
  split; · exact h
  split; · exact h
  exact Ck.Ok.begin root (by simpa using hc)
/-- What a step of the program's core keeps. -/
def keepL (l : List Ln) (r : Rs) : List Ln := if r.fin = true ∧ r.an.fin = 0 then Tl.put l r.ln else l
theorem stepC_bad {s : Ms} {root : Int} {c : Ck} (h : (stepC s root c).code ≠ 0) : (stepC s root c).r = Rs.zero := by
  unfold stepC at h ⊢
  split; · rfl
  rename_i h1; rw [if_neg h1] at h
  split; · rfl
  rename_i h2; rw [if_neg h2] at h
  split; · rfl
  rename_i h3; rw [if_neg h3] at h
  split; · rfl
  rename_i h4; rw [if_neg h4] at h
  split
  · rename_i h5; rw [if_pos h5] at h; exact absurd rfl h
  rename_i h5; rw [if_neg h5] at h
  split
  · rfl
  rename_i h6; rw [if_neg h6] at h
  split
  · rename_i h7; rw [if_pos h7] at h; exact absurd rfl h
  rename_i h7; rw [if_neg h7] at h
  split
  · rename_i h8; rw [if_pos h8] at h; exact absurd rfl h
  rename_i h8; rw [if_neg h8] at h
  split
  · rename_i h9; rw [if_pos h9] at h; exact absurd rfl h
  · rfl
theorem leafMap_pageR (e : En) (l p : Int) : 0 ≤ (leafMap e l p).page ∧ (leafMap e l p).page < 4096 := by
  unfold leafMap
  split
  · rename_i h
    by_cases h0 : span l = 0
    · show 0 ≤ p / span l * span l ∧ p / span l * span l < 4096
      rw [h0]; omega
    have hs : 0 < span l := by rcases span_pos h0 with ⟨_, e⟩ | ⟨_, e⟩ | ⟨_, e⟩ <;> omega
    have h1 := Int.ediv_mul_le p h0
    have h2 : 0 ≤ p / span l := Int.ediv_nonneg (by omega) (by omega)
    have h3 : 0 ≤ p / span l * span l := Int.mul_nonneg h2 (by omega)
    exact ⟨h3, by show p / span l * span l < 4096; omega⟩
  · exact ⟨by show (0 : Int) ≤ 0; omega, by show (0 : Int) < 4096; omega⟩
theorem stepC_page (s : Ms) (root : Int) (c : Ck) : i64 (stepC s root c).r.ln.m.page := by
  have hz : i64 Mp.zero.page := by show i64 0; unfold i64; omega
  have hl : ∀ e l p, i64 (leafMap e l p).page := fun e l p => by have := leafMap_pageR e l p; unfold i64; omega
  unfold stepC
  split; · exact hz
  split; · exact hz
  split; · exact hz
  split; · exact hz
  split; · exact hz
  split; · exact hz
  split; · exact hz
  split; · exact hl _ _ _
  split; · exact hl _ _ _
  exact hz
theorem keepL_ok {l : List Ln} (h : Tl.Ok l) (r : Rs) : Tl.Ok (keepL l r) := by
  unfold keepL
  split
  · exact h.put _
  · exact h
end Go.Proofs.Ytmfheghbgihdmaa
namespace Go.Proofs.Ytmfheghbgihdmaa
open Go.RowKit
structure Agree (s s' : Ms) : Prop where
  n : s.n = s'.n
  tk : ∀ k, s.tk k = s'.tk k
  fr : s.frees = s'.frees
  wd : ∀ k i, s.tk k = true → s.wd k i = s'.wd k i
section
variable {s s' : Ms}
theorem Agree.refl (s : Ms) : Agree s s := ⟨rfl, fun _ => rfl, rfl, fun _ _ _ => rfl⟩
theorem Agree.symm (h : Agree s s') : Agree s' s := ⟨h.n.symm, fun k => (h.tk k).symm, h.fr.symm, fun k i ht => (h.wd k i (by rw [h.tk]; exact ht)).symm⟩
theorem Agree.trans {s2 : Ms} (h : Agree s s') (k : Agree s' s2) : Agree s s2 := ⟨h.n.trans k.n, fun j => (h.tk j).trans (k.tk j), h.fr.trans k.fr, fun j i ht => (h.wd j i ht).trans (k.wd j i (by rw [← h.tk]; exact ht))⟩
theorem Agree.has (h : Agree s s') (k : Int) : s.has k = s'.has k := by
  unfold Ms.has
  rw [h.n, h.tk]
theorem Agree.word (h : Agree s s') {t : Int} (ht : s.has t = true) (i : Int) : wordV s t i = wordV s' t i := h.wd _ _ (Ms.has_iff.1 ht).2.2
theorem Agree.wayStep (h : Agree s s') (p : Int) (L : Nat) (t : Int) (acc : List Int) {f g : Int → Wy} (hfg : ∀ x, f x = g x) : wayStep s p L t acc f = wayStep s' p L t acc g := by
  unfold Go.Proofs.Ytmfheghbgihdmaa.wayStep
  rw [← h.has t]
  cases ht : s.has t with
  | false => rfl
  | true => rw [h.word ht, hfg]
theorem Agree.wayA (h : Agree s s') (p : Int) : ∀ (L : Nat) (t : Int) (acc : List Int), wayA s p L t acc = wayA s' p L t acc
  | 0, t, acc => h.wayStep p 0 t acc fun _ => rfl
  | L + 1, t, acc => h.wayStep p (L + 1) t acc fun _ => Agree.wayA h p L _ _
theorem Agree.way (h : Agree s s') (r p : Int) : way s r p = way s' r p := by
  unfold Go.Proofs.Ytmfheghbgihdmaa.way
  rw [h.wayA p 3 r []]
theorem Agree.scanV (h : Agree s s') (L : Nat) {t : Int} (ht : s.has t = true) (a : Int) {f g : Int → Int → Vs} (hfg : ∀ x y, f x y = g x y) : ∀ is : List Nat, scanV s L t a f is = scanV s' L t a g is
  | [] => rfl
  | i :: is => by
    unfold Go.Proofs.Ytmfheghbgihdmaa.scanV
    rw [h.word ht, Agree.scanV h L ht a hfg is]
    simp only [hfg]
theorem Agree.eachV (h : Agree s s') : ∀ (L : Nat) (t a : Int), eachV s L t a = eachV s' L t a
  | 0, t, a => by
    unfold Go.Proofs.Ytmfheghbgihdmaa.eachV
    rw [← h.has t]
    cases ht : s.has t with
    | false => rfl
    | true => rw [if_neg (by simp), if_neg (by simp)]; exact h.scanV 0 ht a (fun _ _ => rfl) _
  | L + 1, t, a => by
    unfold Go.Proofs.Ytmfheghbgihdmaa.eachV
    rw [← h.has t]
    cases ht : s.has t with
    | false => rfl
    | true => rw [if_neg (by simp), if_neg (by simp)]; exact h.scanV (L + 1) ht a (fun x y => Agree.eachV h L x y) _
theorem Agree.top (h : Agree s s') : s.top = s'.top := by rw [← Ms.frees_top, ← Ms.frees_top, h.fr]
theorem Agree.setW (h : Agree s s') (k i : Nat) (v : Int) : Agree (s.setW k i v) (s'.setW k i v) :=
  ⟨h.n, h.tk, h.fr, fun a b ht => by
    show (if a = k ∧ b = i then v else s.wd a b) = (if a = k ∧ b = i then v else s'.wd a b)
    rw [h.wd a b ht]⟩
theorem Agree.findC (h : Agree s s') (r p : Int) : findC s r p = findC s' r p := by unfold Go.Proofs.Ytmfheghbgihdmaa.findC; rw [h.way r p]
theorem Agree.findM (h : Agree s s') (r p : Int) : findM s r p = findM s' r p := by unfold Go.Proofs.Ytmfheghbgihdmaa.findM; rw [h.way r p, h.findC r p]
theorem Agree.findE (h : Agree s s') (r p : Int) : findE s r p = findE s' r p := by unfold Go.Proofs.Ytmfheghbgihdmaa.findE; rw [h.way r p, h.findC r p]
theorem Agree.insC (h : Agree s s') (r : Int) (x : Mp) : insC s r x = insC s' r x := by unfold Go.Proofs.Ytmfheghbgihdmaa.insC; rw [h.way r x.page, h.fr]
end
end Go.Proofs.Ytmfheghbgihdmaa
namespace Go.Proofs.Ytmfheghbgihdmaa
open Go.ChangeShapes Go.WideShapes Go.ChangeAt Go.RowKit Go.Deep
/-- The cells of a plain type, in a row: an int kind, or a bool. -/
def structK (K : TypeId → Option (List (Option IntKind))) (P : Program) : List Field → Nat → Option (List (Option IntKind))
  | [], _ => some []
  | f :: fs, off =>
    if f.offset = off then
      match K f.type with
      | some l => if l.length = P.cellsOf f.type then (structK K P fs (off + l.length)).map (l ++ ·) else none
      | none => none
    else none
def kinds (P : Program) : Nat → TypeId → Option (List (Option IntKind))
  | 0, _ => none
  | d + 1, t =>
    match P.underlying t with
    | some .bool => some [none]
    | some (.int k) => some [some k]
    | some (.struct fs) =>
      match structK (kinds P d) P fs.toList 0 with
      | some l => if l.length = P.cellsOf t then some l else none
      | none => none
    | _ => none
def CellsOk : List (Option IntKind) → List Value → Prop
  | [], [] => True
  | none :: ks, v :: vs => (∃ b, v = .bool b) ∧ CellsOk ks vs
  | some k :: ks, v :: vs => (∃ n, v = .int k n ∧ (Lit.int k n).wf = true) ∧ CellsOk ks vs
  | _, _ => False
theorem CellsOk.append : ∀ {k1 k2 : List (Option IntKind)} {c1 c2 : List Value}, CellsOk k1 c1 → CellsOk k2 c2 → CellsOk (k1 ++ k2) (c1 ++ c2)
  | [], _, [], _, _, h2 => h2
  | [], _, _ :: _, _, h1, _ => h1.elim
  | none :: _, _, _ :: _, _, h1, h2 => ⟨h1.1, h1.2.append h2⟩
  | some _ :: _, _, _ :: _, _, h1, h2 => ⟨h1.1, h1.2.append h2⟩
  | none :: _, _, [], _, h1, _ => h1.elim
  | some _ :: _, _, [], _, h1, _ => h1.elim
theorem CellsOk.int {k : IntKind} {ks : List (Option IntKind)} {cs : List Value} (h : CellsOk (some k :: ks) cs) : ∃ n cs', cs = .int k n :: cs' ∧ (Lit.int k n).wf = true ∧ CellsOk ks cs' := by
  match cs, h with
  | v :: vs, ⟨⟨n, e, hw⟩, h2⟩ => exact ⟨n, vs, by rw [e], hw, h2⟩
theorem CellsOk.bool {ks : List (Option IntKind)} {cs : List Value} (h : CellsOk (none :: ks) cs) : ∃ b cs', cs = .bool b :: cs' ∧ CellsOk ks cs' := by
  match cs, h with
  | v :: vs, ⟨⟨b, e⟩, h2⟩ => exact ⟨b, vs, by rw [e], h2⟩
theorem CellsOk.nil {cs : List Value} (h : CellsOk [] cs) : cs = [] := by
  match cs, h with
  | [], _ => rfl
section
variable {H : Type} {enc : TypeId × Value → H} {P : Program} {w : World} {base : Nat} {spare : Nat → Bool} {held : Bool}
theorem structK_ok {K : TypeId → Option (List (Option IntKind))} {cs : List Value} : ∀ (fs : List Field) (off : Nat) (l : List (Option IntKind)), structK K P fs off = some l →
    (∀ f ∈ fs, ∀ k, K f.type = some k → CellsOk k ((cs.drop f.offset).take (P.cellsOf f.type))) → CellsOk l ((cs.drop off).take l.length)
  | [], off, l, h, _ => by
    simp [structK] at h
    subst h
    simp [CellsOk]
  | f :: fs, off, l, h, hf => by
    unfold structK at h
    split at h
    · rename_i ho
      split at h
      · rename_i k hk
        split at h
        · rename_i hl
          obtain ⟨l2, h2, rfl⟩ := Option.map_eq_some_iff.1 h
          have i1 := hf f (by simp) k hk
          have i2 := structK_ok fs _ l2 h2 fun g hg => hf g (by simp [hg])
          rw [ho, ← hl] at i1
          have e : (cs.drop off).take (k ++ l2).length = (cs.drop off).take k.length ++ (cs.drop (off + k.length)).take l2.length := by
            rw [List.length_append, List.take_add, List.drop_drop]
          rw [e]
          exact i1.append i2
        · cases h
      · cases h
    · cases h
theorem trod_cells : ∀ (d fuel : Nat) (t : TypeId) (ks : List (Option IntKind)) (cs : List Value) (x : DataW H × List MemPlace), kinds P d t = some ks →
    DataW.trod enc P w base spare held fuel t cs = some x → CellsOk ks cs
  | 0, _, _, _, _, _, h, _ => by cases h
  | d + 1, fuel, t, ks, cs, x, h, ht => by
    unfold kinds at h
    split at h
    · rename_i hu
      obtain ⟨b, rfl, _⟩ := DataW.trod_bool hu ht
      injection h with h; subst h
      exact ⟨⟨b, rfl⟩, trivial⟩
    · rename_i k hu
      obtain ⟨n, rfl, _, hw⟩ := DataW.trod_int hu ht
      injection h with h; subst h
      exact ⟨⟨n, rfl, hw⟩, trivial⟩
    · rename_i fs hu
      obtain ⟨xs, n, rfl, _, hl, hxl, hf⟩ := DataW.trod_struct hu ht
      split at h
      · rename_i l hs
        split at h
        · rename_i hll
          injection h with h; subst h
          have := structK_ok (cs := cs) (P := P) fs.toList 0 l hs fun f hfm k hk => by
            obtain ⟨i, hi, hfi⟩ := List.getElem_of_mem hfm
            have hi' : i < fs.size := by simpa using hi
            have hg : fs[i]? = some f := by rw [Array.getElem?_eq_getElem hi']; simpa using hfi
            have h1 := hf i f hg
            rw [List.getElem?_eq_getElem (by omega)] at h1
            exact trod_cells d n f.type k _ _ hk h1
          rw [hll, ← hl] at this
          simpa using this
        · cases h
      · cases h
    · cases h
theorem wf_i64' {n : Int} (h : (Lit.int .i64 n).wf = true) : i64 n := by
  simp [Lit.wf, IntKind.min, IntKind.max, IntKind.signed, IntKind.bits] at h
  exact ⟨by omega, by omega⟩
def u64 (n : Int) : Prop := 0 ≤ n ∧ n < 18446744073709551616
theorem flat_int {t : TypeId} {r : Reach} {b0 : Nat} {v : Value} {x : DataW H} {p : List MemPlace} (ht : P.underlying t = some (.int .i64)) (hv : Value.okWide P w r b0 t v) (h : DataW.Trod enc P w base spare held t v x p) : ∃ n, v = (Value.int .i64) n ∧ i64 n := by
  obtain ⟨n, rfl, _, _, hw⟩ := open_int ht hv h
  exact ⟨n, rfl, wf_i64' hw⟩
theorem add_none (b off n : Nat) : ((⟨b, off, none⟩ : Addr).add n) = ⟨b, off + n, none⟩ := by
  unfold Addr.add
  split <;> simp_all
/-- A slice of plain structs (or of ints) that came in. -/
theorem open_arr {α : Type} {cells : α → List Value} {ok : α → Prop} {ks : List (Option IntKind)} (hd : ∀ cs, CellsOk ks cs → ∃ x : α, cs = cells x ∧ ok x) {d : Nat} {t e : TypeId} {size : Nat} (ht : P.underlying t = some (.slice e))
    (hk : kinds P d e = some ks) (hs : P.cellsOf e = size) (hpos : 0 < size) {A : Option Addr} {len cap : Nat} {x : DataW H} {p : List MemPlace} (h : DataW.Trod enc P w base spare held t (.slice A len cap) x p) :
    ∃ l : List α, Arr w A len size (l.map cells) ∧ ∀ y ∈ l, ok y := by
  obtain ⟨fuel, hf⟩ := h
  rcases open_slice ht hf with ⟨hcs, _⟩ | ⟨a, len', cap', m, n, D, Pl, hcs, _, hl, hm, hmm, _, hel⟩
  · simp [Value.cells] at hcs
    obtain ⟨rfl, rfl, rfl⟩ := hcs
    exact ⟨[], ⟨rfl, by omega, fun i xs hi => by simp at hi⟩, fun y hy => by cases hy⟩
  · simp [Value.cells] at hcs
    obtain ⟨rfl, rfl, rfl⟩ := hcs
    have hlm : len ≤ m := by rw [hmm]; split <;> omega
    have key : ∀ k, k ≤ len → ∃ l : List α, l.length = k ∧ (∀ y ∈ l, ok y) ∧ ∀ i y, l[i]? = some y → ∃ b off, a = ⟨b, off, none⟩ ∧ b < w.heap.size ∧ ∀ j u, (cells y)[j]? = some u → w.cell? ⟨b, off + i * size + j, none⟩ = some u := by
      intro k
      induction k with
      | zero => exact fun _ => ⟨[], rfl, (fun y hy => by cases hy), (fun i y hi => by simp at hi)⟩
      | succ k ih =>
        intro hk1
        obtain ⟨l, hll, hok, hcells⟩ := ih (by omega)
        obtain ⟨cs', hc1, hc2⟩ := hel k (by omega)
        obtain ⟨_, hcl, hat⟩ := World.cells?_some hc1
        obtain ⟨y, hy, hoy⟩ := hd _ (trod_cells d n e ks cs' _ hk hc2)
        refine ⟨l ++ [y], by simp [hll], fun z hz => ?_, fun i z hz => ?_⟩
        · rcases List.mem_append.1 hz with hz | hz
          · exact hok z hz
          · simp at hz; subst hz; exact hoy
        · rw [List.getElem?_append] at hz
          split at hz
          · exact hcells i z hz
          · rename_i hi
            have hik : i = k := by
              have := List.getElem?_eq_some_iff.1 hz
              obtain ⟨h1, _⟩ := this
              simp at h1
              omega
            subst hik
            rw [hll, Nat.sub_self] at hz
            simp at hz
            subst hz
            have h0 := hat 0 (by omega)
            rw [hs] at hat h0 hcl
            obtain ⟨b, off, spot⟩ := a
            have hspot : spot = none := by
              have h00 : ∃ u, (w.cell? (((⟨b, off, spot⟩ : Addr).add (0 * size)).add 0)) = some u := by
                obtain ⟨cs0, hd1, _⟩ := hel 0 (by omega)
                obtain ⟨_, hdl, hdat⟩ := World.cells?_some hd1
                have := hdat 0 (by omega)
                rw [hs] at this
                rw [this, List.getElem?_eq_getElem (by omega)]
                exact ⟨_, rfl⟩
              obtain ⟨u, hu⟩ := h00
              simpa [Addr.add] using World.cell?_spot hu
            subst hspot
            have hc : ∀ j u, (cells y)[j]? = some u → w.cell? ⟨b, off + i * size + j, none⟩ = some u := by
              intro j u hu
              have hj : j < size := by
                have := List.getElem?_eq_some_iff.1 hu
                obtain ⟨h1, _⟩ := this
                rw [← hy, hcl] at h1
                exact h1
              have := hat j hj
              rw [add_none, add_none, hy, hu] at this
              exact this
            refine ⟨b, off, rfl, ?_, hc⟩
            rw [add_none, add_none, List.getElem?_eq_getElem (by omega)] at h0
            exact World.block_lt_of_cell? w _ h0
    obtain ⟨l, hll, hok, hcells⟩ := key len (Nat.le_refl _)
    refine ⟨l, ⟨by simp [hll], by unfold maxLen at hm; omega, fun i xs hi => ?_⟩, hok⟩
    rw [List.getElem?_map] at hi
    obtain ⟨y, hy, rfl⟩ := Option.map_eq_some_iff.1 hi
    obtain ⟨b, off, rfl, hb, hc⟩ := hcells i y hy
    exact ⟨b, off, rfl, hb, hc⟩
end
end Go.Proofs.Ytmfheghbgihdmaa
namespace Go.Proofs.Ytmfheghbgihdmaa
open Go.RowKit
set_option maxRecDepth 100000
theorem eqMapD (d : Nat) (a0 b0 : Int) (a1 b1 : Int) (a2 b2 : Int) (a3 b3 : Int) (w : World) : (Op.equalIn (d + 2) 31 (.agg #[(Value.int .i64) a0, (Value.int .i64) a1, (Value.int .i64) a2, (Value.int .i64) a3]) (.agg #[(Value.int .i64) b0, (Value.int .i64) b1, (Value.int .i64) b2, (Value.int .i64) b3])).run Try.prog w = .ok (a0 == b0 && (a1 == b1 && (a2 == b2 && (a3 == b3)))) w := by
  have ui := Try.underlying3
  have ci := Try.isAgg3
  have zi := Try.sizeOf3
  have hS : Try.prog.underlying 31 = some (.struct (Try.prog.fieldsOf 31)) := by kernel_rfl
  have hp : Try.prog.stoodInHeld 31 = false := by kernel_rfl
  rw [show d + 2 = (d + 1) + 1 from rfl, run_equalIn_agg w (d + 1) 31 _ _ hS hp]
  simp only [Program.fieldsOf, Try.underlying31]
  go_simp
  by_cases h0 : a0 = b0
  · skip
    by_cases h1 : a1 = b1
    · skip
      by_cases h2 : a2 = b2
      · skip
        by_cases h3 : a3 = b3
        · skip
          simp [h0, h1, h2, h3]
        · simp [h0, h1, h2, h3]
      · simp [h0, h1, h2]
    · simp [h0, h1]
  · simp [h0]
@[go_sem] theorem eqMap (a0 b0 : Int) (a1 b1 : Int) (a2 b2 : Int) (a3 b3 : Int) (w : World) : (Op.equalIn 10000 31 (.agg #[(Value.int .i64) a0, (Value.int .i64) a1, (Value.int .i64) a2, (Value.int .i64) a3]) (.agg #[(Value.int .i64) b0, (Value.int .i64) b1, (Value.int .i64) b2, (Value.int .i64) b3])).run Try.prog w = .ok (a0 == b0 && (a1 == b1 && (a2 == b2 && (a3 == b3)))) w := eqMapD 9998 a0 b0 a1 b1 a2 b2 a3 b3 w
@[go_sem] theorem guardMap : Try.prog.eqGuardType Try.prog.depth 31 = false := by kernel_rfl
theorem eqAccessD (d : Nat) (a0 b0 : Int) (a1 b1 : Int) (a2 b2 : Bool) (w : World) : (Op.equalIn (d + 2) 33 (.agg #[(Value.int .i64) a0, (Value.int .i64) a1, Value.bool a2]) (.agg #[(Value.int .i64) b0, (Value.int .i64) b1, Value.bool b2])).run Try.prog w = .ok (a0 == b0 && (a1 == b1 && (a2 == b2))) w := by
  have ub := Try.underlying4
  have cb := Try.isAgg4
  have zb := Try.sizeOf4
  have ui := Try.underlying3
  have ci := Try.isAgg3
  have zi := Try.sizeOf3
  have hS : Try.prog.underlying 33 = some (.struct (Try.prog.fieldsOf 33)) := by kernel_rfl
  have hp : Try.prog.stoodInHeld 33 = false := by kernel_rfl
  rw [show d + 2 = (d + 1) + 1 from rfl, run_equalIn_agg w (d + 1) 33 _ _ hS hp]
  simp only [Program.fieldsOf, Try.underlying33]
  go_simp
  by_cases h0 : a0 = b0
  · skip
    by_cases h1 : a1 = b1
    · skip
      by_cases h2 : a2 = b2
      · skip
        simp [h0, h1, h2]
      · simp [h0, h1, h2]
    · simp [h0, h1]
  · simp [h0]
@[go_sem] theorem eqAccess (a0 b0 : Int) (a1 b1 : Int) (a2 b2 : Bool) (w : World) : (Op.equalIn 10000 33 (.agg #[(Value.int .i64) a0, (Value.int .i64) a1, Value.bool a2]) (.agg #[(Value.int .i64) b0, (Value.int .i64) b1, Value.bool b2])).run Try.prog w = .ok (a0 == b0 && (a1 == b1 && (a2 == b2))) w := eqAccessD 9998 a0 b0 a1 b1 a2 b2 w
@[go_sem] theorem guardAccess : Try.prog.eqGuardType Try.prog.depth 33 = false := by kernel_rfl
theorem eqAnswerD (d : Nat) (a0 b0 : Int) (a1 b1 : Int) (a2 b2 : Int) (w : World) : (Op.equalIn (d + 2) 37 (.agg #[(Value.int .i64) a0, (Value.int .i64) a1, (Value.int .i64) a2]) (.agg #[(Value.int .i64) b0, (Value.int .i64) b1, (Value.int .i64) b2])).run Try.prog w = .ok (a0 == b0 && (a1 == b1 && (a2 == b2))) w := by
  have ui := Try.underlying3
  have ci := Try.isAgg3
  have zi := Try.sizeOf3
  have hS : Try.prog.underlying 37 = some (.struct (Try.prog.fieldsOf 37)) := by kernel_rfl
  have hp : Try.prog.stoodInHeld 37 = false := by kernel_rfl
  rw [show d + 2 = (d + 1) + 1 from rfl, run_equalIn_agg w (d + 1) 37 _ _ hS hp]
  simp only [Program.fieldsOf, Try.underlying37]
  go_simp
  by_cases h0 : a0 = b0
  · skip
    by_cases h1 : a1 = b1
    · skip
      by_cases h2 : a2 = b2
      · skip
        simp [h0, h1, h2]
      · simp [h0, h1, h2]
    · simp [h0, h1]
  · simp [h0]
@[go_sem] theorem eqAnswer (a0 b0 : Int) (a1 b1 : Int) (a2 b2 : Int) (w : World) : (Op.equalIn 10000 37 (.agg #[(Value.int .i64) a0, (Value.int .i64) a1, (Value.int .i64) a2]) (.agg #[(Value.int .i64) b0, (Value.int .i64) b1, (Value.int .i64) b2])).run Try.prog w = .ok (a0 == b0 && (a1 == b1 && (a2 == b2))) w := eqAnswerD 9998 a0 b0 a1 b1 a2 b2 w
@[go_sem] theorem guardAnswer : Try.prog.eqGuardType Try.prog.depth 37 = false := by kernel_rfl
theorem eqEntryD (d : Nat) (a0 b0 : Bool) (a1 b1 : Bool) (a2 b2 : Int) (a3 b3 : Bool) (a4 b4 : Bool) (a5 b5 : Int) (w : World) : (Op.equalIn (d + 2) 51 (.agg #[Value.bool a0, Value.bool a1, (Value.int .i64) a2, Value.bool a3, Value.bool a4, (Value.int .i64) a5]) (.agg #[Value.bool b0, Value.bool b1, (Value.int .i64) b2, Value.bool b3, Value.bool b4, (Value.int .i64) b5])).run Try.prog w = .ok (a0 == b0 && (a1 == b1 && (a2 == b2 && (a3 == b3 && (a4 == b4 && (a5 == b5)))))) w := by
  have ub := Try.underlying4
  have cb := Try.isAgg4
  have zb := Try.sizeOf4
  have ui := Try.underlying3
  have ci := Try.isAgg3
  have zi := Try.sizeOf3
  have hS : Try.prog.underlying 51 = some (.struct (Try.prog.fieldsOf 51)) := by kernel_rfl
  have hp : Try.prog.stoodInHeld 51 = false := by kernel_rfl
  rw [show d + 2 = (d + 1) + 1 from rfl, run_equalIn_agg w (d + 1) 51 _ _ hS hp]
  simp only [Program.fieldsOf, Try.underlying51]
  go_simp
  by_cases h0 : a0 = b0
  · skip
    by_cases h1 : a1 = b1
    · skip
      by_cases h2 : a2 = b2
      · skip
        by_cases h3 : a3 = b3
        · skip
          by_cases h4 : a4 = b4
          · skip
            by_cases h5 : a5 = b5
            · skip
              simp [h0, h1, h2, h3, h4, h5]
            · simp [h0, h1, h2, h3, h4, h5]
          · simp [h0, h1, h2, h3, h4]
        · simp [h0, h1, h2, h3]
      · simp [h0, h1, h2]
    · simp [h0, h1]
  · simp [h0]
@[go_sem] theorem eqEntry (a0 b0 : Bool) (a1 b1 : Bool) (a2 b2 : Int) (a3 b3 : Bool) (a4 b4 : Bool) (a5 b5 : Int) (w : World) : (Op.equalIn 10000 51 (.agg #[Value.bool a0, Value.bool a1, (Value.int .i64) a2, Value.bool a3, Value.bool a4, (Value.int .i64) a5]) (.agg #[Value.bool b0, Value.bool b1, (Value.int .i64) b2, Value.bool b3, Value.bool b4, (Value.int .i64) b5])).run Try.prog w = .ok (a0 == b0 && (a1 == b1 && (a2 == b2 && (a3 == b3 && (a4 == b4 && (a5 == b5)))))) w := eqEntryD 9998 a0 b0 a1 b1 a2 b2 a3 b3 a4 b4 a5 b5 w
@[go_sem] theorem guardEntry : Try.prog.eqGuardType Try.prog.depth 51 = false := by kernel_rfl
theorem eqFaultD (d : Nat) (a0 b0 : Int) (a1 b1 : Int) (w : World) : (Op.equalIn (d + 2) 27 (.agg #[(Value.int .i64) a0, (Value.int .i64) a1]) (.agg #[(Value.int .i64) b0, (Value.int .i64) b1])).run Try.prog w = .ok (a0 == b0 && (a1 == b1)) w := by
  have ui := Try.underlying3
  have ci := Try.isAgg3
  have zi := Try.sizeOf3
  have hS : Try.prog.underlying 27 = some (.struct (Try.prog.fieldsOf 27)) := by kernel_rfl
  have hp : Try.prog.stoodInHeld 27 = false := by kernel_rfl
  rw [show d + 2 = (d + 1) + 1 from rfl, run_equalIn_agg w (d + 1) 27 _ _ hS hp]
  simp only [Program.fieldsOf, Try.underlying27]
  go_simp
  by_cases h0 : a0 = b0
  · skip
    by_cases h1 : a1 = b1
    · skip
      simp [h0, h1]
    · simp [h0, h1]
  · simp [h0]
@[go_sem] theorem eqFault (a0 b0 : Int) (a1 b1 : Int) (w : World) : (Op.equalIn 10000 27 (.agg #[(Value.int .i64) a0, (Value.int .i64) a1]) (.agg #[(Value.int .i64) b0, (Value.int .i64) b1])).run Try.prog w = .ok (a0 == b0 && (a1 == b1)) w := eqFaultD 9998 a0 b0 a1 b1 w
@[go_sem] theorem guardFault : Try.prog.eqGuardType Try.prog.depth 27 = false := by kernel_rfl
@[go_sem] theorem eqBool4 (a0 b0 : Bool) (a1 b1 : Bool) (a2 b2 : Bool) (a3 b3 : Bool) (w : World) : (Op.equalIn 10000 87 (.agg #[Value.bool a0, Value.bool a1, Value.bool a2, Value.bool a3]) (.agg #[Value.bool b0, Value.bool b1, Value.bool b2, Value.bool b3])).run Try.prog w = .ok (a0 == b0 && (a1 == b1 && (a2 == b2 && (a3 == b3)))) w := by
  have u3 := Try.underlying4
  have c3 := Try.isAgg4
  have z3 := Try.sizeOf4
  rw [show (10000 : Nat) = 9999 + 1 from rfl, Op.equalIn]
  simp only [Sem.run_bind, run_underlying Try.underlying87, Result.andThen_ok]
  simp only [Std.Legacy.Range.forIn_eq_forIn_range', Std.Legacy.Range.size, Nat.sub_zero, Nat.add_sub_cancel, Nat.div_one, List.range'_succ, List.range'_zero, List.forIn_cons, List.forIn_nil]
  go_simp
  by_cases h0 : a0 = b0
  · skip
    by_cases h1 : a1 = b1
    · skip
      by_cases h2 : a2 = b2
      · skip
        by_cases h3 : a3 = b3
        · skip
          simp [h0, h1, h2, h3]
        · simp [h0, h1, h2, h3]
      · simp [h0, h1, h2]
    · simp [h0, h1]
  · simp [h0]
@[go_sem] theorem guardBool4 : Try.prog.eqGuardType Try.prog.depth 87 = false := by kernel_rfl
@[go_sem] theorem eqU8 (a0 b0 : Int) (a1 b1 : Int) (a2 b2 : Int) (a3 b3 : Int) (a4 b4 : Int) (a5 b5 : Int) (a6 b6 : Int) (a7 b7 : Int) (w : World) : (Op.equalIn 10000 84 (.agg #[(Value.int .u64) a0, (Value.int .u64) a1, (Value.int .u64) a2, (Value.int .u64) a3, (Value.int .u64) a4, (Value.int .u64) a5, (Value.int .u64) a6, (Value.int .u64) a7]) (.agg #[(Value.int .u64) b0, (Value.int .u64) b1, (Value.int .u64) b2, (Value.int .u64) b3, (Value.int .u64) b4, (Value.int .u64) b5, (Value.int .u64) b6, (Value.int .u64) b7])).run Try.prog w = .ok (a0 == b0 && (a1 == b1 && (a2 == b2 && (a3 == b3 && (a4 == b4 && (a5 == b5 && (a6 == b6 && (a7 == b7)))))))) w := by
  have u3 := Try.underlying83
  have c3 := Try.isAgg83
  have z3 := Try.sizeOf83
  rw [show (10000 : Nat) = 9999 + 1 from rfl, Op.equalIn]
  simp only [Sem.run_bind, run_underlying Try.underlying84, Result.andThen_ok]
  simp only [Std.Legacy.Range.forIn_eq_forIn_range', Std.Legacy.Range.size, Nat.sub_zero, Nat.add_sub_cancel, Nat.div_one, List.range'_succ, List.range'_zero, List.forIn_cons, List.forIn_nil]
  go_simp
  by_cases h0 : a0 = b0
  · skip
    by_cases h1 : a1 = b1
    · skip
      by_cases h2 : a2 = b2
      · skip
        by_cases h3 : a3 = b3
        · skip
          by_cases h4 : a4 = b4
          · skip
            by_cases h5 : a5 = b5
            · skip
              by_cases h6 : a6 = b6
              · skip
                by_cases h7 : a7 = b7
                · skip
                  simp [h0, h1, h2, h3, h4, h5, h6, h7]
                · simp [h0, h1, h2, h3, h4, h5, h6, h7]
              · simp [h0, h1, h2, h3, h4, h5, h6]
            · simp [h0, h1, h2, h3, h4, h5]
          · simp [h0, h1, h2, h3, h4]
        · simp [h0, h1, h2, h3]
      · simp [h0, h1, h2]
    · simp [h0, h1]
  · simp [h0]
@[go_sem] theorem guardU8 : Try.prog.eqGuardType Try.prog.depth 84 = false := by kernel_rfl
end Go.Proofs.Ytmfheghbgihdmaa
namespace Go.Proofs.Ytmfheghbgihdmaa
open Go.RowKit
set_option maxRecDepth 100000
/-- The cells of the tables: of each whether it is in use, and its words. -/
def fc (s : Ms) : Nat → Value := fun j => if j % 9 = 0 then Value.bool (s.tk (j / 9)) else (Value.int .u64) (s.wd (j / 9) (j % 9 - 1))
theorem fc_tk (s : Ms) (k : Nat) : fc s (k * 9) = Value.bool (s.tk k) := by
  unfold fc
  rw [if_pos (by omega), show k * 9 / 9 = k by omega]
theorem fc_wd (s : Ms) (k i : Nat) (h : i < 8) : fc s (k * 9 + 1 + i) = (Value.int .u64) (s.wd k i) := by
  unfold fc
  rw [if_neg (by omega), show (k * 9 + 1 + i) / 9 = k by omega, show (k * 9 + 1 + i) % 9 - 1 = i by omega]
/-- The ints of a list of numbers. -/
def ints (l : List Nat) : List Value := l.map fun (k : Nat) => (Value.int .i64) (k : Int)
/-- Frames at block p, its tables at block g, the free ones' slice vf. -/
def framesIn (p g : Nat) (vf : Value) (s : Ms) (R : HProp) : HProp :=
  blk p #[.slice (some ⟨g, 0, none⟩) s.n s.n, vf] 82 * (blk g (tabA (s.n * 9) (fc s)) 86 * (row 3 1 vf s.frees.length (ints s.frees) * R))
def framesAt (p : Nat) (s : Ms) : HProp := ex fun g => ex fun vf => framesIn p g vf s (lift True)
theorem star_true (R : HProp) : lift True * R = R := by
  funext h
  apply propext
  constructor
  · rintro ⟨h1, h2, d, rfl, ⟨_, rfl⟩, q⟩
    have : Hpm.union Hpm.emp h2 = h2 := by funext b; simp [Hpm.union, Hpm.emp]
    rw [this]
    exact q
  · intro q
    exact ⟨Hpm.emp, h, fun b => .inl rfl, by funext b; simp [Hpm.union, Hpm.emp], ⟨trivial, rfl⟩, q⟩
theorem framesAt_open {p : Nat} {s : Ms} {R : HProp} {w : World} (h : Has w (framesAt p s * R)) : ∃ g vf, Has w (framesIn p g vf s R) := by
  unfold framesAt at h
  obtain ⟨g, h⟩ := has_ex_star.1 h
  obtain ⟨vf, h⟩ := has_ex_star.1 h
  refine ⟨g, vf, ?_⟩
  unfold framesIn at h ⊢
  simpa only [star_assoc, star_true] using h
theorem framesAt_shut {p g : Nat} {vf : Value} {s : Ms} {R : HProp} {w : World} (h : Has w (framesIn p g vf s R)) : Has w (framesAt p s * R) := by
  unfold framesAt
  refine has_ex_star.2 ⟨g, has_ex_star.2 ⟨vf, ?_⟩⟩
  unfold framesIn at h ⊢
  simpa only [star_assoc, star_true] using h
theorem has_no {s : Ms} {k : Int} (h : ¬ (0 ≤ k ∧ k < s.n)) : s.has k = false := by
  unfold Ms.has
  by_cases h0 : 0 ≤ k <;> by_cases h4 : k < s.n <;> simp [h0, h4]
  omega
theorem has_yes {s : Ms} {k : Nat} (h : k < s.n) : s.has k = s.tk k := by
  unfold Ms.has
  have h4 : (k : Int) < s.n := by omega
  simp [h]
theorem taken_any (p g : Nat) (vf : Value) (s : Ms) (k : Int) (R : HProp) (w : World) (h : Has w (framesIn p g vf s R)) :
    Calls Try.prog 75 #[.pointer (some ⟨p, 0, none⟩), .int .i64 k] w (Same (Value.bool (s.has k)) w) := by
  obtain ⟨c0, c1⟩ := h.cells2
  by_cases h0 : 0 ≤ k
  · by_cases h4 : k < s.n
    · obtain ⟨k, rfl⟩ := Int.eq_ofNat_of_zero_le h0
      have hc := h.right.tabGet (j := k * 9) (by omega)
      rw [fc_tk] at hc
      have hy := Lib.hid (has_yes (s := s) (k := k) (by omega))
      have hg := h.right.lt
      go_enter Try.func75, Try.ntmps75
      go_wp2
      go_ret
      exact ⟨by rw [hy.out]; rfl, rfl⟩
    · have hy := Lib.hid (has_no (s := s) (k := k) (by omega))
      go_enter Try.func75, Try.ntmps75
      go_wp2
      go_ret
      exact ⟨by rw [hy.out]; rfl, rfl⟩
  · have hy := Lib.hid (has_no (s := s) (k := k) (by omega))
    go_enter Try.func75, Try.ntmps75
    go_wp2
    go_ret
    exact ⟨by rw [hy.out]; rfl, rfl⟩
/-- Where a word stands; nil: nowhere. -/
def wordAt (s : Ms) (g : Nat) (k i : Int) : Value := if s.hasW k i then .pointer (some ⟨g, k.toNat * 9 + 1 + i.toNat, none⟩) else .pointer none
theorem hasW_iff {s : Ms} {k i : Int} : s.hasW k i = true ↔ s.has k = true ∧ 0 ≤ i ∧ i < 8 := by
  unfold Ms.hasW
  simp
theorem word_any (p g : Nat) (vf : Value) (s : Ms) (k i : Int) (R : HProp) (w : World) (h : Has w (framesIn p g vf s R)) :
    Calls Try.prog 86 #[.pointer (some ⟨p, 0, none⟩), .int .i64 k, .int .i64 i] w (Same (wordAt s g k i) w) := by
  obtain ⟨c0, c1⟩ := h.cells2
  cases hk : s.has k with
  | false =>
    have hy := Lib.hid (show wordAt s g k i = .pointer none by unfold wordAt Ms.hasW; rw [hk]; rfl)
    go_enter Try.func86, Try.ntmps86
    go_wp2_with (go_at_call 75; refine (taken_any p g vf s _ _ _ h).mono ?_; rintro e w' ⟨rfl, rfl⟩)
    go_ret
    exact ⟨by rw [hy.out]; rfl, rfl⟩
  | true =>
    by_cases i0 : i < 0
    · have hy := Lib.hid (show wordAt s g k i = .pointer none by unfold wordAt Ms.hasW; rw [if_neg]; simp; omega)
      go_enter Try.func86, Try.ntmps86
      go_wp2_with (go_at_call 75; refine (taken_any p g vf s _ _ _ h).mono ?_; rintro e w' ⟨rfl, rfl⟩)
      go_ret
      exact ⟨by rw [hy.out]; rfl, rfl⟩
    by_cases i8 : 8 ≤ i
    · have hy := Lib.hid (show wordAt s g k i = .pointer none by unfold wordAt Ms.hasW; rw [if_neg]; simp; omega)
      go_enter Try.func86, Try.ntmps86
      go_wp2_with (go_at_call 75; refine (taken_any p g vf s _ _ _ h).mono ?_; rintro e w' ⟨rfl, rfl⟩)
      go_ret
      exact ⟨by rw [hy.out]; rfl, rfl⟩
    have hk' := Ms.has_iff.1 hk
    obtain ⟨k0, k1, _⟩ := hk'
    obtain ⟨k, rfl⟩ := Int.eq_ofNat_of_zero_le k0
    obtain ⟨i, rfl⟩ := Int.eq_ofNat_of_zero_le (show 0 ≤ i by omega)
    have hy := Lib.hid (show wordAt s g k i = .pointer (some ⟨g, k * 9 + 1 + i, none⟩) by unfold wordAt; rw [if_pos (hasW_iff.2 ⟨hk, by omega, by omega⟩)]; simp)
    have hg := h.right.lt
    go_enter Try.func86, Try.ntmps86
    go_wp2_with (go_at_call 75; refine (taken_any p g vf s _ _ _ h).mono ?_; rintro e w' ⟨rfl, rfl⟩)
    go_ret
    exact ⟨by rw [hy.out]; rfl, rfl⟩
def loadV (s : Ms) (k i : Int) : Int := if s.hasW k i then s.wd k.toNat i.toNat else 0
theorem word_cell {p g : Nat} {vf : Value} {s : Ms} {k i : Int} {R : HProp} {w : World} (h : Has w (framesIn p g vf s R)) (hw : s.hasW k i = true) :
    w.cell? ⟨g, k.toNat * 9 + 1 + i.toNat, none⟩ = some ((Value.int .u64) (s.wd k.toNat i.toNat)) := by
  obtain ⟨hk, i0, i8⟩ := hasW_iff.1 hw
  obtain ⟨k0, k1, _⟩ := Ms.has_iff.1 hk
  rw [h.right.tabGet (by omega), fc_wd _ _ _ (by omega)]
theorem fc_setW (s : Ms) (k i : Nat) (v : Int) (hi : i < 8) (j : Nat) : fput (fc s) (k * 9 + 1 + i) ((Value.int .u64) v) j = fc (s.setW k i v) j := by
  unfold fput fc Ms.setW
  dsimp only
  by_cases h : j = k * 9 + 1 + i
  · subst h
    rw [if_pos rfl, if_neg (by omega), show (k * 9 + 1 + i) / 9 = k by omega, show (k * 9 + 1 + i) % 9 - 1 = i by omega, if_pos ⟨rfl, rfl⟩]
  · rw [if_neg h]
    by_cases h9 : j % 9 = 0
    · rw [if_pos h9, if_pos h9]
    · rw [if_neg h9, if_neg h9, if_neg (by omega)]
theorem framesIn_setW {p g : Nat} {vf : Value} {s : Ms} {k i : Nat} {R : HProp} {w : World} (h : Has w (framesIn p g vf s R)) (hi : i < 8) (v : Int) :
    Has (w.setCell ⟨g, k * 9 + 1 + i, none⟩ ((Value.int .u64) v)) (framesIn p g vf (s.setW k i v) R) :=
  ((h.p2.tabSet _ _).tabExt fun j _ => fc_setW s k i v hi j).p2
theorem load_any (p g : Nat) (vf : Value) (s : Ms) (k i : Int) (R : HProp) (w : World) (h : Has w (framesIn p g vf s R)) :
    Calls Try.prog 80 #[.pointer (some ⟨p, 0, none⟩), .int .i64 k, .int .i64 i] w (Same (.tuple #[(Value.int .u64) (loadV s k i), Value.bool (s.hasW k i)]) w) := by
  cases hw : s.hasW k i with
  | true =>
    have hc := word_cell h hw
    have hy := Lib.hid (show loadV s k i = s.wd k.toNat i.toNat by unfold loadV; rw [if_pos hw])
    have hp : wordAt s g k i = .pointer (some ⟨g, k.toNat * 9 + 1 + i.toNat, none⟩) := by unfold wordAt; rw [if_pos hw]
    clear hw
    generalize k.toNat * 9 + 1 + i.toNat = o at *
    generalize s.wd k.toNat i.toNat = x at *
    have hg := h.right.lt
    go_enter Try.func80, Try.ntmps80
    go_wp2_with (go_at_call 86; refine (word_any p g vf s _ _ _ _ h).mono ?_; rintro e w' ⟨rfl, rfl⟩)
    exact bodyPost_ret (v := .tuple #[(Value.int .u64) x, Value.bool true]) (by simp [results, Try.results80, go_sem]) rfl ⟨by rw [hy.out], rfl⟩
  | false =>
    have hy := Lib.hid (show loadV s k i = 0 by unfold loadV; rw [hw]; rfl)
    have hp : wordAt s g k i = .pointer none := by unfold wordAt; rw [hw]; rfl
    clear hw
    go_enter Try.func80, Try.ntmps80
    go_wp2_with (go_at_call 86; refine (word_any p g vf s _ _ _ _ h).mono ?_; rintro e w' ⟨rfl, rfl⟩)
    exact bodyPost_ret (v := .tuple #[(Value.int .u64) 0, Value.bool false]) (by simp [results, Try.results80, go_sem]) rfl ⟨by rw [hy.out], rfl⟩
def storeS (s : Ms) (k i : Int) (v : Int) : Ms := if s.hasW k i then s.setW k.toNat i.toNat v else s
theorem store_any (p g : Nat) (vf : Value) (s : Ms) (k i v : Int) (R : HProp) (w : World) (h : Has w (framesIn p g vf s R)) :
    Calls Try.prog 64 #[.pointer (some ⟨p, 0, none⟩), .int .i64 k, .int .i64 i, .int .u64 v] w (Res (Value.bool (s.hasW k i)) (framesIn p g vf (storeS s k i v) R) w) := by
  cases hw : s.hasW k i with
  | true =>
    have hc := word_cell h hw
    have h2 := framesIn_setW (k := k.toNat) (i := i.toNat) h (by have := (hasW_iff.1 hw).2; omega) v
    have hy := Lib.hid (show storeS s k i v = s.setW k.toNat i.toNat v by unfold storeS; rw [if_pos hw])
    have hp : wordAt s g k i = .pointer (some ⟨g, k.toNat * 9 + 1 + i.toNat, none⟩) := by unfold wordAt; rw [if_pos hw]
    clear hw
    generalize k.toNat * 9 + 1 + i.toNat = o at *
    have hf := h.right.free o
    have hg := h.right.lt
    go_enter Try.func64, Try.ntmps64
    go_wp2_with (go_at_call 86; refine (word_any p g vf s _ _ _ _ h).mono ?_; rintro e w' ⟨rfl, rfl⟩)
    go_ret
    exact ⟨rfl, by rw [hy.out]; exact h2, by (repeat (first | with_reducible assumption | with_reducible exact Ext.refl _ | with_reducible refine Ext.set ?_ _ _ | with_reducible refine Ext.alloc ?_ _ | with_reducible refine Ext.drew ?_ | with_reducible refine Ext.drewN ?_ _ | assumption | exact Ext.refl _ | refine Ext.alloc ?_ _ | refine Ext.set ?_ _ _ | refine Ext.drew ?_ | refine Ext.drewN ?_ _ | refine Ext.below ?_ (by assumption) | refine Ext.trans ?_ (by assumption)))⟩
  | false =>
    have hy := Lib.hid (show storeS s k i v = s by unfold storeS; rw [hw]; rfl)
    have hp : wordAt s g k i = .pointer none := by unfold wordAt; rw [hw]; rfl
    clear hw
    go_enter Try.func64, Try.ntmps64
    go_wp2_with (go_at_call 86; refine (word_any p g vf s _ _ _ _ h).mono ?_; rintro e w' ⟨rfl, rfl⟩)
    go_ret
    exact ⟨rfl, by rw [hy.out]; exact h, Ext.refl _⟩
/-- Does Swap swap? -/
def swapB (s : Ms) (k i old : Int) : Bool := s.hasW k i && (s.wd k.toNat i.toNat == old)
def swapS (s : Ms) (k i old : Int) (v : Int) : Ms := if swapB s k i old then s.setW k.toNat i.toNat v else s
theorem swap_any (p g : Nat) (vf : Value) (s : Ms) (k i old v : Int) (R : HProp) (w : World) (h : Has w (framesIn p g vf s R)) :
    Calls Try.prog 74 #[.pointer (some ⟨p, 0, none⟩), .int .i64 k, .int .i64 i, .int .u64 old, .int .u64 v] w (Res (Value.bool (swapB s k i old)) (framesIn p g vf (swapS s k i old v) R) w) := by
  cases hw : s.hasW k i with
  | true =>
    have hc := word_cell h hw
    have h2 := framesIn_setW (k := k.toNat) (i := i.toNat) h (by have := (hasW_iff.1 hw).2; omega) v
    have hp : wordAt s g k i = .pointer (some ⟨g, k.toNat * 9 + 1 + i.toNat, none⟩) := by unfold wordAt; rw [if_pos hw]
    have hs : swapB s k i old = (s.wd k.toNat i.toNat == old) := by unfold swapB; rw [hw]; rfl
    clear hw
    generalize hx : s.wd k.toNat i.toNat = x at *
    clear hx
    have hf := h.right.free (k.toNat * 9 + 1 + i.toNat)
    have hg := h.right.lt
    generalize k.toNat * 9 + 1 + i.toNat = o at *
    cases he : (x == old) with
    | true =>
      have hy := Lib.hid (show swapS s k i old v = s.setW k.toNat i.toNat v by unfold swapS; rw [hs, he]; rfl)
      have hz := Lib.hid (hs.trans he)
      clear hs
      go_enter Try.func74, Try.ntmps74
      go_wp2_with (go_at_call 86; refine (word_any p g vf s _ _ _ _ h).mono ?_; rintro e w' ⟨rfl, rfl⟩)
      go_ret
      exact ⟨by rw [hz.out]; rfl, by rw [hy.out]; exact h2, by (repeat (first | with_reducible assumption | with_reducible exact Ext.refl _ | with_reducible refine Ext.set ?_ _ _ | with_reducible refine Ext.alloc ?_ _ | with_reducible refine Ext.drew ?_ | with_reducible refine Ext.drewN ?_ _ | assumption | exact Ext.refl _ | refine Ext.alloc ?_ _ | refine Ext.set ?_ _ _ | refine Ext.drew ?_ | refine Ext.drewN ?_ _ | refine Ext.below ?_ (by assumption) | refine Ext.trans ?_ (by assumption)))⟩
    | false =>
      have hy := Lib.hid (show swapS s k i old v = s by unfold swapS; rw [hs, he]; rfl)
      have hz := Lib.hid (hs.trans he)
      clear hs
      go_enter Try.func74, Try.ntmps74
      go_wp2_with (go_at_call 86; refine (word_any p g vf s _ _ _ _ h).mono ?_; rintro e w' ⟨rfl, rfl⟩)
      go_ret
      exact ⟨by rw [hz.out]; rfl, by rw [hy.out]; exact h, Ext.refl _⟩
  | false =>
    have hz := Lib.hid (show swapB s k i old = false by unfold swapB; rw [hw]; rfl)
    have hy := Lib.hid (show swapS s k i old v = s by unfold swapS; rw [hz.out]; rfl)
    have hp : wordAt s g k i = .pointer none := by unfold wordAt; rw [hw]; rfl
    clear hw
    go_enter Try.func74, Try.ntmps74
    go_wp2_with (go_at_call 86; refine (word_any p g vf s _ _ _ _ h).mono ?_; rintro e w' ⟨rfl, rfl⟩)
    go_ret
    exact ⟨by rw [hz.out]; rfl, by rw [hy.out]; exact h, Ext.refl _⟩
theorem free_any (p g : Nat) (vf : Value) (s : Ms) (R : HProp) (w : World) (h : Has w (framesIn p g vf s R)) :
    Calls Try.prog 29 #[.pointer (some ⟨p, 0, none⟩)] w (Same ((Value.int .i64) (s.frees.length : Nat)) w) := by
  obtain ⟨A, c, rfl⟩ := h.right.right.rowForm
  obtain ⟨c0, c1⟩ := h.cells2
  go_enter Try.func29, Try.ntmps29
  go_wp2
  go_ret
  exact ⟨rfl, rfl⟩
end Go.Proofs.Ytmfheghbgihdmaa
