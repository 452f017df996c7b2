/- More on Insert's words: the tables and places all in all; plain law. -/
import Derived.Test.YtmfheghbgihdmaaWkFind
import Derived.Test.YtmfheghbgihdmaaWkr3
import Derived.Test.YtmfheghbgihdmaaSep
import Derived.Test.YtmfheghbgihdmaaFrames2
import Derived.Deep.RegionHeld3
import Derived.Test.YtmfheghbgihdmaaEntry2
import Derived.Deep.LoopGhost
import Derived.Deep.DeepCutAuto
import Derived.Deep.CutBlock
import Derived.Test.YtmfheghbgihdmaaWalkM2
import Derived.Test.YtmfheghbgihdmaaEntMap
import Derived.Test.YtmfheghbgihdmaaTblM3
import Derived.Lib.Hide
import Derived.WalkSpells
import Derived.Outline
import Derived.RangeFuncNested
import Derived.RangeFuncBound
import Derived.RangeFuncCalls
import Derived.RangeFuncLeaves
import Derived.Shelf.Abstract
import Derived.Shelf.RegionOpen
import Derived.WalkKit
import Derived.OwnWalkIn
import Derived.TacticsInMore
import Derived.LoopNIn
import Derived.LoopIn
import Derived.BigQuiet
import Derived.Lib.SliceRun
namespace Go.Proofs.Ytmfheghbgihdmaa
open Go.RowKit
theorem upL_has (s : Ms) (p lw : Int) (sz : Nat) (u : Int) : ∀ l : List Int, (upL s p lw sz l).has u = s.has u
  | [] => rfl
  | [_] => rfl
  | _ :: k :: ks => upL_has s p lw sz u (k :: ks)
theorem upL_ok {s : Ms} (hs : s.Ok) (p : Int) {lw : Int} (hlw : 0 ≤ lw ∧ lw < 18446744073709551616) (sz : Nat) : ∀ l : List Int, (upL s p lw sz l).Ok
  | [] => hs
  | [_] => hs.setW _ _ hlw
  | _ :: k :: ks => (upL_ok hs p hlw sz (k :: ks)).setW _ _ (by unfold tabW; exact encW_u64 _ _)
/-- What Insert works on. -/
structure InsAt (s : Ms) (r : Int) (x : Mp) (n m sz : Nat) : Prop where
  code : (way s r x.page).code = 0
  hp : hasB x.page = true
  len : (way s r x.page).tabs.length = n + 1
  lev : (way s r x.page).lev = 3 - (n : Int)
  size : x.size = (sz : Int)
  sum : n + m + sz = 3
  fr : m ≤ s.frees.length
def allI (s : Ms) (r : Int) (x : Mp) (m : Nat) : List Int := (way s r x.page).tabs ++ tops s m
section
variable {s : Ms} {r : Int} {x : Mp} {n m sz : Nat}
theorem InsAt.all_len (h : InsAt s r x n m sz) : (allI s r x m).length = n + 1 + m := by
  unfold allI
  rw [List.length_append, h.len, tops_len]
theorem InsAt.all_has (h : InsAt s r x n m sz) (hs : s.Ok) : ∀ t ∈ allI s r x m, (takeN s m).has t = true := fun t ht => by
  obtain ⟨_, n', hn, _, _, hu⟩ := way_tabs h.code
  rcases List.mem_append.1 ht with ht | ht
  · exact takeN_has hs (hu t ht) m h.fr
  · have hl : 0 < (way s r x.page).tabs.length := by rw [h.len]; omega
    have := hu _ (List.getElem_mem hl)
    exact (tops_new hs (Ms.has_iff.1 this).2.2 m h.fr t ht).2
theorem InsAt.store (h : InsAt s r x n m sz) (hs : s.Ok) {σ : Ms} (hσ : ∀ u, σ.has u = (takeN s m).has u) {j : Nat} {t : Int} (hj : (allI s r x m)[j]? = some t) (v : Int) :
    storeS σ t (index x.page (3 - (j : Int))) v = σ.setW t.toNat (index x.page (3 - (j : Int))).toNat v := by
  obtain ⟨hl, e⟩ := List.getElem?_eq_some_iff.1 hj
  have hlen := h.all_len
  have := h.sum
  unfold storeS
  rw [if_pos (by rw [hasW_index h.hp (by omega) (by omega), hσ]; exact h.all_has hs t (e ▸ List.getElem_mem hl))]
theorem InsAt.last (h : InsAt s r x n m sz) {t : Int} (ht : (allI s r x m)[n + m]? = some t) (σ : Ms) (lw : Int) : upL σ x.page lw sz ((allI s r x m).drop (n + m)) = σ.setW t.toNat (index x.page (3 - ((n + m : Nat) : Int))).toNat lw := by
  obtain ⟨hl, e⟩ := List.getElem?_eq_some_iff.1 ht
  rw [List.drop_eq_getElem_cons hl, e, List.drop_eq_nil_of_le (by rw [h.all_len]; omega)]
  show σ.setW t.toNat (index x.page sz).toNat lw = _
  have := h.sum
  rw [show (3 : Int) - ((n + m : Nat) : Int) = (sz : Int) by omega]
theorem InsAt.step (h : InsAt s r x n m sz) {j : Nat} {t k : Int} (ht : (allI s r x m)[j]? = some t) (hk : (allI s r x m)[j + 1]? = some k) (σ : Ms) (lw : Int) :
    upL σ x.page lw sz ((allI s r x m).drop j) = (upL σ x.page lw sz ((allI s r x m).drop (j + 1))).setW t.toNat (index x.page (3 - (j : Int))).toNat (encW ⟨true, false, 7, false, false, k⟩ (3 - (j : Int))) := by
  obtain ⟨hl, e⟩ := List.getElem?_eq_some_iff.1 ht
  obtain ⟨hl2, e2⟩ := List.getElem?_eq_some_iff.1 hk
  have hlen := h.all_len
  have := h.sum
  have hd : (allI s r x m).drop j = t :: (allI s r x m).drop (j + 1) := by rw [List.drop_eq_getElem_cons hl, e]
  have hd2 : (allI s r x m).drop (j + 1) = k :: (allI s r x m).drop (j + 2) := by rw [List.drop_eq_getElem_cons hl2, e2]
  rw [hd, hd2]
  show (upL σ x.page lw sz (k :: (allI s r x m).drop (j + 2))).setW t.toNat (index x.page (sz + ((allI s r x m).drop (j + 2)).length + 1 : Nat)).toNat (tabW k (sz + ((allI s r x m).drop (j + 2)).length + 1)) = _
  have hz : sz + ((allI s r x m).drop (j + 2)).length + 1 = 3 - j := by rw [List.length_drop]; omega
  rw [hz]
  unfold tabW tabE
  rw [show ((3 - j : Nat) : Int) = 3 - (j : Int) by omega]
theorem InsAt.fin (h : InsAt s r x n m sz) (hs : s.Ok) (hc : insC s r x = 0) : upL (takeN s m) x.page (encW (leafE x) x.size) sz ((allI s r x m).drop n) = insS s r x := by
  have := h.sum
  obtain ⟨_, n', hn', _, _, hu⟩ := way_tabs h.code
  obtain ⟨t, ht⟩ : ∃ t, (way s r x.page).tabs[n]? = some t := ⟨_, List.getElem?_eq_getElem (by rw [h.len]; omega)⟩
  have hlast := last_get' h.len ht
  obtain ⟨hl, e⟩ := List.getElem?_eq_some_iff.1 ht
  unfold insS
  rw [if_pos hc, hlast, h.size, h.lev]
  have e1 : ((3 : Int) - (n : Int) - (sz : Int)).toNat = m := by omega
  have e2 : ((sz : Nat) : Int).toNat = sz := by omega
  rw [e1, e2, chain_up h.hp (by omega) m s t hs h.fr (hu t (e ▸ List.getElem_mem hl)) (by omega)]
  congr 1
  unfold allI
  rw [List.drop_append_of_le_length (by rw [h.len]; omega), List.drop_eq_getElem_cons (by rw [h.len]; omega), e, List.drop_eq_nil_of_le (by rw [h.len]; omega)]
  rfl
end
theorem check_hasB {x : Mp} (h : check x = 0) : hasB x.page = true ∧ ∃ z : Nat, x.size = z ∧ z ≤ 2 := by
  have hx := mapOk_of h
  have h0 := hx.p0
  have h1 := hx.p1
  have h2 := hx.sp
  refine ⟨by unfold hasB; simp; omega, ?_⟩
  rcases hx.size with ⟨e, _⟩ | ⟨e, _⟩ | ⟨e, _⟩
  · exact ⟨0, e, by omega⟩
  · exact ⟨1, e, by omega⟩
  · exact ⟨2, e, by omega⟩
end Go.Proofs.Ytmfheghbgihdmaa
namespace Go.Proofs.Ytmfheghbgihdmaa
open Go.RowKit
set_option maxRecDepth 100000
end Go.Proofs.Ytmfheghbgihdmaa
namespace Go.Proofs.Ytmfheghbgihdmaa
open Go.RowKit
set_option maxRecDepth 100000
end Go.Proofs.Ytmfheghbgihdmaa
namespace Go.Proofs.Ytmfheghbgihdmaa
open Go.RowKit
set_option maxRecDepth 100000
end Go.Proofs.Ytmfheghbgihdmaa
namespace Go.Proofs.Ytmfheghbgihdmaa
open Go.RowKit
set_option maxRecDepth 100000
end Go.Proofs.Ytmfheghbgihdmaa
namespace Go.Proofs.Ytmfheghbgihdmaa
open Go.RowKit
set_option maxRecDepth 100000
end Go.Proofs.Ytmfheghbgihdmaa
namespace Go.Proofs.Ytmfheghbgihdmaa
open Go.RowKit
set_option maxRecDepth 100000
theorem irow_at {w : World} {R : HProp} {A : Option Addr} {n c : Nat} {l : List Int} (h : Has w (irow (.slice A n c) l * R)) {k : Nat} (hk : k < l.length) :
    ∃ b, A = some ⟨b, 0, none⟩ ∧ b < w.heap.size ∧ w.cell? ⟨b, k, none⟩ = some ((Value.int .i64) l[k]) := by
  have hf := (Has.rowCases (e := 3) (size := 1) h)
  have hn : n = l.length := by
    rcases hf with ⟨hv, h0, _⟩ | ⟨g, cap, cur, hv, _⟩
    · injection hv with a b
      omega
    · injection hv
  subst hn
  obtain ⟨b, e, hb, hc, _⟩ := Has.rowGet (e := 3) (size := 1) h (i := k) (u := (Value.int .i64) l[k]) (by simp [hk])
  exact ⟨b, e, hb, hc⟩
theorem irow_len {w : World} {R : HProp} {A : Option Addr} {n c : Nat} {l : List Int} (h : Has w (irow (.slice A n c) l * R)) : n = l.length := by
  rcases (Has.rowCases (e := 3) (size := 1) h) with ⟨hv, h0, _⟩ | ⟨g, cap, cur, hv, _⟩
  · injection hv with a b
    omega
  · injection hv
theorem irow_small {w : World} {R : HProp} {A : Option Addr} {n c : Nat} {l : List Int} (h : Has w (irow (.slice A n c) l * R)) : n ≤ 9223372036854775807 := by
  obtain rfl := irow_len h
  exact (Has.rowLens (e := 3) (size := 1) h).2
end Go.Proofs.Ytmfheghbgihdmaa
namespace Go.Proofs.Ytmfheghbgihdmaa
open Go.RowKit
set_option maxRecDepth 100000
section
variable {P : Program} {fn : Func} {tmps : Array Value} {w : World}
/-- Three results: the first two in cells. -/
theorem results_cct {a b c : Nat} {t t' : TypeId} {p p' : Addr} {v u x : Value} (hr : fn.results = #[.cell a t, .cell b t', .tmp c]) (ha : tmps.getD a undef = .pointer (some p)) (hb : tmps.getD b undef = .pointer (some p')) (hc : tmps.getD c undef = x) (hl : (loadVar t p).run P w = .ok v w) (hl' : (loadVar t' p').run P w = .ok u w) :
    (results fn tmps).run P w = .ok (.tuple #[v, u, x]) w := by
  unfold results
  rw [hr]
  simp only [Array.getD_eq_getD_getElem?] at ha hb hc
  simp [asAddr, ha, hb, hc, hl, hl']
end
def enV (e : En) : Value := .agg #[Value.bool e.there, Value.bool e.leaf, (Value.int .i64) e.rights, Value.bool e.used, Value.bool e.dirty, (Value.int .i64) e.frame]
end Go.Proofs.Ytmfheghbgihdmaa
namespace Go.Proofs.Ytmfheghbgihdmaa
open Go.RowKit
set_option maxRecDepth 100000
theorem putB (b f : Nat) (t i l : Int) (v : Value) (e : En) (s : Ms) (R : HProp) (w : World) (h : Has w (blk b #[.pointer (some ⟨f, 0, none⟩), v] 133 * (framesAt f s * R))) :
    Calls Try.prog 63 #[.pointer (some ⟨b, 0, none⟩), (Value.int .i64) t, (Value.int .i64) i, (Value.int .i64) l, .agg #[Value.bool e.there, Value.bool e.leaf, (Value.int .i64) e.rights, Value.bool e.used, Value.bool e.dirty, (Value.int .i64) e.frame]] w (Res (.tuple #[]) (blk b #[.pointer (some ⟨f, 0, none⟩), v] 133 * (framesAt f (storeS s t i (encW e l)) * R)) w) := by
  have h1 := h.new #[Value.bool e.there, Value.bool e.leaf, (Value.int .i64) e.rights, Value.bool e.used, Value.bool e.dirty, (Value.int .i64) e.frame] 51
  have x1 := (Ext.refl w).alloc (.cells #[Value.bool e.there, Value.bool e.leaf, (Value.int .i64) e.rights, Value.bool e.used, Value.bool e.dirty, (Value.int .i64) e.frame] 51)
  have HE := Lib.hid (encode_any e l)
  have HS := Lib.hid (fun R w h => storeF f s t i (encW e l) R w h)
  generalize storeS s t i (encW e l) = s' at *
  generalize s.hasW t i = ok at *
  generalize encW e l = wd at *
  generalize entFault e l = ff at *
  clear h
  obtain ⟨c0, c1, c2, c3, c4, c5⟩ := h1.cells6
  go_enter Try.func63, Try.ntmps63
  go_wp2_with fail
  refine (HE.out _).mono ?_; rintro e2 w2 ⟨rfl, b2⟩
  have h2 := h1.below b2
  have x2 := x1.below b2
  clear h1 x1 c0 c1 c2 c3 c4 c5
  obtain ⟨b0, b1⟩ := h2.right.cells2
  have bl := h2.right.lt
  go_wp2_with fail
  refine (HS.out _ _ (h2.eq (show _ = framesAt f s * (blk b #[.pointer (some ⟨f, 0, none⟩), v] 133 * (blk w.heap.size #[Value.bool e.there, Value.bool e.leaf, (Value.int .i64) e.rights, Value.bool e.used, Value.bool e.dirty, (Value.int .i64) e.frame] 51 * R)) by ac_rfl))).mono ?_; rintro e3 w3 ⟨rfl, h3, x3⟩
  have h4 := h3.eq (show _ = blk w.heap.size #[Value.bool e.there, Value.bool e.leaf, (Value.int .i64) e.rights, Value.bool e.used, Value.bool e.dirty, (Value.int .i64) e.frame] 51 * (blk b #[.pointer (some ⟨f, 0, none⟩), v] 133 * (framesAt f s' * R)) by ac_rfl)
  go_wp2_with fail
  exact bodyPost_ret (v := .tuple #[]) (by simp [results, Try.results63]) rfl ⟨rfl, h4.right, x2.trans x3⟩
def emptyV (s : Ms) (t : Int) : Bool := (List.range 8).all fun (i : Nat) => loadV s t i == 0
theorem emptyV_eq {s : Ms} {t : Int} (h : s.has t = true) : emptyV s t = allZ s t := by
  unfold emptyV allZ
  have e : ∀ i ∈ List.range 8, (loadV s t ((i : Nat) : Int) == 0) = (wordV s t ((i : Nat) : Int) == 0) := fun i hi => by
    have hi := List.mem_range.1 hi
    have hw : s.hasW t ((i : Nat) : Int) = true := hasW_iff.2 ⟨h, by omega, by omega⟩
    unfold loadV wordV
    rw [if_pos hw]
  rw [Bool.eq_iff_iff, List.all_eq_true, List.all_eq_true]
  constructor
  · intro hh x hx
    rw [← e x hx]; exact hh x hx
  · intro hh x hx
    rw [e x hx]; exact hh x hx
theorem emptyT (f : Nat) (t : Int) (s : Ms) (R : HProp) (w : World) (h : Has w (framesAt f s * R)) : Calls Try.prog 65 #[.pointer (some ⟨f, 0, none⟩), (Value.int .i64) t] w (Same (Value.bool (emptyV s t)) w) := by
  have HL := Lib.hid (fun (i : Int) => loadF f s t i R w h)
  have hyy : ∀ i : Nat, i < 8 → emptyV s t = true → loadV s t i = 0 := fun i hi he => by
    unfold emptyV at he
    rw [List.all_eq_true] at he
    simpa using he i (List.mem_range.2 hi)
  have hnn : ∀ i : Nat, i < 8 → loadV s t i ≠ 0 → emptyV s t = false := fun i hi hn => by
    cases he : emptyV s t with
    | false => rfl
    | true => exact absurd (hyy i hi he) hn
  have hall : (∀ i : Nat, i < 8 → loadV s t i = 0) → emptyV s t = true := fun hh => by
    unfold emptyV
    rw [List.all_eq_true]
    intro x hx
    simpa using hh x (List.mem_range.1 hx)
  have HNN := Lib.hid hnn
  have HALL := Lib.hid hall
  have HW := Lib.hid h
  clear hyy hnn hall h
  generalize emptyV s t = ev at *
  go_enter Try.func65, Try.ntmps65
  go_wp2_with fail
  go_loopw [8] (fun t8 wr => ∃ i : Nat, i ≤ 8 ∧ t8 = (Value.int .i64) i ∧ Hid (∀ j : Nat, j < i → loadV s t j = 0) ∧ w = wr) (fun t8 _ => 8 - (intOf t8).toNat)
  case atStart => exact ⟨0, by omega, rfl, Lib.hid (fun j hj => by omega), rfl⟩
  case round =>
    obtain ⟨i, hi, rfl, HZ, rfl⟩ := hrel
    by_cases hlt : i < 8
    · have hL := Lib.hid (HL.out (i : Int))
      have hlt' : (i : Int) < 8 := by omega
      by_cases hz : loadV s t (i : Int) = 0
      · rw [hz] at hL
        have HZ' := Lib.hid (show ∀ j : Nat, j < i + 1 → loadV s t j = 0 from fun j hj => by
          by_cases e : j = i
          · subst e; exact hz
          · exact HZ.out j (by omega))
        clear hz
        generalize s.hasW t (i : Int) = hw at *
        go_wp2_with fail
        refine hL.out.mono ?_; rintro e2 w2 ⟨rfl, rfl⟩
        go_wp2_with fail
        go_roundw
        case rel => exact ⟨i + 1, by omega, by go_num, HZ', trivial⟩
        case measure => simp [intOf]; omega
      · have hev := HNN.out i hlt hz
        have hne : (loadV s t (i : Int) != 0) = true := by simpa using hz
        subst hev
        clear hz
        generalize s.hasW t (i : Int) = hw at *
        generalize loadV s t (i : Int) = lv at *
        go_wp2_with fail
        refine hL.out.mono ?_; rintro e2 w2 ⟨rfl, rfl⟩
        go_wp2_with fail
        go_ret
        exact ⟨rfl, rfl⟩
    · obtain rfl : i = 8 := by omega
      have hev := HALL.out HZ.out
      subst hev
      go_wp2_with fail
      go_ret
      exact ⟨rfl, rfl⟩
end Go.Proofs.Ytmfheghbgihdmaa
namespace Go.Proofs.Ytmfheghbgihdmaa
open Go.RowKit
/-- From where the word in the k-th table is gone already. -/
def cutT (p : Int) (tabs : List Int) : Nat → Ms → Ms × List Int
  | 0, s => (s, [])
  | k + 1, s =>
    if allZ s (tabs.getD (k + 1) 0) = true then
      ((cutT p tabs k (s.setW (tabs.getD k 0).toNat (index p (3 - k : Nat)).toNat 0)).1, tabs.getD (k + 1) 0 :: (cutT p tabs k (s.setW (tabs.getD k 0).toNat (index p (3 - k : Nat)).toNat 0)).2)
    else (s, [])
theorem cutR_T (p : Int) (tabs : List Int) : ∀ (k : Nat) (s : Ms), cutR p tabs k s = cutT p tabs k (s.setW (tabs.getD k 0).toNat (index p (3 - k : Nat)).toNat 0)
  | 0, s => rfl
  | k + 1, s => by
    show (if allZ (s.setW (tabs.getD (k + 1) 0).toNat (index p (3 - (k + 1) : Nat)).toNat 0) (tabs.getD (k + 1) 0) = true then _ else _) = (if _ then _ else _)
    rw [cutR_T p tabs k]
theorem cutT_no (p : Int) (tabs : List Int) {k : Nat} {s : Ms} (h : k = 0 ∨ allZ s (tabs.getD k 0) = false) : cutT p tabs k s = (s, []) := by
  cases k with
  | zero => rfl
  | succ k =>
    rcases h with h | h
    · cases h
    · unfold cutT
      rw [if_neg (by rw [h]; simp)]
theorem cutT_yes (p : Int) (tabs : List Int) {k j : Nat} {s : Ms} (hk : k = j + 1) (h : allZ s (tabs.getD k 0) = true) :
    cutT p tabs k s = ((cutT p tabs j (s.setW (tabs.getD j 0).toNat (index p (3 - j : Nat)).toNat 0)).1, tabs.getD k 0 :: (cutT p tabs j (s.setW (tabs.getD j 0).toNat (index p (3 - j : Nat)).toNat 0)).2) := by
  subst hk
  conv => lhs; unfold cutT
  rw [if_pos h]
end Go.Proofs.Ytmfheghbgihdmaa
namespace Go.Proofs.Ytmfheghbgihdmaa
open Go.RowKit
theorem Agree.takeS {s s' : Ms} (h : Agree s s') : Agree s.takeS s'.takeS := by
  have ht := h.top
  cases hk : s.top with
  | none =>
    have e1 : s.takeS = s := by unfold Ms.takeS; rw [hk]
    have e2 : s'.takeS = s' := by unfold Ms.takeS; rw [← ht, hk]
    rw [e1, e2]; exact h
  | some k =>
    have hk' : s'.top = some k := by rw [← ht]; exact hk
    have e1 : s.takeS = s.take k := by unfold Ms.takeS; rw [hk]
    have e2 : s'.takeS = s'.take k := by unfold Ms.takeS; rw [hk']
    have f1 := takeS_frees hk
    have f2 := takeS_frees hk'
    rw [h.fr] at f1
    rw [e1] at f1 ⊢
    rw [e2] at f2 ⊢
    refine ⟨h.n, fun j => ?_, List.append_cancel_right (f1.trans f2.symm), fun j i hj => ?_⟩
    · show fput s.tk k true j = fput s'.tk k true j
      unfold fput
      rw [h.tk]
    · show (if j = k then (0 : Int) else s.wd j i) = (if j = k then (0 : Int) else s'.wd j i)
      by_cases e : j = k
      · rw [if_pos e, if_pos e]
      · rw [if_neg e, if_neg e]
        have hj : fput s.tk k true j = true := hj
        rw [fput_ne _ _ e] at hj
        exact h.wd j i hj
theorem Agree.takeN {s s' : Ms} (h : Agree s s') : ∀ m, Agree (takeN s m) (takeN s' m)
  | 0 => h
  | m + 1 => (Agree.takeN h m).takeS
theorem Agree.chain {p lw : Int} {sz : Nat} : ∀ (m : Nat) (s s' : Ms) (t : Int), Agree s s' → Agree (chain s p lw sz m t) (chain s' p lw sz m t)
  | 0, _, _, _, h => h.setW _ _ _
  | m + 1, s, s', t, h => by
    have ht := h.top
    unfold Go.Proofs.Ytmfheghbgihdmaa.chain
    rw [← ht]
    cases hk : s.top with
    | none => exact h
    | some k =>
      have hk' : s'.top = some k := by rw [← ht]; exact hk
      have e1 : s.takeS = s.take k := by unfold Ms.takeS; rw [hk]
      have e2 : s'.takeS = s'.take k := by unfold Ms.takeS; rw [hk']
      have h2 := h.takeS
      rw [e1, e2] at h2
      exact Agree.chain m _ _ _ (h2.setW _ _ _)
section
variable {s s' : Ms}
theorem Agree.insS (h : Agree s s') (r : Int) (x : Mp) : Agree (insS s r x) (insS s' r x) := by
  unfold Go.Proofs.Ytmfheghbgihdmaa.insS
  rw [← h.insC r x, ← h.way r x.page]
  split
  · exact Agree.chain _ _ _ _ h
  · exact h
theorem Agree.allZ (h : Agree s s') {t : Int} (ht : s.has t = true) : allZ s t = allZ s' t := by
  have e : ∀ i : Nat, wordV s t i = wordV s' t i := fun i => h.word ht i
  unfold Go.Proofs.Ytmfheghbgihdmaa.allZ
  simp only [e]
theorem Agree.cutR {p : Int} {tabs : List Int} : ∀ (k : Nat) (s s' : Ms), Agree s s' → (∀ j, j ≤ k → s.has (tabs.getD j 0) = true) → Agree (cutR p tabs k s).1 (cutR p tabs k s').1 ∧ (cutR p tabs k s).2 = (cutR p tabs k s').2
  | 0, _, _, h, _ => ⟨h.setW _ _ _, rfl⟩
  | k + 1, s, s', h, hu => by
    have h1 : Agree (s.setW (tabs.getD (k + 1) 0).toNat (index p (3 - (k + 1) : Nat)).toNat 0) (s'.setW (tabs.getD (k + 1) 0).toNat (index p (3 - (k + 1) : Nat)).toNat 0) := h.setW _ _ _
    have hz := h1.allZ (t := tabs.getD (k + 1) 0) (hu _ (Nat.le_refl _))
    obtain ⟨i1, i2⟩ := Agree.cutR (p := p) (tabs := tabs) k _ _ h1 (fun j hj => hu j (by omega))
    unfold Go.Proofs.Ytmfheghbgihdmaa.cutR
    rw [← hz]
    split
    · exact ⟨i1, by rw [i2]⟩
    · exact ⟨h1, rfl⟩
theorem Agree.rem (h : Agree s s') (r p : Int) : Agree (remS s r p) (remS s' r p) ∧ remG s r p = remG s' r p := by
  unfold remS remG
  rw [← h.findC r p, ← h.way r p]
  by_cases hf : Go.Proofs.Ytmfheghbgihdmaa.findC s r p = 0
  · rw [if_pos hf, if_pos hf, if_pos hf, if_pos hf]
    have hcode : (Go.Proofs.Ytmfheghbgihdmaa.way s r p).code = 0 := by
      unfold Go.Proofs.Ytmfheghbgihdmaa.findC at hf
      split at hf
      · rename_i hn; exact absurd hf hn
      · rename_i hn; simpa using hn
    obtain ⟨_, n, hn, _, _, hu⟩ := way_tabs hcode
    rw [hn, Nat.add_sub_cancel]
    refine Agree.cutR n s s' h fun j hj => ?_
    rw [List.getD_eq_getElem?_getD, List.getElem?_eq_getElem (by omega)]
    exact hu _ (List.getElem_mem _)
  · rw [if_neg hf, if_neg hf, if_neg hf, if_neg hf]
    exact ⟨h, rfl⟩
theorem Agree.pr (h : Agree s s') (r p ri : Int) : Agree (prS s r p ri) (prS s' r p ri) ∧ prC s r p ri = prC s' r p ri ∧ prM s r p ri = prM s' r p ri := by
  have hc : prC s r p ri = prC s' r p ri := by unfold prC; rw [h.findC]
  refine ⟨?_, hc, ?_⟩
  · unfold prS
    rw [← hc, ← h.way r p]
    split
    · exact h.setW _ _ _
    · exact h
  · unfold prM
    rw [← hc, ← h.findM r p]
end
/-- Removing keeps the law of a memory. -/
theorem cutR_ok2 {p : Int} {tabs : List Int} : ∀ (k : Nat) {s : Ms}, s.Ok → (cutR p tabs k s).1.Ok
  | 0, _, h => h.setW _ _ ⟨by omega, by omega⟩
  | k + 1, _, h => by
    unfold Go.Proofs.Ytmfheghbgihdmaa.cutR
    split
    · exact cutR_ok2 k (h.setW _ _ ⟨by omega, by omega⟩)
    · exact h.setW _ _ ⟨by omega, by omega⟩
theorem remS_ok {s : Ms} (h : s.Ok) (r p : Int) : (remS s r p).Ok := by
  unfold remS
  split
  · exact cutR_ok2 _ h
  · exact h
theorem prS_ok {s : Ms} (h : s.Ok) (r p ri : Int) : (prS s r p ri).Ok := by
  unfold prS
  split
  · exact h.setW _ _ (encW_u64 _ _)
  · exact h
end Go.Proofs.Ytmfheghbgihdmaa
namespace Go.Proofs.Ytmfheghbgihdmaa
open Go.RowKit
set_option maxRecDepth 100000
/-- A Shoot at block p: what was told, and who waits. -/
def shootAt (p : Nat) (m : Mp) (ws : Nat → Bool) : HProp :=
  blk p #[(Value.int .i64) m.page, (Value.int .i64) m.size, (Value.int .i64) m.frame, (Value.int .i64) m.rights, Value.bool (ws 0), Value.bool (ws 1), Value.bool (ws 2), Value.bool (ws 3)] 89
def overB (ws : Nat → Bool) : Bool := !ws 0 && (!ws 1 && (!ws 2 && !ws 3))
theorem over_any (p : Nat) (m : Mp) (ws : Nat → Bool) (R : HProp) (w : World) (h : Has w (shootAt p m ws * R)) :
    Calls Try.prog 49 #[.pointer (some ⟨p, 0, none⟩)] w fun e w' => e = .returned (Value.bool (overB ws)) ∧ w = w' := by
  have c4 : w.cell? ⟨p, 4, none⟩ = some (Value.bool (ws 0)) := h.cell 4
  have c5 : w.cell? ⟨p, 5, none⟩ = some (Value.bool (ws 1)) := h.cell 5
  have c6 : w.cell? ⟨p, 6, none⟩ = some (Value.bool (ws 2)) := h.cell 6
  have c7 : w.cell? ⟨p, 7, none⟩ = some (Value.bool (ws 3)) := h.cell 7
  go_enter Try.func49, Try.ntmps49
  go_wp2
  go_ret
  exact ⟨rfl, rfl⟩
def waitsB (ws : Nat → Bool) (k : Int) : Bool := decide (0 ≤ k) && (decide (k < 4) && ws k.toNat)
theorem shoot_cell {p : Nat} {m : Mp} {ws : Nat → Bool} {R : HProp} {w : World} (h : Has w (shootAt p m ws * R)) (k : Nat) (hk : k < 4) : w.cell? ⟨p, 4 + k, none⟩ = some (Value.bool (ws k)) := by
  rw [h.cell (4 + k)]
  match k, hk with
  | 0, _ | 1, _ | 2, _ | 3, _ => rfl
theorem waits_no {ws : Nat → Bool} {k : Int} (h : ¬ (0 ≤ k ∧ k < 4)) : waitsB ws k = false := by
  unfold waitsB
  by_cases h0 : 0 ≤ k <;> by_cases h4 : k < 4 <;> simp [h0, h4]
  omega
theorem waits_yes {ws : Nat → Bool} {k : Nat} (h : k < 4) : waitsB ws k = ws k := by
  unfold waitsB
  have h4 : (k : Int) < 4 := by omega
  simp [h4]
theorem waits_any (p : Nat) (m : Mp) (ws : Nat → Bool) (k : Int) (R : HProp) (w : World) (h : Has w (shootAt p m ws * R)) :
    Calls Try.prog 79 #[.pointer (some ⟨p, 0, none⟩), .int .i64 k] w fun e w' => e = .returned (Value.bool (waitsB ws k)) ∧ w = w' := by
  by_cases h0 : 0 ≤ k
  · by_cases h4 : k < 4
    · obtain ⟨k, rfl⟩ := Int.eq_ofNat_of_zero_le h0
      have hc := shoot_cell h k (by omega)
      have hy := Lib.hid (waits_yes (ws := ws) (k := k) (by omega))
      go_enter Try.func79, Try.ntmps79
      go_wp2
      go_ret
      exact ⟨by rw [hy.out]; rfl, rfl⟩
    · have hy := Lib.hid (waits_no (ws := ws) (k := k) (by omega))
      go_enter Try.func79, Try.ntmps79
      go_wp2
      go_ret
      exact ⟨by rw [hy.out]; rfl, rfl⟩
  · have hy := Lib.hid (waits_no (ws := ws) (k := k) (by omega))
    go_enter Try.func79, Try.ntmps79
    go_wp2
    go_ret
    exact ⟨by rw [hy.out]; rfl, rfl⟩
theorem new_shoot (R : HProp) (w : World) (h : Has w R) :
    Calls Try.prog 19 #[] w fun e w' => ∃ p, e = .returned (.pointer (some ⟨p, 0, none⟩)) ∧ Has w' (shootAt p Mp.zero (fun _ => false) * R) ∧ Ext w w' := by
  have h1 := h.new #[(Value.int .i64) 0, (Value.int .i64) 0, (Value.int .i64) 0, (Value.int .i64) 0, Value.bool false, Value.bool false, Value.bool false, Value.bool false] 89
  go_enter Try.func19, Try.ntmps19
  go_wp2
  go_ret
  exact ⟨_, rfl, h1, (Ext.refl w).alloc _⟩
/-- What is waited for behind an Ack by core k. -/
def ackW (ws : Nat → Bool) (k : Nat) : Nat → Bool := fun i => if i = k then false else ws i
theorem ack_cells {p : Nat} {m : Mp} {ws : Nat → Bool} {R : HProp} {w : World} (h : Has w (shootAt p m ws * R)) (k : Nat) (hk : k < 4) (b : Bool) :
    Has (w.setCell ⟨p, 4 + k, none⟩ (Value.bool b)) (shootAt p m (fun i => if i = k then b else ws i) * R) := by
  have h1 := h.set (4 + k) (Value.bool b)
  match k, hk, h1 with
  | 0, _, h1 | 1, _, h1 | 2, _, h1 | 3, _, h1 => exact h1
theorem ack_yes (p : Nat) (m : Mp) (ws : Nat → Bool) (k : Int) (R : HProp) (w : World) (h : Has w (shootAt p m ws * R)) (hw : waitsB ws k = true) :
    Calls Try.prog 47 #[.pointer (some ⟨p, 0, none⟩), .int .i64 k] w (Res (.tuple #[m.val, Value.bool true]) (shootAt p m (ackW ws k.toNat) * R) w) := by
  have c0 : w.cell? ⟨p, 0, none⟩ = some ((Value.int .i64) m.page) := h.cell 0
  have c1 : w.cell? ⟨p, 1, none⟩ = some ((Value.int .i64) m.size) := h.cell 1
  have c2 : w.cell? ⟨p, 2, none⟩ = some ((Value.int .i64) m.frame) := h.cell 2
  have c3 : w.cell? ⟨p, 3, none⟩ = some ((Value.int .i64) m.rights) := h.cell 3
  have hlt : p < w.heap.size := h.lt
  have ha := h.alloc (.cells #[(Value.int .i64) 0, (Value.int .i64) 0, (Value.int .i64) 0, (Value.int .i64) 0] 31)
  have hk : 0 ≤ k ∧ k < 4 := by
    by_cases hk : 0 ≤ k ∧ k < 4
    · exact hk
    · rw [waits_no hk] at hw; cases hw
  obtain ⟨hk0, hk4⟩ := hk
  obtain ⟨k, rfl⟩ := Int.eq_ofNat_of_zero_le hk0
  have hf := h.free (4 + k)
  have hc := shoot_cell h k (by omega)
  have hs := ack_cells h k (by omega) false
  go_enter Try.func47, Try.ntmps47
  go_wp2_with (go_at_call 79; refine (waits_any p m ws _ _ _ ha).mono ?_; rintro e w' ⟨rfl, rfl⟩)
  exact bodyPost_ret (v := .tuple #[m.val, Value.bool true]) (by simp [results, Try.results47, go_sem]) rfl ⟨rfl, hs.alloc _, ((Ext.refl w).set _ _).alloc _⟩
theorem ack_no (p : Nat) (m : Mp) (ws : Nat → Bool) (k : Int) (R : HProp) (w : World) (h : Has w (shootAt p m ws * R)) (hw : waitsB ws k = false) :
    Calls Try.prog 47 #[.pointer (some ⟨p, 0, none⟩), .int .i64 k] w (Res (.tuple #[.agg #[(Value.int .i64) 0, (Value.int .i64) 0, (Value.int .i64) 0, (Value.int .i64) 0], Value.bool false]) (shootAt p m ws * R) w) := by
  have ha := h.alloc (.cells #[(Value.int .i64) 0, (Value.int .i64) 0, (Value.int .i64) 0, (Value.int .i64) 0] 31)
  go_enter Try.func47, Try.ntmps47
  go_wp2_with (go_at_call 79; refine (waits_any p m ws _ _ _ ha).mono ?_; rintro e w' ⟨rfl, rfl⟩)
  exact bodyPost_ret (v := .tuple #[.agg #[(Value.int .i64) 0, (Value.int .i64) 0, (Value.int .i64) 0, (Value.int .i64) 0], Value.bool false]) (by simp [results, Try.results47, go_sem]) rfl ⟨rfl, ha, (Ext.refl w).alloc _⟩
def postW (n : Nat) : Nat → Bool := fun i => decide (i < n)
theorem overB_all {ws : Nat → Bool} (h : overB ws = true) : ws 0 = false ∧ ws 1 = false ∧ ws 2 = false ∧ ws 3 = false := by
  unfold overB at h
  simpa using h
theorem post_step {p : Nat} {x : Mp} {j : Nat} {R : HProp} {w : World} (h : Has w (shootAt p x (postW j) * R)) (hj : j < 4) : Has (w.setCell ⟨p, 4 + j, none⟩ (Value.bool true)) (shootAt p x (postW (j + 1)) * R) := by
  have h1 := ack_cells h j hj true
  have e : (fun i => if i = j then true else postW j i) = postW (j + 1) := by
    funext i
    unfold postW
    by_cases hi : i = j
    · simp [hi]
    · simp only [hi, if_false]
      by_cases h2 : i < j <;> simp [h2] <;> omega
  rwa [e] at h1
theorem post_begin {p : Nat} {m x : Mp} {ws : Nat → Bool} {R : HProp} {w : World} (h : Has w (shootAt p m ws * R)) (ho : overB ws = true) :
    Has ((((w.setCell ⟨p, 0, none⟩ ((Value.int .i64) x.page)).setCell ⟨p, 1, none⟩ ((Value.int .i64) x.size)).setCell ⟨p, 2, none⟩ ((Value.int .i64) x.frame)).setCell ⟨p, 3, none⟩ ((Value.int .i64) x.rights)) (shootAt p x (postW 0) * R) := by
  obtain ⟨h0, h1, h2, h3⟩ := overB_all ho
  have := (((h.set 0 ((Value.int .i64) x.page)).set 1 ((Value.int .i64) x.size)).set 2 ((Value.int .i64) x.frame)).set 3 ((Value.int .i64) x.rights)
  rw [h0, h1, h2, h3] at this
  exact this
theorem post_yes (p : Nat) (m x : Mp) (ws : Nat → Bool) (k : Nat) (R : HProp) (w : World) (h : Has w (shootAt p m ws * R)) (ho : overB ws = true) (hk1 : 1 ≤ k) (hk4 : k ≤ 4) :
    Calls Try.prog 66 #[.pointer (some ⟨p, 0, none⟩), .agg #[(Value.int .i64) x.page, (Value.int .i64) x.size, (Value.int .i64) x.frame, (Value.int .i64) x.rights], .int .i64 k] w
      (Res (Value.bool true) (shootAt p x (postW k) * R) w) := by
  have hlt : p < w.heap.size := h.lt
  have ha := h.alloc (.cells #[(Value.int .i64) x.page, (Value.int .i64) x.size, (Value.int .i64) x.frame, (Value.int .i64) x.rights] 31)
  have hb := post_begin (x := x) h ho
  have f0 := h.free 0
  have f1 := h.free 1
  have f2 := h.free 2
  have f3 := h.free 3
  have c0 : w.cell? ⟨p, 0, none⟩ = some ((Value.int .i64) m.page) := h.cell 0
  have c1 : w.cell? ⟨p, 1, none⟩ = some ((Value.int .i64) m.size) := h.cell 1
  have c2 : w.cell? ⟨p, 2, none⟩ = some ((Value.int .i64) m.frame) := h.cell 2
  have c3 : w.cell? ⟨p, 3, none⟩ = some ((Value.int .i64) m.rights) := h.cell 3
  go_enter Try.func66, Try.ntmps66
  go_wp2_with (go_at_call 49; refine (over_any p m ws _ _ ha).mono ?_; rintro e w' ⟨rfl, rfl⟩)
  go_loopw [7, 24, 25, 26, 27, 28, 29, 30, 31, 32] (fun _ t _ _ _ _ _ _ _ _ wr => ∃ j : Nat, j ≤ k ∧ t = (Value.int .i64) j ∧ Has wr (shootAt p x (postW j) * R) ∧ Ext w wr) (fun _ t _ _ _ _ _ _ _ _ _ => k - (intOf t).toNat)
  case atStart => exact ⟨0, Nat.zero_le _, rfl, hb.alloc _, ((((Ext.refl w).set _ _).set _ _).set _ _).set _ _ |>.alloc _⟩
  case round =>
    obtain ⟨j, hj, rfl, hr, hx⟩ := hrel
    clear hb ha c0 c1 c2 c3 f0 f1 f2 f3 hlt
    by_cases hlt : j < k
    · have hf := hr.free (4 + j)
      have hc := shoot_cell hr j (by omega)
      have hs := post_step hr (by omega)
      go_wp2
      go_roundw
      case rel => exact ⟨j + 1, by omega, by go_num, hs, hx.set _ _⟩
      case measure => simp [intOf]; omega
    · obtain rfl : j = k := by omega
      go_wp2
      go_ret
      exact ⟨rfl, hr, hx⟩
end Go.Proofs.Ytmfheghbgihdmaa
namespace Go.Proofs.Ytmfheghbgihdmaa
open Go.RowKit
/-- What a step came to. -/
structure Ev where
  code : Int
  fin : Bool
  an : An
  back : Bool
  deriving DecidableEq
def Ev.no (c : Int) : Ev := ⟨c, false, An.zero, false⟩
/-- A core: what it keeps, and its walk. -/
structure Cr where
  l : List Ln
  k : Ck
def Cr.zero : Cr := ⟨[], Ck.zero⟩
structure Sc where
  s : Ms
  cs : List Cr
  told : Mp
  wait : Nat → Bool
  busy : Bool
  gone : List Int
namespace Sc
def new (cores n : Nat) : Sc := ⟨(Ms.new n).takeS, List.replicate cores Cr.zero, Mp.zero, fun _ => false, false, []⟩
def core (σ : Sc) (k : Nat) : Cr := σ.cs.getD k Cr.zero
def post (σ : Sc) (s : Ms) (m : Mp) (g : List Int) : Sc := { σ with s := s, told := m, wait := postW σ.cs.length, busy := true, gone := g }
def change (σ : Sc) (x : Stp) : Sc × Ev :=
  if σ.busy = true then (σ, .no 8)
  else if x.kind = 1 then ({ σ with s := insS σ.s 0 x.m }, ⟨insC σ.s 0 x.m, false, An.zero, decide (insC σ.s 0 x.m = 0)⟩)
  else if x.kind = 2 then
    if findC σ.s 0 x.m.page = 0 then (σ.post (remS σ.s 0 x.m.page) (findM σ.s 0 x.m.page) (remG σ.s 0 x.m.page), .no 0) else (σ, .no (findC σ.s 0 x.m.page))
  else if prC σ.s 0 x.m.page x.m.rights = 0 then (σ.post (prS σ.s 0 x.m.page x.m.rights) (prM σ.s 0 x.m.page x.m.rights) [], .no 0)
  else (σ, .no (prC σ.s 0 x.m.page x.m.rights))
def put (σ : Sc) (k : Nat) (c : Cr) : Sc := { σ with cs := σ.cs.set k c }
/-- A core looks after what it was told. -/
def heed (σ : Sc) (k : Nat) : Sc := { σ with cs := σ.cs.set k ⟨Tl.drop (σ.core k).l σ.told, (σ.core k).k.again 0⟩, wait := ackW σ.wait k }
def over (σ : Sc) : Sc := { σ with s := giveL σ.s σ.gone, busy := false, gone := [] }
def ack (σ : Sc) (k : Nat) : Sc × Ev :=
  if σ.wait k = false then (σ, .no 9)
  else if overB (σ.heed k).wait = true then ((σ.heed k).over, ⟨0, false, An.zero, true⟩)
  else (σ.heed k, .no 0)
def access (σ : Sc) (k : Nat) (a : Ac) : Sc × Ev :=
  (σ.put k ⟨(σ.core k).l, (coreB (σ.core k).l 0 (σ.core k).k a).c⟩, ⟨(coreB (σ.core k).l 0 (σ.core k).k a).code, (coreB (σ.core k).l 0 (σ.core k).k a).fin, (coreB (σ.core k).l 0 (σ.core k).k a).an, false⟩)
def walk (σ : Sc) (k : Nat) : Sc × Ev :=
  ({ σ.put k ⟨keepL (σ.core k).l (stepC σ.s 0 (σ.core k).k).r, (stepC σ.s 0 (σ.core k).k).c⟩ with s := (stepC σ.s 0 (σ.core k).k).s },
    ⟨(stepC σ.s 0 (σ.core k).k).code, (stepC σ.s 0 (σ.core k).k).r.fin, (stepC σ.s 0 (σ.core k).k).r.an, false⟩)
def evict (σ : Sc) (k : Nat) : Sc × Ev :=
  if (σ.core k).l = [] then (σ, .no 9) else (σ.put k ⟨Tl.evict (σ.core k).l, (σ.core k).k⟩, .no 0)
/-- A step. -/
def act (σ : Sc) (x : Stp) : Sc × Ev :=
  if 1 ≤ x.kind ∧ x.kind ≤ 3 then σ.change x
  else if x.kind < 1 ∨ 7 < x.kind then (σ, .no 2)
  else if x.core < 0 ∨ (σ.cs.length : Int) ≤ x.core then (σ, .no 1)
  else if x.kind = 4 then σ.access x.core.toNat x.a
  else if x.kind = 5 then σ.walk x.core.toNat
  else if x.kind = 6 then σ.ack x.core.toNat
  else σ.evict x.core.toNat
/-- What is on its way in a core. -/
def on (σ : Sc) (k : Int) : Bool := decide (0 ≤ k) && (decide (k < σ.cs.length) && (σ.core k.toNat).k.on)
def acc (σ : Sc) (k : Int) : Ac := if σ.on k = true then (σ.core k.toNat).k.a else Ac.zero
def kept (σ : Sc) (k : Int) : List Ln := if 0 ≤ k ∧ k < σ.cs.length then (σ.core k.toNat).l else []
/-- A space that is whole, as far as each of its pieces is. -/
structure Ok (σ : Sc) : Prop where
  s : σ.s.Ok
  c : ∀ c ∈ σ.cs, Tl.Ok c.l ∧ c.k.Ok
  few : σ.cs.length ≤ 4
  one : 1 ≤ σ.cs.length
  w : ∀ i, σ.cs.length ≤ i → σ.wait i = false
  told : σ.told.ok
theorem core_ok {σ : Sc} (h : σ.Ok) (k : Nat) : Tl.Ok (σ.core k).l ∧ (σ.core k).k.Ok := by
  unfold core
  rw [List.getD_eq_getElem?_getD]
  cases hk : σ.cs[k]? with
  | none => exact ⟨Tl.Ok.nil, Ck.Ok.zero⟩
  | some c => exact h.c c (List.mem_of_getElem? hk)
theorem put_len (σ : Sc) (k : Nat) (c : Cr) : (σ.put k c).cs.length = σ.cs.length := List.length_set ..
theorem mem_set {cs : List Cr} {k : Nat} {c x : Cr} (h : x ∈ cs.set k c) : x = c ∨ x ∈ cs := (List.mem_or_eq_of_mem_set h).symm
theorem Ok.put {σ : Sc} (h : σ.Ok) (k : Nat) {c : Cr} (h1 : Tl.Ok c.l) (h2 : c.k.Ok) : (σ.put k c).Ok :=
  ⟨h.s, fun x hx => by rcases mem_set hx with rfl | hx; exact ⟨h1, h2⟩; exact h.c x hx, by rw [put_len]; exact h.few, by rw [put_len]; exact h.one, fun i hi => h.w i (by rw [put_len] at hi; exact hi), h.told⟩
theorem mp_ok_zero : Mp.zero.ok := by
  refine ⟨?_, ?_, ?_, ?_⟩ <;> (show i64 0; unfold i64; omega)
end Sc
end Go.Proofs.Ytmfheghbgihdmaa
namespace Go.Proofs.Ytmfheghbgihdmaa
open Go.RowKit Go.Shelf
set_option maxRecDepth 100000
attribute [local go_sem] Oper.semAt_some
/-- What has come when k rounds are over, of a row from its end. -/
def backL (m : List Int) (k : Nat) : List (Int × Int) := (List.range k).map fun (j : Nat) => (((m.length : Int) - 1 - (j : Int)), m[m.length - 1 - j]?.getD 0)
theorem backL_succ (m : List Int) (k : Nat) : backL m (k + 1) = backL m k ++ [(((m.length : Int) - 1 - k), m[m.length - 1 - k]?.getD 0)] := by simp [backL, List.range_succ]
theorem backL_len (m : List Int) (k : Nat) : (backL m k).length = k := by simp [backL]
theorem backL_all (m : List Int) : (backL m m.length).map Prod.snd = m.reverse := by
  unfold backL
  rw [List.map_map]
  apply List.ext_getElem
  · simp
  · intro i h1 h2
    simp at h1 h2 ⊢
    rw [List.getElem?_eq_getElem (by omega)]
    rfl
/-- What the body must keep. -/
structure KpT (T : Nat → Prop) (A B : World) : Prop where
  same : ∀ b, T b → B.heap[b]? = A.heap[b]?
theorem KpT.refl (T : Nat → Prop) (A : World) : KpT T A A := ⟨fun _ _ => rfl⟩
theorem KpT.trans {T : Nat → Prop} {A B C : World} (h : KpT T A B) (k : KpT T B C) : KpT T A C := ⟨fun b hb => (k.same b hb).trans (h.same b hb)⟩
theorem KpT.cell {T : Nat → Prop} {A B : World} (h : KpT T A B) {b o : Nat} (hb : T b) : B.cell? ⟨b, o, none⟩ = A.cell? ⟨b, o, none⟩ := by
  have := h.same b hb
  unfold World.cell?
  simp only [this]
set_option maxHeartbeats 2000000 in
theorem back1 (n : Nat) (hn : 1 ≤ n) (l Bs c : Nat) (A : Option Addr) (m : List Int) (hm : m.length ≤ 9223372036854775807) (T : Nat → Prop) (hT : T Bs) (J Jx : List (Int × Int) → World → Prop)
    (hY : ∀ pre x W, J pre W → pre.length < m.length → YieldAt Fence.wide (n - 1) Try.prog l #[(Value.int .i64) x.1, (Value.int .i64) x.2] W fun e W' =>
      (e = .returned (.bool true) ∧ J (pre ++ [x]) W' ∧ KpT T W W') ∨ (e = .returned (.bool false) ∧ Jx (pre ++ [x]) W'))
    (W : World) (hBs : W.cell? ⟨Bs, 0, none⟩ = some (.slice A m.length c)) (hc : ∀ j, (hj : j < m.length) → ∃ b, A = some ⟨b, 0, none⟩ ∧ T b ∧ W.cell? ⟨b, j, none⟩ = some ((Value.int .i64) m[j])) (h0 : J [] W) :
    CallsIn Fence.wide n Try.prog 95 #[.func (.yield l) #[] #[], .pointer (some ⟨Bs, 0, none⟩)] W fun e W' => (∃ v, e = .returned v) ∧
      ((∃ ys, ys = backL m m.length ∧ J ys W') ∨ (∃ pre, (∃ k, k ≤ m.length ∧ pre = backL m k) ∧ Jx pre W')) := by
  refine callsIn_of_wp Try.func95 rfl trivial ?_ rfl
  simp only [Try.ntmps95, List.size_toArray, List.length_cons, List.length_nil, Nat.reduceAdd, Nat.reduceSub, Array.replicate_succ, Array.replicate_zero, List.push_toArray, List.append_toArray, List.nil_append, List.cons_append]
  gi_wp2
  gi_loopw [3] (fun i wr => ∃ q : Nat, q ≤ m.length ∧ i = (Value.int .i64) ((q : Int) - 1) ∧ J (backL m (m.length - q)) wr ∧ KpT T W wr)
    (fun i _ => (intOf i + 1).toNat)
  case atStart => exact ⟨m.length, Nat.le_refl _, by go_num, by rw [Nat.sub_self]; exact h0, KpT.refl _ _⟩
  case round =>
    obtain ⟨q, hq, hi, hJs, hnx⟩ := hrel
    have hBs' := (hnx.cell hT).trans hBs
    cases q with
    | zero =>
      obtain rfl := hi
      gi_wp2
      go_end0
      exact ⟨⟨_, rfl⟩, .inl ⟨_, rfl, hJs⟩⟩
    | succ j =>
      have hij : ((j + 1 : Nat) : Int) - 1 = (j : Int) := by omega
      rw [hij] at hi
      subst hi
      obtain ⟨b, hA, hTb, hcb⟩ := hc j (by omega)
      have hcx := (hnx.cell hTb).trans hcb
      have hji : (j : Int) < m.length := by omega
      have hk1 : m.length - j = m.length - (j + 1) + 1 := by omega
      have hsx : backL m (m.length - j) = backL m (m.length - (j + 1)) ++ [((j : Int), m[j])] := by
        rw [hk1, backL_succ]
        have e1 : m.length - 1 - (m.length - (j + 1)) = j := by omega
        rw [e1, List.getElem?_eq_getElem (by omega)]
        congr 2
        simp
        omega
      obtain ⟨fn, tmps, assign, body, hy, hR⟩ := hY _ ((j : Int), m[j]) _ hJs (by rw [backL_len]; omega)
      dsimp only at hy
      subst hA
      gi_wp2
      refine hR.mono ?_
      rintro e W3 (⟨rfl, hJ3, hk3⟩ | ⟨rfl, hJx3⟩)
      · gi_wp2
        go_roundw
        case rel => exact ⟨j, by omega, by go_num, by rw [hsx]; exact hJ3, hnx.trans hk3⟩
        case measure => first | (simp [intOf]; done) | (simp [intOf]; omega)
      · gi_wp2
        refine bodyPost_ret (results_none rfl _ _ _) rfl ?_
        exact ⟨⟨_, rfl⟩, .inr ⟨_, ⟨m.length - j, by omega, hsx.symm⟩, hJx3⟩⟩
theorem back_stops (n : Nat) (hn : 1 ≤ n) (Bs c : Nat) (A : Option Addr) (m : List Int) (hm : m.length ≤ 9223372036854775807) (T : Nat → Prop) (hT : T Bs) (w : World) (hB : Bs < w.heap.size) (hBs : w.cell? ⟨Bs, 0, none⟩ = some (.slice A m.length c)) (hc : ∀ j, (hj : j < m.length) → ∃ b, A = some ⟨b, 0, none⟩ ∧ b < w.heap.size ∧ T b ∧ w.cell? ⟨b, j, none⟩ = some ((Value.int .i64) m[j])) :
    SeqStopsK Fence.wide n Try.prog 95 #[.pointer (some ⟨Bs, 0, none⟩)] (fun x : Int × Int => #[(Value.int .i64) x.1, (Value.int .i64) x.2]) (KpT T) (fun xs => xs = backL m m.length) (fun pre => ∃ k, k ≤ m.length ∧ pre = backL m k) m.length w := by
  intro l J Jx W hW hJ hJx hY h0
  refine back1 n hn l Bs c A m hm T hT J Jx hY W ((hW.cell (p := ⟨Bs, 0, none⟩) hB).trans hBs) (fun j hj => ?_) h0
  obtain ⟨b, h1, h2, h3, h4⟩ := hc j hj
  exact ⟨b, h1, h3, (hW.cell (p := ⟨b, j, none⟩) h2).trans h4⟩
theorem backward_any (A : Option Addr) (n c : Nat) (w : World) : Calls Try.prog 85 #[.slice A n c] w fun e w' => e = .returned (.func (.func 95) #[] #[.pointer (some ⟨w.heap.size, 0, none⟩)]) ∧ w' = w.alloc (.cells #[.slice A n c] 47) := by
  have hmf : ∀ (fn : Fn) (first cap : Array Value) (w : World), (Instr.makeFunc fn first cap).run Try.prog w = .ok (.func fn first cap) w := fun _ _ _ _ => rfl
  go_enter Try.func85, Try.ntmps85
  go_wp2_with fail
  go_ret
  exact ⟨rfl, rfl⟩
end Go.Proofs.Ytmfheghbgihdmaa
namespace Go.Proofs.Ytmfheghbgihdmaa
open Go.RowKit Hpm
def exact' (x : Hp) : HProp := fun h => h = x
def AllCells (P : HProp) : Prop := ∀ h, P h → ∀ b o, h b = some o → o.isCells = true
theorem AllCells.star {P Q : HProp} (hp : AllCells P) (hq : AllCells Q) : AllCells (P * Q) := by
  rintro h ⟨h1, h2, d, rfl, p, q⟩ b o e
  simp only [union] at e
  cases e1 : h1 b with
  | none => rw [e1] at e; exact hq h2 q b o (by simpa using e)
  | some x => rw [e1] at e; simp at e; subst e; exact hp h1 p b x e1
theorem AllCells.ex {α : Type} {P : α → HProp} (h : ∀ x, AllCells (P x)) : AllCells (ex P) := fun k ⟨x, p⟩ => h x k p
theorem AllCells.blk (b : Nat) (cs : Array Value) (t : TypeId) : AllCells (blk b cs t) := by
  rintro h rfl k o e
  simp only [single] at e
  split at e
  · injection e with e; subst e; rfl
  · cases e
theorem AllCells.row (e size : Nat) (v : Value) (n : Nat) (xs : List Value) : AllCells (row e size v n xs) := by
  rintro h ⟨_, ⟨_, _, rfl⟩ | ⟨g, cap, cur, _, _, _, _, _, hb⟩⟩ b o ho
  · cases ho
  · exact AllCells.blk _ _ _ h hb b o ho
theorem AllCells.lift (p : Prop) : AllCells (lift p) := by
  rintro h ⟨_, rfl⟩ b o e
  cases e
theorem framesCells (f : Nat) (s : Ms) : AllCells (framesAt f s) := by
  unfold framesAt
  refine AllCells.ex fun g => AllCells.ex fun vf => ?_
  unfold framesIn
  exact (AllCells.blk _ _ _).star ((AllCells.blk _ _ _).star ((AllCells.row _ _ _ _ _).star (AllCells.lift _)))
/-- What is not P's, exactly. -/
theorem has_exact {w : World} {P R : HProp} (h : Has w (P * R)) : ∃ x, R x ∧ Has w (P * exact' x) ∧ sub x (fun b => w.heap[b]?) := by
  obtain ⟨_, s, h1, h2, d, rfl, p, r⟩ := h
  exact ⟨h2, r, ⟨_, s, h1, h2, d, rfl, p, rfl⟩, sub_union_right d s⟩
theorem exact_sub {w : World} {P : HProp} {x : Hp} (h : Has w (P * exact' x)) : sub x (fun b => w.heap[b]?) := by
  obtain ⟨_, s, h1, h2, d, rfl, p, r⟩ := h
  have r : h2 = x := r
  subst r
  exact sub_union_right d s
theorem exact_back {w : World} {P R : HProp} {x : Hp} (h : Has w (P * exact' x)) (r : R x) : Has w (P * R) := by
  obtain ⟨_, s, h1, h2, d, rfl, p, e⟩ := h
  have e : h2 = x := e
  subst e
  exact ⟨_, s, h1, h2, d, rfl, p, r⟩
/-- All that is not P's. -/
theorem has_rest {w : World} {P : HProp} {x : Hp} (h : Has w (P * exact' x)) (hc : AllCells P) : ∃ y, sub x y ∧ Has w (P * exact' y) ∧ ∀ b o, w.heap[b]? = some o → o.isCells = false → y b = some o := by
  obtain ⟨_, s, h1, h2, d, rfl, p, e⟩ := h
  have e : h2 = x := e
  subst e
  refine ⟨fun b => if (h1 b).isSome then none else w.heap[b]?, ?_, ⟨_, ?_, h1, _, ?_, rfl, p, rfl⟩, ?_⟩
  · intro b o e
    have hb : h1 b = none := by
      rcases d b with h | h
      · exact h
      · rw [h] at e; cases e
    show (if (h1 b).isSome then none else w.heap[b]?) = some o
    rw [hb]
    exact sub_union_right d s b o e
  · refine sub_union (sub_union_left s) fun b o e => ?_
    replace e : (if (h1 b).isSome then none else w.heap[b]?) = some o := e
    split at e
    · cases e
    · exact e
  · intro b
    cases hb : h1 b with
    | none => exact .inl rfl
    | some o => right; simp [hb]
  · intro b o e ho
    show (if (h1 b).isSome then none else w.heap[b]?) = some o
    cases hb : h1 b with
    | none => exact e
    | some o' =>
      have h3 := sub_union_left s b o' hb
      have h4 : w.heap[b]? = some o' := h3
      rw [e] at h4
      injection h4 with h4
      subst h4
      rw [hc h1 p b o hb] at ho
      cases ho
theorem exact_mono {w : World} {P : HProp} {x y : Hp} (h : Has w (P * exact' y)) (hs : sub x y) : Has w (P * exact' x) := by
  obtain ⟨_, s, h1, h2, d, rfl, p, e⟩ := h
  have e : h2 = y := e
  subst e
  refine ⟨_, sub_union (sub_union_left s) (fun b o hb => sub_union_right d s b o (hs b o hb)), h1, x, fun b => ?_, rfl, p, rfl⟩
  rcases d b with h | h
  · exact .inl h
  · right
    cases hx : x b with
    | none => rfl
    | some o => rw [hs b o hx] at h; cases h
/-- It stands through the turn of a block that is no cells, and is no part of x. -/
theorem exact_grown {w w' : World} {P : HProp} {x : Hp} {row : Option Nat} (h : Has w (P * exact' x)) (hc : AllCells P) (hg : w.grownBy w' row) (hr : ∀ r, row = some r → x r = none ∧ ∃ o : Obj, w.heap[r]? = some o ∧ o.isCells = false) : Has w' (P * exact' x) := by
  obtain ⟨_, s, h1, h2, d, rfl, p, e⟩ := h
  have e : h2 = x := e
  subst e
  refine ⟨_, fun b o hb => ?_, h1, h2, d, rfl, p, rfl⟩
  have h3 : w.heap[b]? = some o := s b o hb
  have hlt : b < w.heap.size := (Array.getElem?_eq_some_iff.1 h3).1
  show w'.heap[b]? = some o
  rw [hg.block b hlt ?_]
  · exact h3
  · intro e
    obtain ⟨hx, o', ho', hcl⟩ := hr b e.symm
    simp only [union] at hb
    cases hb1 : h1 b with
    | none => rw [hb1, hx] at hb; cases hb
    | some o1 =>
      have h4 := sub_union_left s b o1 hb1
      have h4 : w.heap[b]? = some o1 := h4
      rw [ho'] at h4
      injection h4 with h4
      subst h4
      rw [hc h1 p b o' hb1] at hcl
      cases hcl
/-- A call that has a contract by pieces, at the exact rest: what it leaves. -/
theorem call_keeps {P : Program} {fn : Nat} {args : Array Value} {v : Value} {A B : HProp} {x : Hp} {w : World} (hc : AllCells A) (h : Has w (A * exact' x))
    (hcall : ∀ R, Has w (A * R) → Calls P fn args w (Res v (B * R) w)) (Bd : Nat) :
    Calls P fn args w fun e w' => e = .returned v ∧ Has w' (B * exact' x) ∧ Ext w w' ∧ KeepsFrom Bd w w' ∧ KpT (fun b => (x b).isSome = true) w w' := by
  obtain ⟨y, hs, hy, hall⟩ := has_rest h hc
  refine (hcall _ hy).mono fun e w' ⟨he, hB, hx⟩ => ⟨he, exact_mono hB hs, hx, ⟨hx.size, fun k o _ hk ho => exact_sub hB k o (hall k o hk ho)⟩, ⟨fun b hb => ?_⟩⟩
  obtain ⟨o, ho⟩ := Option.isSome_iff_exists.1 hb
  have h1 : w'.heap[b]? = some o := exact_sub hB b o (hs b o ho)
  have h2 : w.heap[b]? = some o := exact_sub h b o ho
  rw [h1, h2]
end Go.Proofs.Ytmfheghbgihdmaa
namespace Go.Proofs.Ytmfheghbgihdmaa
open Go.RowKit Go.Shelf Hpm
set_option maxRecDepth 100000
attribute [local go_sem] Oper.semAt_some
theorem calls_of_marks {P : Program} {f : FuncId} {fn : Func} {c : Code} {args : Array Value} {w : World} {R : Ending → World → Prop} (hf : P.funcs[f]? = some fn) (hb : fn.body = some c)
    (h : c.wp P (bodyPostM Fence.wide 9 P fn R) { tmps := args ++ Array.replicate (fn.ntmps - args.size) undef, defers := [] } w) : Calls P f args w R :=
  (callsIn_wide (n := 9)).1 (callsIn_of_wp_marks (F := Fence.wide) (n := 9) hf hb trivial (wpIn_wide.2 h) rfl)
theorem marks_ret {P : Program} {fn : Func} {R : Ending → World → Prop} {a : Act} {w : World} {v : Value} (hr : (results fn a.tmps).run P w = .ok v w) (hd : a.defers = []) (hR : R (.returned v) w) : bodyPostM Fence.wide 9 P fn R .ret a w := by
  show LeavesInM Fence.wide 9 P fn a.tmps R a.defers .returning w
  rw [hd]
  unfold LeavesInM LeavesIn
  exact ⟨v, hr, hR⟩
/-- No panic is borne, for a while. -/
def Calm (Q : Exit → Act → World → Prop) : Exit → Act → World → Prop
  | .panic _, _, _ => False
  | e, a, w => Q e a w
theorem wp_calm {P : Program} {c : Code} {Q : Exit → Act → World → Prop} {a : Act} {w : World} (h : c.wp P (Calm Q) a w) : c.wp P Q a w :=
  Code.wp_mono (fun e _ _ h => by cases e <;> first | exact h | exact h.elim) h
theorem blk_some {b : Nat} {cs : Array Value} {t : TypeId} {R : HProp} {x : Hp} (h : (blk b cs t * R) x) : (x b).isSome = true := by
  obtain ⟨h1, h2, d, rfl, p, r⟩ := h
  have p : h1 = single b (.cells cs t (0, 0)) := p
  subst p
  simp [union, single]
theorem row_some {g : Nat} {e size n m c : Nat} {xs : List Value} {R : HProp} {x : Hp} (h : (row e size (.slice (some ⟨g, 0, none⟩) m c) n xs * R) x) : (x g).isSome = true := by
  obtain ⟨h1, h2, d, rfl, ⟨_, ⟨hv, _⟩ | ⟨g', cap, cur, hv, _, _, _, _, hb⟩⟩, r⟩ := h
  · injection hv with e; cases e
  · injection hv with e
    injection e with e
    injection e with e
    subst e
    have hb : h1 = single _ _ := hb
    subst hb
    simp [union, single]
/-- What take comes to. -/
def Took (b f n : Nat) (s : Ms) (R : HProp) (w : World) (e : Ending) (w' : World) : Prop :=
  (n ≤ s.frees.length ∧ ∃ A c, Res (Value.bool true) (blk b #[.pointer (some ⟨f, 0, none⟩), .slice A n c] 133 * (row 3 1 (.slice A n c) n ((tops s n).map (Value.int .i64)) * (framesAt f (takeN s n) * R))) w e w') ∨
  (s.frees.length < n ∧ ∃ s', s'.Ok ∧ Agree s' s ∧ Res (Value.bool false) (framesAt f s' * R) w e w')
set_option maxHeartbeats 4000000 in
theorem takeB (b f : Nat) (s : Ms) (hs : s.Ok) (n : Nat) (hn : n ≤ 3) (R : HProp) (w : World) (h : Has w (blk b #[.pointer (some ⟨f, 0, none⟩), .slice none 0 0] 133 * (framesAt f s * R))) :
    Calls Try.prog 60 #[.pointer (some ⟨b, 0, none⟩), (Value.int .i64) n] w (Took b f n s R w) := by
  have h1 : Has _ (blk w.heap.size #[.pointer (some ⟨b, 0, none⟩)] 131 * (blk b #[.pointer (some ⟨f, 0, none⟩), .slice none 0 0] 133 * (row 3 1 (.slice none 0 0) 0 ((tops s 0).map (Value.int .i64)) * (framesAt f (takeN s 0) * R)))) := (Has.rowNil (e := 3) (size := 1) (h.new #[.pointer (some ⟨b, 0, none⟩)] 131)).p2.eq (congrArg _ (star_left_comm _ _ _))
  have x1 := (Ext.refl w).alloc (.cells #[.pointer (some ⟨b, 0, none⟩)] 131)
  clear h
  refine calls_of_marks Try.func60 rfl ?_
  simp only [Try.ntmps60, List.size_toArray, List.length_cons, List.length_nil, Nat.reduceAdd, Nat.reduceSub, Array.replicate_succ, Array.replicate_zero, List.push_toArray, List.append_toArray, List.nil_append, List.cons_append]
  go_upto_region 1 with fail
  generalize w.alloc (.cells #[.pointer (some ⟨b, 0, none⟩)] 131) = w1 at *
  generalize w.heap.size = X at *
  go_wp2_with fail
  go_loopw [9] (fun t9 wr => ∃ (i : Nat) (A : Option Addr) (c : Nat), i ≤ n ∧ i ≤ s.frees.length ∧ t9 = (Value.int .i64) i ∧ Has wr (blk X #[.pointer (some ⟨b, 0, none⟩)] 131 * (blk b #[.pointer (some ⟨f, 0, none⟩), .slice A i c] 133 * (row 3 1 (.slice A i c) i ((tops s i).map (Value.int .i64)) * (framesAt f (takeN s i) * R)))) ∧ Ext w wr) (fun t9 _ => n - (intOf t9).toNat)
  case atStart => exact ⟨0, none, 0, by omega, by omega, rfl, h1, x1⟩
  case round =>
    clear h1 x1
    obtain ⟨i, A, c, hi, hif, rfl, hr, hx⟩ := hrel
    by_cases hlt : i < n
    · have HT := Lib.hid (fun R w h => takeF f (takeN s i) R w h (takeN_ok hs i))
      have htop := takeN_top hif
      have c0 := hr.cell 0
      have cl := hr.lt
      obtain ⟨b0, b1⟩ := hr.right.cells2
      have bl := hr.right.lt
      have h2 : Has wr (framesAt f (takeN s i) * (blk X #[.pointer (some ⟨b, 0, none⟩)] 131 * (blk b #[.pointer (some ⟨f, 0, none⟩), .slice A i c] 133 * (row 3 1 (.slice A i c) i ((tops s i).map (Value.int .i64)) * R)))) := hr.eq (by ac_rfl)
      have hts : tops s (i + 1) = tops s i ++ [(takeN s i).topV] := rfl
      have hns : takeN s (i + 1) = (takeN s i).takeS := rfl
      by_cases hneg : (takeN s i).topV < 0
      · have hie := htop.1 hneg
        have hno : (takeN s i).top = none := by
          cases ht : (takeN s i).top with
          | none => rfl
          | some k => unfold Ms.topV at hneg; rw [ht] at hneg; exact absurd hneg (by simp)
        have hstk : (takeN s i).takeS = takeN s i := by unfold Ms.takeS; rw [hno]
        rw [hstk] at HT
        have HAG := Lib.hid (takeN_give hs i hif)
        have HOK := Lib.hid (fun l => giveL_ok (takeN_ok hs i) l)
        have hml := tops_len s i
        have hlt2 : s.frees.length < n := by omega
        have HLT := Lib.hid hlt2
        clear hr hts hns htop hno hstk hie hlt2
        generalize (takeN s i).topV = k at *
        generalize takeN s i = s1 at *
        generalize tops s i = m at *
        subst hml
        go_wp2_with fail
        refine (HT.out _ _ h2).mono ?_; rintro e w3 ⟨rfl, h3, x3⟩
        have x4 := hx.trans x3
        clear c0 cl b0 b1 bl h2 hx x3 HT
        have c0 := h3.right.cell 0
        have cl := h3.right.lt
        obtain ⟨b0, b1⟩ := h3.right.right.cells2
        have bl := h3.right.right.lt
        go_wp2_with fail
        refine (backward_any A m.length c w3).mono ?_; rintro e w4 ⟨rfl, rfl⟩
        have h4 : Has (w3.alloc (.cells #[.slice A m.length c] 47)) (framesAt f s1 * (blk w3.heap.size #[.slice A m.length c] 47 * (blk X #[.pointer (some ⟨b, 0, none⟩)] 131 * (blk b #[.pointer (some ⟨f, 0, none⟩), .slice A m.length c] 133 * (row 3 1 (.slice A m.length c) m.length (m.map (Value.int .i64)) * R))))) := (h3.new #[.slice A m.length c] 47).eq (by ac_rfl)
        have x5 := x4.alloc (.cells #[.slice A m.length c] 47)
        clear h3 x4 c0 cl b0 b1 bl
        go_wp2_with fail
        generalize w3.alloc (.cells #[.slice A m.length c] 47) = w5 at *
        generalize w3.heap.size = Bs at *
        obtain ⟨x, hx, h5, hsub⟩ := has_exact h4
        have hbk := Lib.hid (fun (w' : World) (s' : Ms) (h : Has w' (framesAt f s' * exact' x)) => exact_back h hx)
        have hT1 : (x Bs).isSome = true := blk_some hx
        have hxlt : ∀ b, (x b).isSome = true → b < w5.heap.size := fun b hb => by
          obtain ⟨o, ho⟩ := Option.isSome_iff_exists.1 hb
          exact (Array.getElem?_eq_some_iff.1 (hsub b o ho)).1
        have hcell : ∀ j, (hj : j < m.length) → ∃ b, A = some ⟨b, 0, none⟩ ∧ b < w5.heap.size ∧ (x b).isSome = true ∧ w5.cell? ⟨b, j, none⟩ = some ((Value.int .i64) m[j]) := fun j hj => by
          have h6 : Has w5 (row 3 1 (.slice A m.length c) m.length (m.map (Value.int .i64)) * (framesAt f s1 * (blk Bs #[.slice A m.length c] 47 * (blk X #[.pointer (some ⟨b, 0, none⟩)] 131 * (blk b #[.pointer (some ⟨f, 0, none⟩), .slice A m.length c] 133 * R))))) := h4.eq (by ac_rfl)
          obtain ⟨b', e, hb, hc, _⟩ := Has.rowGet (e := 3) (size := 1) h6 (i := j) (u := (Value.int .i64) m[j]) (by simp [hj])
          subst e
          refine ⟨b', rfl, hb, ?_, hc⟩
          have h7 : (row 3 1 (.slice (some ⟨b', 0, none⟩) m.length c) m.length (m.map (Value.int .i64)) * (blk Bs #[.slice (some ⟨b', 0, none⟩) m.length c] 47 * (blk X #[.pointer (some ⟨b, 0, none⟩)] 131 * (blk b #[.pointer (some ⟨f, 0, none⟩), .slice (some ⟨b', 0, none⟩) m.length c] 133 * R)))) x := by
            have e : (blk Bs #[.slice (some ⟨b', 0, none⟩) m.length c] 47 * (blk X #[.pointer (some ⟨b, 0, none⟩)] 131 * (blk b #[.pointer (some ⟨f, 0, none⟩), .slice (some ⟨b', 0, none⟩) m.length c] 133 * (row 3 1 (.slice (some ⟨b', 0, none⟩) m.length c) m.length (m.map (Value.int .i64)) * R)))) = (row 3 1 (.slice (some ⟨b', 0, none⟩) m.length c) m.length (m.map (Value.int .i64)) * (blk Bs #[.slice (some ⟨b', 0, none⟩) m.length c] 47 * (blk X #[.pointer (some ⟨b, 0, none⟩)] 131 * (blk b #[.pointer (some ⟨f, 0, none⟩), .slice (some ⟨b', 0, none⟩) m.length c] 133 * R)))) := by ac_rfl
            exact e ▸ hx
          exact row_some h7
        have hG := Lib.hid (fun (s' : Ms) (hs' : s'.Ok) (k : Int) (w' : World) (h : Has w' (framesAt f s' * exact' x)) => call_keeps (P := Try.prog) (fn := 50) (args := #[.pointer (some ⟨f, 0, none⟩), (Value.int .i64) k]) (v := Value.bool (s'.has k)) (B := framesAt f (s'.giveS k)) (framesCells f s') h (fun R h => giveF f s' k R w' h hs') w5.heap.size)
        clear h4
        refine (wpIn_wide (n := 6)).1 ?_
        apply wpIn_rangeFunc_ownG (F := Fence.wide) (n := 6) rfl (by omega) (gf := 95) (lb := #[.pointer (some ⟨Bs, 0, none⟩)]) rfl trivial (enters_of Try.func95 (by kernel_rfl) rfl) (back_stops 5 (by omega) Bs c A m (by omega) (fun b => (x b).isSome = true) hT1 w5 (hxlt _ hT1) ((hbk.out _ _ h5).right.cell 0) hcell) (fun h k => h.trans k) (fun W l o o' hl hW ho hw => ⟨fun b hb => World.putObj_heap_other (by have := hxlt b hb; omega)⟩) (Below.refl _ _) (fun _ => rfl)
          (fun pre W => Has W (framesAt f (giveL s1 (pre.map Prod.snd)) * exact' x) ∧ Ext w W) (fun _ _ _ => False)
          (fun pre W W' row hs hg hr => ⟨exact_grown hs.1 (framesCells _ _) hg (fun r e => ⟨by
            cases hxr : x r with
            | none => rfl
            | some o => have := hxlt r (by rw [hxr]; rfl); have := (hr r e).1; omega, (hr r e).2⟩), hs.2.grown hg⟩)
          (fun _ _ _ _ _ hs _ _ => hs)
          ⟨h5, x5⟩
        case hassign =>
          intro l x W K hK
          gi_wp2
          exact hK
        case hbody =>
          rintro l pre y W ⟨hW, hE⟩ _
          have h6 := hbk.out W _ hW
          have c0 := h6.right.right.cell 0
          have cl := h6.right.right.lt
          obtain ⟨b0, b1⟩ := h6.right.right.right.cells2
          have bl := h6.right.right.right.lt
          have HGk := Lib.hid (hG.out _ (HOK.out _) y.2 W hW)
          gi_wp2_with (refine ⟨trivial, ?_⟩; gi_at_call 50; refine (CallsIn.inRound l (callsIn_wide.2 HGk.out)).mono ?_; rintro e W2 ⟨rfl, hW2, hE2, hKF, hKT⟩)
          exact ⟨hKF, hKT, by rw [List.map_append, List.map_singleton, giveL_snoc]; exact hW2, hE.trans hE2⟩
        case hdone =>
          rintro D ys W hD rfl ⟨hW, hE⟩ hK
          rw [backL_all] at hW
          go_wp2_with fail
          refine ⟨by simp, .inl ⟨_, _, rfl, run_takeDeferred hK, ?_⟩⟩
          have hxD : x D = none := by
            cases hxr : x D with
            | none => rfl
            | some o => have := hxlt D (by rw [hxr]; rfl); omega
          have hW2 := exact_grown hW (framesCells _ _) (grownBy_putObj' W D (.deferred none)) (fun r e => by cases e; exact ⟨hxD, _, hK, rfl⟩)
          have hE2 := hE.grown (grownBy_putObj' W D (.deferred none))
          refine ⟨_, results_tmp rfl _ _ _, .inr ⟨HLT.out, _, HOK.out _, HAG.out, rfl, ?_, hE2⟩⟩
          have h6 := hbk.out _ _ hW2
          exact (h6.eq (show _ = (blk Bs #[.slice A m.length c] 47 * (blk X #[.pointer (some ⟨b, 0, none⟩)] 131 * (blk b #[.pointer (some ⟨f, 0, none⟩), .slice A m.length c] 133 * row 3 1 (.slice A m.length c) m.length (m.map (Value.int .i64))))) * (framesAt f (giveL s1 m.reverse) * R) by ac_rfl)).right
        case hstop =>
          intro D c pre W _ _ h
          exact h.elim
      · have hif' : i < s.frees.length := by
          have : i ≠ s.frees.length := fun e => hneg (htop.2 e)
          omega
        have HTS := Lib.hid hts
        have HNS := Lib.hid hns
        clear hr hts hns htop
        generalize (takeN s i).topV = k at *
        generalize hS : (takeN s i).takeS = s2 at *
        generalize takeN s i = s1 at *
        clear hS
        go_wp2_with fail
        refine (HT.out _ _ h2).mono ?_; rintro e w3 ⟨rfl, h3, x3⟩
        have x4 := hx.trans x3
        have h4 : Has w3 (row 3 1 (.slice A i c) i ((tops s i).map (Value.int .i64)) * (blk X #[.pointer (some ⟨b, 0, none⟩)] 131 * (blk b #[.pointer (some ⟨f, 0, none⟩), .slice A i c] 133 * (framesAt f s2 * R)))) := h3.eq (by ac_rfl)
        clear c0 cl b0 b1 bl h2 h3 hx x3 HT
        have c0 := h4.right.cell 0
        have cl := h4.right.lt
        obtain ⟨b0, b1⟩ := h4.right.right.cells2
        have bl := h4.right.right.lt
        have bf := h4.right.right.free 1
        have h4d : Has w3.drew (row 3 1 (.slice A i c) i ((tops s i).map (Value.int .i64)) * (blk X #[.pointer (some ⟨b, 0, none⟩)] 131 * (blk b #[.pointer (some ⟨f, 0, none⟩), .slice A i c] 133 * (framesAt f s2 * R)))) := h4.drew
        go_upto_region 9 with fail
        have hS0 : (fun (L : Array Bool) (w' : World) => w'.cell? ⟨X, 0, none⟩ = some (.pointer (some ⟨b, 0, none⟩)) ∧ Till 7 4 (fun w' => w'.cell? ⟨b, 1, none⟩ = some (.slice A i c)) L w') (Array.replicate 11 false) w3.drew := ⟨h4d.right.cell 0, Till.start (h4d.right.right.cell 1)⟩
        refine wp_calm ?_
        refine region_L (S := fun L w' => w'.cell? ⟨X, 0, none⟩ = some (.pointer (some ⟨b, 0, none⟩)) ∧ Till 7 4 (fun w' => w'.cell? ⟨b, 1, none⟩ = some (.slice A i c)) L w') (by kernel_rfl) hS0 (fun hHeld => ?_)
        clear c0 b0 b1 bf hS0
        refine anyL_take (i := 0) (v := ?_) rfl (by kernel_rfl) (by kernel_rfl) (by kernel_rfl) (fun _ _ _ h => h) (Good.and Good.const (Good.till (by decide) ⟨_, ⟨4, .data⟩, rfl, by simp, rfl, rfl⟩)) (Or.inl ⟨by kernel_rfl, ?_⟩) hHeld (fun hHeld => ?_)
        rotate_left
        focus (intro wS hSw; obtain ⟨Lx, hLx, hs1, hs2⟩ := hSw; have cS := hs1; go_simp; first | done | with_reducible rfl)
        refine anyL_take (i := 1) (v := ?_) rfl (by kernel_rfl) (by kernel_rfl) (by kernel_rfl) (fun _ _ _ h => h) (Good.and Good.const (Good.till (by decide) ⟨_, ⟨4, .data⟩, rfl, by simp, rfl, rfl⟩)) (Or.inl ⟨by kernel_rfl, ?_⟩) hHeld (fun hHeld => ?_)
        rotate_left
        focus (intro wS hSw; obtain ⟨Lx, hLx, hs1, hs2⟩ := hSw; have cS := hs1; go_simp; first | done | with_reducible rfl)
        refine anyL_take (i := 2) (v := ?_) rfl (by kernel_rfl) (by kernel_rfl) (by kernel_rfl) (fun _ _ _ h => h) (Good.and Good.const (Good.till (by decide) ⟨_, ⟨4, .data⟩, rfl, by simp, rfl, rfl⟩)) (Or.inl ⟨by kernel_rfl, ?_⟩) hHeld (fun hHeld => ?_)
        rotate_left
        focus (intro wS hSw; obtain ⟨Lx, hLx, hs1, hs2⟩ := hSw; skip; go_simp; first | done | with_reducible rfl)
        refine anyL_take (i := 3) (v := ?_) rfl (by kernel_rfl) (by kernel_rfl) (by kernel_rfl) (fun _ _ _ h => h) (Good.and Good.const (Good.till (by decide) ⟨_, ⟨4, .data⟩, rfl, by simp, rfl, rfl⟩)) (Or.inl ⟨by kernel_rfl, ?_⟩) hHeld (fun hHeld => ?_)
        rotate_left
        focus (intro wS hSw; obtain ⟨Lx, hLx, hs1, hs2⟩ := hSw; skip; go_simp; first | done | with_reducible rfl)
        refine anyL_take (i := 4) (v := ?_) rfl (by kernel_rfl) (by kernel_rfl) (by kernel_rfl) (fun _ _ _ h => h) (Good.and Good.const (Good.till (by decide) ⟨_, ⟨4, .data⟩, rfl, by simp, rfl, rfl⟩)) (Or.inl ⟨by kernel_rfl, ?_⟩) hHeld (fun hHeld => ?_)
        rotate_left
        focus (intro wS hSw; obtain ⟨Lx, hLx, hs1, hs2⟩ := hSw; have cS := hs2.still hLx; go_simp; first | done | with_reducible rfl)
        refine anyL_take (i := 5) (v := ?_) rfl (by kernel_rfl) (by kernel_rfl) (by kernel_rfl) (fun _ _ _ h => h) (Good.and Good.const (Good.till (by decide) ⟨_, ⟨4, .data⟩, rfl, by simp, rfl, rfl⟩)) (Or.inl ⟨by kernel_rfl, ?_⟩) hHeld (fun hHeld => ?_)
        rotate_left
        focus (intro wS hSw; obtain ⟨Lx, hLx, hs1, hs2⟩ := hSw; skip; go_simp; first | done | with_reducible rfl)
        refine anyL_ready (rs := [6]) (by kernel_rfl) (by simp) ?_
        refine OneOf.cons rfl (fun K hK => ?_) OneOf.nil
        have k1 := h4d.build #[(Value.int .i64) k] 3
        try simp only [World.size_alloc] at k1
        go_simp
        refine hK.out _ _ ⟨k1.right.cell 0, ⟨fun _ => by kernel_rfl, fun _ => k1.right.right.right.cell 1⟩⟩ (fun hHeld => ?_)
        clear hK K
        refine anyL_ready (rs := [7]) (by kernel_rfl) (by simp) ?_
        refine OneOf.cons rfl (fun K hK => ?_) OneOf.nil
        refine step_append_has rfl (.tmp 35) (.tmp 37) 47 rfl Try.underlying47 elemI (.slice A i c) i ((tops s i).map (Value.int .i64)) (by simp [Act.eval]) k1 ⟨w3.drew.heap.size, 0, none⟩ 1 1 [(Value.int .i64) k] (by simp [Act.eval]) rfl (news_cell (k1.right.right.cell 0)) (one_int k) (by unfold maxLen; omega) (by omega) ?_
        intro A' c' w5 k2 y2
        try go_simp
        refine hK.out _ _ ⟨k2.right.cell 0, ⟨fun _ => by kernel_rfl, fun h => till_gone (by kernel_rfl) h⟩⟩ (fun hHeld => ?_)
        clear hK K
        refine anyL_take (i := 8) (v := ?_) rfl (by kernel_rfl) (by kernel_rfl) (by kernel_rfl) (fun _ _ _ h => h) (Good.and Good.const (Good.till (by decide) ⟨_, ⟨4, .data⟩, rfl, by simp, rfl, rfl⟩)) (Or.inl ⟨by kernel_rfl, ?_⟩) hHeld (fun hHeld => ?_)
        rotate_left
        focus (intro wS hSw; obtain ⟨Lx, hLx, hs1, hs2⟩ := hSw; skip; go_simp; first | done | with_reducible rfl)
        refine anyL_take (i := 9) (v := ?_) rfl (by kernel_rfl) (by kernel_rfl) (by kernel_rfl) (fun _ _ _ h => h) (Good.and Good.const (Good.till (by decide) ⟨_, ⟨4, .data⟩, rfl, by simp, rfl, rfl⟩)) (Or.inl ⟨by kernel_rfl, ?_⟩) hHeld (fun hHeld => ?_)
        rotate_left
        focus (intro wS hSw; obtain ⟨Lx, hLx, hs1, hs2⟩ := hSw; skip; go_simp; first | done | with_reducible rfl)
        have h6 : Has w5 (blk b #[.pointer (some ⟨f, 0, none⟩), .slice A i c] 133 * (blk X #[.pointer (some ⟨b, 0, none⟩)] 131 * (row 3 1 (.slice A' (i + 1) c') (i + 1) ((tops s i).map (Value.int .i64) ++ [(Value.int .i64) k]) * (framesAt f s2 * R)))) := by
          have := k2.eq (show _ = blk w3.drew.heap.size #[(Value.int .i64) k] 3 * (blk b #[.pointer (some ⟨f, 0, none⟩), .slice A i c] 133 * (blk X #[.pointer (some ⟨b, 0, none⟩)] 131 * (row 3 1 (.slice A' (i + 1) c') (i + 1) ((tops s i).map (Value.int .i64) ++ [(Value.int .i64) k]) * (framesAt f s2 * R)))) by ac_rfl)
          exact this.right
        have g0 := h6.lt
        have g1 := h6.free 1
        have g2 := h6.cell 1
        have h7 := (h6.set 1 (.slice A' (i + 1) c')).p2
        refine anyL_ready (rs := [10]) (by kernel_rfl) (by simp) ?_
        refine OneOf.cons rfl (fun K hK => ?_) OneOf.nil
        go_simp
        refine hK.out _ _ ⟨h7.cell 0, ⟨fun _ => by kernel_rfl, fun h => till_gone (by kernel_rfl) h⟩⟩ (fun hHeld => ?_)
        clear hK K
        refine anyL_done (by kernel_rfl) ?_
        clear hHeld
        unfold Calm
        dsimp only
        go_wp2_with fail
        go_roundw
        case rel => exact ⟨i + 1, A', c', by omega, by omega, by go_num, by rw [HTS.out, HNS.out, List.map_append]; exact h7, ((x4.drew.alloc _).trans y2).set _ _⟩
        case measure => simp [intOf]; omega
    · obtain rfl : i = n := by omega
      go_wp2_with fail
      refine marks_ret (v := Value.bool true) (by simp [results, Try.results60, go_sem]) rfl ?_
      exact .inl ⟨hif, A, c, rfl, hr.right, hx⟩
end Go.Proofs.Ytmfheghbgihdmaa
namespace Go.Proofs.Ytmfheghbgihdmaa
open Go.RowKit
section
variable {w : World} {R : HProp} {e size : Nat} {v : Value} {A : Option Addr} {n c : Nat} {xs : List Value}
end
section
variable {P : Program} {w : World} {R : HProp}
end
end Go.Proofs.Ytmfheghbgihdmaa
namespace Go.Proofs.Ytmfheghbgihdmaa
open Go.RowKit
set_option maxRecDepth 100000
theorem run_append_row {P : Program} {w : World} {R : HProp} {t ty e : TypeId} {z : Value} {size bytes : Nat} (hT : P.underlying t = some (.slice e)) (hE : Elem P e z size bytes)
    (v : Value) (n : Nat) (xs : List Value) (u : Value) (m : Nat) (ys : List Value) (h : Has w (row e size v n xs * (row e size u m ys * R))) (h1 : ∀ y ∈ ys, y.oneCell' = true)
    (h63 : n + m ≤ maxLen) (hbytes : (n + m) * bytes ≤ 140737488355328) :
    ∃ A c w', (Builtin.append_ #[t, t] ty #[v, u]).run P w = .ok (.slice A (n + m) c) w' ∧ Has w' (row e size (.slice A (n + m) c) (n + m) (xs ++ ys) * (row e size u m ys * R)) ∧ Ext w w' := by
  rcases h.p2.rowCases with ⟨rfl, rfl, rfl, _⟩ | ⟨g, cap, cur, rfl, _⟩
  · obtain ⟨i, hi, _, hsz, _⟩ := info_parts hE.info
    obtain ⟨A, c, rfl⟩ := h.rowForm
    exact ⟨A, c, w, run_append_owned_none (P := P) (w := w) 0 t ty e i size hT hi (.slice A n c) n xs h.ownsRow, by simpa using h, Ext.refl w⟩
  · have hget := fun j y (hy : ys[j]? = some y) => h.p2.rowGet hy
    have hl := h.p2.rowLens.1
    obtain ⟨v', w', hr, h2, x2⟩ := run_append_has (ty := ty) hT hE v n xs h ⟨g, 0, none⟩ m cap ys hl (fun j y hy => by
      obtain ⟨g', hg', _, hc, _⟩ := hget j y hy
      injection hg' with hg'
      injection hg' with hg'
      subst hg'
      rw [Addr.add_lit, Nat.zero_add]
      exact hc) h1 h63 hbytes
    have hf : ∃ A c, v' = .slice A (n + m) c := by
      rcases h2.rowCases with ⟨hv, hn, _, _⟩ | ⟨g, cap, cur, hv, _⟩
      · exact ⟨none, 0, by rw [hv, hn]⟩
      · exact ⟨_, _, hv⟩
    obtain ⟨A, c, rfl⟩ := hf
    exact ⟨A, c, w', hr, h2, x2⟩
theorem step_append_row {P : Program} {ops : Array Oper} {o : Oper} {a : Act} {w : World} {R : HProp} {K : Act → World → Prop} {Q : Exit → Act → World → Prop} {E : Prop}
    (hg : o.guard = none) (s x : Operand) (t : TypeId) (hop : o.op = Op.call { callee := Callee.builtin Builtin.append, args := #[s, x], argTypes := #[t, t] })
    {e : TypeId} {z : Value} {size bytes : Nat} (hT : P.underlying t = some (.slice e)) (hE : Elem P e z size bytes)
    (v : Value) (n : Nat) (xs : List Value) (hs : a.eval s = v) (u : Value) (m : Nat) (ys : List Value) (hx : a.eval x = u) (h : Has w (row e size v n xs * (row e size u m ys * R))) (h1 : ∀ y ∈ ys, y.oneCell' = true)
    (h63 : n + m ≤ maxLen) (hbytes : (n + m) * bytes ≤ 140737488355328)
    (hK : ∀ A c w', Has w' (row e size (.slice A (n + m) c) (n + m) (xs ++ ys) * (row e size u m ys * R)) → Ext w w' → K (a.put o.dst (.slice A (n + m) c)) w') :
    if Region.wanted o (yielded ops a.tmps) = true then Oper.wp P o a w K Q else E := by
  have hw : Region.wanted o (yielded ops a.tmps) = true := by simp [Region.wanted, hg]
  rw [if_pos hw]
  obtain ⟨A, c, w', hrun, h2, h3⟩ := run_append_row (ty := o.type) hT hE v n xs u m ys h h1 h63 hbytes
  unfold Oper.wp
  simp [execOp, hop, resolve, invoke, builtin, hs, hx, hrun, Result.andThen]
  exact hK A c w' h2 h3
theorem many_int (l : List Int) : ∀ u ∈ l.map (Value.int .i64), u.oneCell' = true := by
  intro u hu
  obtain ⟨x, _, rfl⟩ := List.mem_map.1 hu
  rfl
def ClonedI (l : List Int) (w : World) (e : Ending) (w' : World) : Prop := ∃ A n c, e = .returned (.slice A n c) ∧ Has w' (irow (.slice A n c) l * old w w.heap.size) ∧ Ext w w'
theorem clone_int (l : List Int) (A : Option Addr) (n c : Nat) (R : HProp) (w : World) (hs : l.length ≤ 1000000) (h : Has w (irow (.slice A n c) l * R)) :
    Calls Try.prog 61 #[.slice A n c] w (ClonedI l w) := by
  have q22 : ∀ (w : World) (a : Option Addr) (n c n' c' : Nat), (binOp .eql 47 (.slice a n c) (.slice none n' c')).run Try.prog w = .ok (.bool a.isNone) w := fun w a n c n' c' => Lib.run_eql_slice_nil w _ _ a n c n' c' Try.underlying47
  have hl0 := irow_len h
  subst hl0
  cases A with
  | none =>
    have h0 : l = [] ∧ c = 0 := by
      rcases Has.rowCases (e := 3) (size := 1) h with ⟨hv, h0, _⟩ | ⟨g, cap, cur, hv, _⟩
      · injection hv with a b d
        exact ⟨List.eq_nil_of_length_eq_zero h0, d⟩
      · injection hv with a
        cases a
    obtain ⟨rfl, rfl⟩ := h0
    go_enter Try.func61, Try.ntmps61
    go_wp2_with fail
    go_ret
    exact ⟨none, 0, 0, rfl, Has.rowNil (has_old w), Ext.refl _⟩
  | some a =>
    have h0 : ∃ g, a = ⟨g, 0, none⟩ := by
      rcases Has.rowCases (e := 3) (size := 1) h with ⟨hv, h0, _⟩ | ⟨g, cap, cur, hv, _⟩
      · injection hv with a b d
        cases a
      · injection hv with a
        injection a with a
        exact ⟨g, a⟩
    obtain ⟨g, rfl⟩ := h0
    have h1 := (has_old w).new #[] 3
    have hrow : Has (w.alloc (.cells #[] 3)) (row 3 1 (.slice (some ⟨w.heap.size, 0, none⟩) 0 0) 0 [] * old w w.heap.size) := h1.rowOf rfl (Nat.le_refl _) (by unfold maxLen; omega) rfl rfl
    have hn := fun k (hk : k < l.length) => irow_at (h.alloc (.cells #[] 3)) hk
    have hne : Hid (∀ j u, (l.map (Value.int .i64))[j]? = some u → (w.alloc (.cells #[] 3)).cell? ((⟨g, 0, none⟩ : Addr).add j) = some u) := fun j u hu => by
      rw [Addr.add_lit, Nat.zero_add]
      obtain ⟨hj, e⟩ := List.getElem?_eq_some_iff.1 hu
      have hj' : j < l.length := by simpa using hj
      obtain ⟨b, e1, _, hc⟩ := hn j hj'
      injection e1 with e1
      injection e1 with e1
      subst e1
      rw [hc, ← e]
      simp
    have x1 := (Ext.refl w).alloc (.cells #[] 3)
    have hml : Hid ((l.map (Value.int .i64)).length = l.length * 1) := Lib.hid (by simp)
    clear hn h1 h
    go_enter Try.func61, Try.ntmps61
    go_wp2_with (at_builtin; refine wpList_append_has rfl _ _ 47 rfl Try.underlying47 elemI _ _ _ rfl hrow ⟨g, 0, none⟩ l.length c (l.map (Value.int .i64)) rfl hml.out hne.out (many_int l) ?c2 ?c3 ?_)
    case c2 => unfold maxLen; omega
    case c3 => omega
    intro v' w2 h' x'
    obtain ⟨A', c', rfl⟩ := h'.rowForm
    have h2 : Has w2 (irow (.slice A' l.length c') l * old w w.heap.size) := h'
    go_wp2_with fail
    go_ret
    exact ⟨A', _, c', rfl, h2, x1.trans x'⟩
end Go.Proofs.Ytmfheghbgihdmaa
