/- The contract of walk's each, for whatever it is handed to see with. -/
import Derived.Test.YtegkimecdonfgaaWkFind
import Derived.Shelf.Abstract
import Derived.Test.YtegkimecdonfgaaFrm
import Derived.Test.YtegkimecdonfgaaSep
import Derived.Test.YtegkimecdonfgaaAgree
import Derived.Lib.Hide
import Derived.Lib.SliceRun
import Derived.Laws.OwnMore
import Derived.Outline
import Derived.BigQuiet
import Derived.Deep.LoopGhost
import Derived.Test.YtegkimecdonfgaaTabI
import Derived.Test.YtegkimecdonfgaaTabR
import Derived.Test.YtegkimecdonfgaaIrow
namespace Go.Proofs.Ytegkimecdonfgaa
open Go.RowKit
set_option maxRecDepth 100000
/-- A visit that may be. -/
structure VOk (v : Vis) : Prop where
  l0 : 0 ≤ v.lev
  l3 : v.lev ≤ 3
  a0 : 0 ≤ v.at_
  a4 : v.at_ * pow8 v.lev.toNat < 4096
def subM : Nat → Nat | 0 => 0 | L + 1 => most L
theorem most_eq (L : Nat) : most L = 8 * (1 + subM L) := by
  cases L with
  | zero => rfl
  | succ L => show 8 + 8 * most L = 8 * (1 + most L); omega
theorem range'_cons {i : Nat} (h : i < 8) : List.range' i (8 - i) = i :: List.range' (i + 1) (8 - (i + 1)) := by
  rw [show 8 - i = (8 - (i + 1)) + 1 by omega, List.range'_succ]
theorem scan_bad {s : Ms} {L : Nat} {t a : Int} {sub : Int → Int → Vs} {i : Nat} {is : List Nat} (h : decC (wordV s t i) L ≠ 0) : scanV s L t a sub (i :: is) = ⟨decC (wordV s t i) L, []⟩ := by
  rw [scanV, if_pos h]
theorem scan_plain {s : Ms} {L : Nat} {t a : Int} {sub : Int → Int → Vs} {i : Nat} {is : List Nat} (h : decC (wordV s t i) L = 0) (hn : ¬ ((decE (wordV s t i) L).there = true ∧ (decE (wordV s t i) L).leaf = false)) :
    scanV s L t a sub (i :: is) = ⟨(scanV s L t a sub is).code, ⟨t, L, a * 8 + i, decE (wordV s t i) L⟩ :: (scanV s L t a sub is).vs⟩ := by
  rw [scanV, if_neg (by rw [h]; simp)]
  dsimp only
  rw [if_neg hn]
  simp
theorem scan_sub {s : Ms} {L : Nat} {t a : Int} {sub : Int → Int → Vs} {i : Nat} {is : List Nat} (h : decC (wordV s t i) L = 0) (hn : (decE (wordV s t i) L).there = true ∧ (decE (wordV s t i) L).leaf = false)
    (hc : (sub (decE (wordV s t i) L).frame (a * 8 + i)).code = 0) :
    scanV s L t a sub (i :: is) = ⟨(scanV s L t a sub is).code, ⟨t, L, a * 8 + i, decE (wordV s t i) L⟩ :: ((sub (decE (wordV s t i) L).frame (a * 8 + i)).vs ++ (scanV s L t a sub is).vs)⟩ := by
  rw [scanV, if_neg (by rw [h]; simp)]
  dsimp only
  rw [if_pos hn, if_neg (by rw [hc]; simp)]
theorem scan_subbad {s : Ms} {L : Nat} {t a : Int} {sub : Int → Int → Vs} {i : Nat} {is : List Nat} (h : decC (wordV s t i) L = 0) (hn : (decE (wordV s t i) L).there = true ∧ (decE (wordV s t i) L).leaf = false)
    (hc : (sub (decE (wordV s t i) L).frame (a * 8 + i)).code ≠ 0) :
    scanV s L t a sub (i :: is) = ⟨(sub (decE (wordV s t i) L).frame (a * 8 + i)).code, ⟨t, L, a * 8 + i, decE (wordV s t i) L⟩ :: (sub (decE (wordV s t i) L).frame (a * 8 + i)).vs⟩ := by
  rw [scanV, if_neg (by rw [h]; simp)]
  dsimp only
  rw [if_pos hn, if_pos hc]
theorem sub_at {L : Nat} {a : Int} {i : Nat} (hL : L ≤ 3) (h0 : 0 ≤ a) (h : a * pow8 (L + 1) < 4096) (hi : i < 8) : 0 ≤ a * 8 + i ∧ (a * 8 + i) * pow8 L < 4096 ∧ a < 4096 := by
  refine ⟨by omega, bnd hL h0 h hi, ?_⟩
  have hp := pow8_pos' (L + 1)
  have : a * 1 ≤ a * pow8 (L + 1) := Int.mul_le_mul_of_nonneg_left (by omega) h0
  omega
section
variable (f : Nat) (s : Ms) (hs : s.Ok) (g : Nat) (cap : Array Value) (eg : ∀ args w, (callFunc g args).run Try.prog w = .ok (.enter g args) w) (I : List Vis → HProp) (B : Nat)
  (hsee : ∀ (P : HProp) (vs : List Vis) (v : Vis) (W : World), VOk v → vs.length < B → Has W (I vs * P) →
    Calls Try.prog g (#[(Value.int .i64) v.t, (Value.int .i64) v.lev, (Value.int .i64) v.at_, .agg #[Value.bool v.e.there, Value.bool v.e.leaf, (Value.int .i64) v.e.rights, Value.bool v.e.used, Value.bool v.e.dirty, (Value.int .i64) v.e.frame]] ++ cap) W (Res (.tuple #[]) (I (vs ++ [v]) * P) W))
include hs eg hsee
/-- What each comes to at a level. -/
def EachAt (L : Nat) : Prop := ∀ (R : HProp) (t a : Int) (vs0 : List Vis) (w : World), 0 ≤ a → a * pow8 (L + 1) < 4096 → vs0.length + most L ≤ B → Has w (I vs0 * (framesAt f s * R)) →
    Calls Try.prog 76 #[.pointer (some ⟨f, 0, none⟩), (Value.int .i64) t, (Value.int .i64) L, (Value.int .i64) a, .func (.func g) #[] cap] w (Res ((Value.int .i64) (eachV s L t a).code) (I (vs0 ++ (eachV s L t a).vs) * (framesAt f s * R)) w)
set_option maxHeartbeats 4000000 in
theorem each_step (L : Nat) (hL : L ≤ 3) (ih : ∀ K, L = K + 1 → EachAt f s g cap I B K) : EachAt f s g cap I B L := by
    intro R t a vs0 w ha ha4 hB h
    have IH := Lib.hid ih
    clear ih
    have HSEE := Lib.hid hsee
    have hmo := most_eq L
    go_enter Try.func76, Try.ntmps76
    go_wp2_with fail
    go_loopw [18] (fun s18 wr => ∃ (i : Nat) (vs : List Vis), i ≤ 8 ∧ s18 = (Value.int .i64) i ∧ vs.length ≤ i * (1 + subM L) ∧ (0 < i → s.has t = true) ∧
        Hid (s.has t = true → eachV s L t a = ⟨(scanV s L t a (subV s L) (List.range' i (8 - i))).code, vs ++ (scanV s L t a (subV s L) (List.range' i (8 - i))).vs⟩) ∧
        Has wr (I (vs0 ++ vs) * (framesAt f s * R)) ∧ Ext w wr) (fun s18 _ => 8 - (intOf s18).toNat)
    case atStart =>
      refine ⟨0, [], by omega, rfl, by simp, fun h => by omega, Lib.hid fun ht => ?_, by simpa using h, Ext.refl _⟩
      rw [eachV_eq, if_neg (by rw [ht]; simp), List.range_eq_range']
      rfl
    case round =>
      clear h
      obtain ⟨i, vs, hi, rfl, hvl, hti, HE, hr, hx⟩ := hrel
      by_cases hlt : i < 8
      · have hLD := loadF f s t i _ wr hr.p2
        cases ht : s.has t with
        | false =>
          have hi0 : i = 0 := by
            rcases Nat.eq_zero_or_pos i with h | h
            · exact h
            · rw [hti h] at ht; cases ht
          subst hi0
          have hv0 : vs = [] := List.eq_nil_of_length_eq_zero (by omega)
          subst hv0
          have hy := Lib.hid (show eachV s L t a = ⟨12, []⟩ by rw [eachV_eq, if_pos ht])
          have hw : s.hasW t ((0 : Nat) : Int) = false := by unfold Ms.hasW; rw [ht]; rfl
          rw [hw] at hLD
          clear hw ht hti HE
          generalize loadV s t ((0 : Nat) : Int) = v at *
          go_wp2_with fail
          refine hLD.mono ?_; rintro e w2 ⟨rfl, rfl⟩
          go_wp2_with fail
          go_ret
          rw [hy.out]
          exact ⟨rfl, hr, hx⟩
        | true =>
          have hw : s.hasW t (i : Int) = true := hasW_iff.2 ⟨ht, by omega, by omega⟩
          have hlv : loadV s t (i : Int) = wordV s t i := by unfold loadV wordV; rw [if_pos hw]
          rw [hw, hlv] at hLD
          clear hw hlv
          have hb := hs.inv.wok t.toNat ((i : Int)).toNat
          have HD := Lib.hid (fun W => decode_any (wordV s t i) L W hb.1 hb.2)
          clear hb
          have hEq := HE.out ht
          rw [range'_cons hlt] at hEq
          have HEQ := Lib.hid hEq
          clear hEq HE hti
          have HT := Lib.hid ht
          clear ht
          obtain ⟨hat0, hat4, ha6⟩ := sub_at hL ha ha4 hlt
          have hm1 : IntKind.i64.wrap (a * 8) = a * 8 := by rw [IntKind.wrap_i64]; omega
          have hm2 : IntKind.i64.wrap (a * 8 + i) = a * 8 + i := by rw [IntKind.wrap_i64]; omega
          by_cases hc : decC (wordV s t i) L = 0
          case neg =>
            have hy := Lib.hid (show eachV s L t a = ⟨decC (wordV s t i) L, vs⟩ by rw [HEQ.out, scan_bad hc]; simp)
            have hv := Lib.hid (decV_no (w := wordV s t i) (l := L) rfl (.inl hc))
            rw [hv.out] at HD
            have hn : (decC (wordV s t i) L != 0) = true := by simpa using hc
            clear hv hc HEQ
            generalize decC (wordV s t i) L = code at *
            generalize wordV s t i = v at *
            go_wp2_with fail
            refine hLD.mono ?_; rintro e w2 ⟨rfl, rfl⟩
            go_wp2_with fail
            refine (HD.out _).mono ?_; rintro e w2 ⟨rfl, b2⟩
            go_wp2_with fail
            go_ret
            rw [hy.out]
            exact ⟨rfl, (hr.below b2).alloc _, (hx.below b2).alloc _⟩
          have hp1 := Lib.hid (fun hn => scan_plain (a := a) (sub := subV s L) (is := List.range' (i + 1) (8 - (i + 1))) hc hn)
          have hp2 := Lib.hid (fun hn hk => scan_sub (a := a) (sub := subV s L) (is := List.range' (i + 1) (8 - (i + 1))) hc hn hk)
          have hp3 := Lib.hid (fun hn hk => scan_subbad (a := a) (sub := subV s L) (is := List.range' (i + 1) (8 - (i + 1))) hc hn hk)
          have hv := Lib.hid (show decV (wordV s t i) L = .tuple #[.agg #[Value.bool (decE (wordV s t i) L).there, Value.bool (decE (wordV s t i) L).leaf, (Value.int .i64) (decE (wordV s t i) L).rights, Value.bool (decE (wordV s t i) L).used, Value.bool (decE (wordV s t i) L).dirty, (Value.int .i64) (decE (wordV s t i) L).frame], (Value.int .i64) 0] by unfold decV; rw [hc])
          rw [hv.out] at HD
          have hK := Lib.hid (show (decE (wordV s t i) L).there = true ∧ (decE (wordV s t i) L).leaf = false → ∃ K, L = K + 1 by
            intro hn
            cases L with
            | zero =>
              rcases dec0_leaf hc with h | h
              · have := hn.1.symm.trans h
                cases this
              · have := hn.2.symm.trans h
                cases this
            | succ K => exact ⟨K, rfl⟩)
          clear hv hc
          have hvis : VOk ⟨t, L, a * 8 + i, decE (wordV s t i) L⟩ := ⟨by show (0 : Int) ≤ (L : Int); omega, by show (L : Int) ≤ 3; omega, hat0, hat4⟩
          have HS := fun P => HSEE.out P (vs0 ++ vs) ⟨t, L, a * 8 + i, decE (wordV s t i) L⟩
          generalize decE (wordV s t i) L = e at *
          have hbnd : (vs0 ++ vs).length < B := by
            have h1 := Nat.mul_le_mul_right (1 + subM L) (show i ≤ 7 by omega)
            have h2 : 8 * (1 + subM L) = 7 * (1 + subM L) + (1 + subM L) := by omega
            rw [List.length_append]
            omega
          generalize wordV s t i = v at *
          have HSA := Lib.hid (fun P W hW => HS P W hvis hbnd hW)
          clear HS hvis hbnd
          go_wp2_with fail
          refine hLD.mono ?_; rintro e2 w2 ⟨rfl, rfl⟩
          go_wp2_with fail
          refine (HD.out _).mono ?_; rintro e2 w2 ⟨rfl, b2⟩
          have h2 := hr.below b2
          have x2 := hx.below b2
          have h3 := (h2.new #[Value.bool e.there, Value.bool e.leaf, (Value.int .i64) e.rights, Value.bool e.used, Value.bool e.dirty, (Value.int .i64) e.frame] 50)
          have x3 := x2.alloc (.cells #[Value.bool e.there, Value.bool e.leaf, (Value.int .i64) e.rights, Value.bool e.used, Value.bool e.dirty, (Value.int .i64) e.frame] 50)
          have h3 := h3.p2
          clear hLD HD hr hx h2 x2 b2
          go_wp2_with fail
          refine (HSA.out _ _ h3).mono ?_; rintro e2 w5 ⟨rfl, h5, x5⟩
          have x5 := x3.trans x5
          obtain ⟨e0, e1, e2', e3, e4, e5⟩ := h5.right.cells6
          have el := h5.right.lt
          have hlen1 : i * (1 + subM L) + (1 + subM L) = (i + 1) * (1 + subM L) := by rw [Nat.add_mul, Nat.one_mul]
          have hv1 : vs0 ++ vs ++ [⟨t, L, a * 8 + i, e⟩] = vs0 ++ (vs ++ [⟨t, L, a * 8 + i, e⟩]) := List.append_assoc _ _ _
          have HV1 := Lib.hid hv1
          clear hv1 h3 x3
          by_cases hn : e.there = true ∧ e.leaf = false
          · obtain ⟨K, hLK⟩ := hK.out hn
            have hLKH := Lib.hid hLK
            have hwr : IntKind.i64.wrap ((L : Int) - 1) = (K : Int) := by rw [IntKind.wrap_i64]; omega
            have hlv : vs.length ≤ 7 * (1 + subM L) := Nat.le_trans hvl (Nat.mul_le_mul_right _ (by omega))
            have hIH := IH.out K hLK _ e.frame (a * 8 + i) (vs0 ++ (vs ++ [⟨t, (L : Int), a * 8 + i, e⟩])) w5 hat0 (by rw [← hLKH.out]; exact hat4) (by
              have hsm : subM L = most K := by rw [hLKH.out]; rfl
              rw [List.length_append, List.length_append, List.length_singleton]
              omega) (by
              rw [← HV1.out]
              exact h5.eq (by rw [star_left_comm (blk _ _ _)]))
            have hsub : subV s L = eachV s K := by rw [hLKH.out]; rfl
            have HP2 := Lib.hid (fun hk => hp2.out hn hk)
            have HP3 := Lib.hid (fun hk => hp3.out hn hk)
            rw [← hsub] at hIH
            have hrl := Lib.hid (show (subV s L e.frame (a * 8 + i)).vs.length ≤ most K by rw [hsub]; exact eachV_len s K e.frame (a * 8 + i))
            clear hLK hsub
            obtain ⟨n1, n2⟩ := hn
            generalize subV s L e.frame (a * 8 + i) = r at *
            go_wp2_with fail
            refine hIH.mono ?_; rintro e2 w6 ⟨rfl, h6, x6⟩
            have x6 := x5.trans x6
            by_cases hk : r.code = 0
            · have hfin := Lib.hid (HP2.out hk)
              go_wp2_with fail
              go_roundw
              case rel =>
                refine ⟨i + 1, vs ++ (⟨t, (L : Int), a * 8 + i, e⟩ :: r.vs), by omega, by go_num, ?_, by intros; first | trivial | exact HT.out, Lib.hid fun _ => ?_, ?_, x6⟩
                · have := hrl.out
                  have hsm : subM L = most K := by rw [hLKH.out]; rfl
                  rw [List.length_append, List.length_cons]
                  omega
                · rw [HEQ.out, hfin.out]
                  simp
                · have h7 := h6.p2.p2
                  have e7 : vs0 ++ (vs ++ [⟨t, (L : Int), a * 8 + i, e⟩]) ++ r.vs = vs0 ++ (vs ++ (⟨t, (L : Int), a * 8 + i, e⟩ :: r.vs)) := by simp
                  rw [e7] at h6
                  exact h6.drop3
              case measure => simp [intOf]; omega
            · have hfin := Lib.hid (HP3.out hk)
              have hkn : (r.code != 0) = true := by simpa using hk
              go_wp2_with fail
              go_ret
              rw [HEQ.out, hfin.out]
              have e7 : vs0 ++ (vs ++ [⟨t, (L : Int), a * 8 + i, e⟩]) ++ r.vs = vs0 ++ (vs ++ (⟨t, (L : Int), a * 8 + i, e⟩ :: r.vs)) := by simp
              rw [e7] at h6
              exact ⟨rfl, h6.drop3, x6⟩
          · have hfin := Lib.hid (hp1.out hn)
            rw [HV1.out] at h5
            have hcase : e.there = false ∨ (e.there = true ∧ e.leaf = true) := by
              cases h1 : e.there <;> cases h2 : e.leaf <;> simp_all
            have hround : ∀ wz, Has wz (I (vs0 ++ (vs ++ [⟨t, (L : Int), a * 8 + i, e⟩])) * (blk w2.heap.size #[Value.bool e.there, Value.bool e.leaf, (Value.int .i64) e.rights, Value.bool e.used, Value.bool e.dirty, (Value.int .i64) e.frame] 50 * (framesAt f s * R))) → Has wz (I (vs0 ++ (vs ++ [⟨t, (L : Int), a * 8 + i, e⟩])) * (framesAt f s * R)) := fun _ h => h.p2.right
            have HR := Lib.hid hround
            clear hround hn
            rcases hcase with h1 | ⟨h1, h2⟩
            · go_wp2_with fail
              go_roundw
              case rel =>
                refine ⟨i + 1, vs ++ [⟨t, (L : Int), a * 8 + i, e⟩], by omega, by go_num, by rw [List.length_append, List.length_singleton]; omega, by intros; first | trivial | exact HT.out, Lib.hid fun _ => ?_, HR.out _ h5, x5⟩
                rw [HEQ.out, hfin.out]
                simp
              case measure => simp [intOf]; omega
            · go_wp2_with fail
              go_roundw
              case rel =>
                refine ⟨i + 1, vs ++ [⟨t, (L : Int), a * 8 + i, e⟩], by omega, by go_num, by rw [List.length_append, List.length_singleton]; omega, by intros; first | trivial | exact HT.out, Lib.hid fun _ => ?_, HR.out _ h5, x5⟩
                rw [HEQ.out, hfin.out]
                simp
              case measure => simp [intOf]; omega
      · obtain rfl : i = 8 := by omega
        have hy := Lib.hid (HE.out (hti (by omega)))
        go_wp2_with fail
        go_ret
        rw [hy.out]
        exact ⟨rfl, by simpa [scanV] using hr, hx⟩
theorem each_any : ∀ (L : Nat), L ≤ 3 → EachAt f s g cap I B L
  | 0, h => each_step f s hs g cap eg I B hsee 0 h fun _ e => by cases e
  | L + 1, h => each_step f s hs g cap eg I B hsee (L + 1) h fun K e => by
    obtain rfl : L = K := by omega
    exact each_any L (by omega)
end
end Go.Proofs.Ytegkimecdonfgaa
namespace Go.Proofs.Ytegkimecdonfgaa
open Go.RowKit
set_option maxRecDepth 100000
def mpZero : Value := .agg #[(Value.int .i64) 0, (Value.int .i64) 0, (Value.int .i64) 0, (Value.int .i64) 0]
theorem elemMp : Elem Try.prog 24 mpZero 4 32 := ⟨by kernel_rfl, rfl, by omega⟩
theorem mp_len (x : Mp) : x.cells.length = 4 := rfl
/-- Cells of many mappings. -/
def mcells (l : List Mp) : List Value := flat Mp.cells l
theorem mcells_snoc (l : List Mp) (m : Mp) : mcells (l ++ [m]) = mcells l ++ m.cells := by unfold mcells; rw [flat_append]; simp [flat]
/-- A row of mappings. -/
def mrow (v : Value) (l : List Mp) : HProp := row 24 4 v l.length (mcells l)
theorem oneMp (x : Mp) : ∀ u ∈ x.cells, u.oneCell' = true := by
  intro u hx
  simp [Mp.cells] at hx
  rcases hx with rfl | rfl | rfl | rfl <;> rfl
theorem mrow_len {w : World} {R : HProp} {A : Option Addr} {n c : Nat} {l : List Mp} (h : Has w (mrow (.slice A n c) l * R)) : n = l.length := by
  rcases (Has.rowCases (e := 24) (size := 4) h) with ⟨hv, h0, _⟩ | ⟨g, cap, cur, hv, _⟩
  · injection hv with a b
    omega
  · injection hv
theorem mrow_small {w : World} {R : HProp} {A : Option Addr} {n c : Nat} {l : List Mp} (h : Has w (mrow (.slice A n c) l * R)) : n ≤ 9223372036854775807 := by
  obtain rfl := mrow_len h
  exact (Has.rowLens (e := 24) (size := 4) h).2
theorem mrow_at {w : World} {R : HProp} {A : Option Addr} {n c : Nat} {l : List Mp} (h : Has w (mrow (.slice A n c) l * R)) {k : Nat} (hk : k < l.length) :
    ∃ b, A = some ⟨b, 0, none⟩ ∧ b < w.heap.size ∧
      (w.cell? ⟨b, k * 4, none⟩ = some ((Value.int .i64) l[k].page) ∧ w.cell? ⟨b, k * 4 + 1, none⟩ = some ((Value.int .i64) l[k].size) ∧ w.cell? ⟨b, k * 4 + 2, none⟩ = some ((Value.int .i64) l[k].frame) ∧ w.cell? ⟨b, k * 4 + 3, none⟩ = some ((Value.int .i64) l[k].rights)) := by
  obtain rfl := mrow_len h
  have g := fun t (ht : t < 4) => Has.rowGet (e := 24) (size := 4) h (i := k * 4 + t) (u := (l[k].cells[t]'(by rw [mp_len]; exact ht))) (by
    have := flat_get (cells := Mp.cells) mp_len hk ht
    rw [List.getElem?_eq_getElem (l := l[k].cells) (by rw [mp_len]; exact ht)] at this
    exact this)
  obtain ⟨b, rfl, hb, c0, _⟩ := g 0 (by omega)
  obtain ⟨b1, e1, _, c1, _⟩ := g 1 (by omega)
  obtain ⟨b2, e2, _, c2, _⟩ := g 2 (by omega)
  obtain ⟨b3, e3, _, c3, _⟩ := g 3 (by omega)
  injection e1 with e1; injection e1 with e1; subst e1
  injection e2 with e2; injection e2 with e2; subst e2
  injection e3 with e3; injection e3 with e3; subst e3
  exact ⟨b, rfl, hb, c0, c1, c2, c3⟩
end Go.Proofs.Ytegkimecdonfgaa
namespace Go.Proofs.Ytegkimecdonfgaa
open Go.RowKit
set_option maxRecDepth 100000
/-- What List has gathered, at block O. -/
def gathM (O : Nat) (vs : List Vis) : HProp := ex fun A => ex fun c => blk O #[.slice A (mapsOf vs).length c] 64 * mrow (.slice A (mapsOf vs).length c) (mapsOf vs)
theorem gathM_open {O : Nat} {vs : List Vis} {P : HProp} {w : World} (h : Has w (gathM O vs * P)) : ∃ A c, Has w (blk O #[.slice A (mapsOf vs).length c] 64 * (mrow (.slice A (mapsOf vs).length c) (mapsOf vs) * P)) := by
  unfold gathM at h
  obtain ⟨A, h⟩ := has_ex_star.1 h
  obtain ⟨c, h⟩ := has_ex_star.1 h
  exact ⟨A, c, h.a1⟩
theorem gathM_shut {O c : Nat} {A : Option Addr} {vs : List Vis} {P : HProp} {w : World} (h : Has w (blk O #[.slice A (mapsOf vs).length c] 64 * (mrow (.slice A (mapsOf vs).length c) (mapsOf vs) * P))) : Has w (gathM O vs * P) := by
  unfold gathM
  exact has_ex_star.2 ⟨A, has_ex_star.2 ⟨c, h.a2⟩⟩
theorem mapsOf_len (vs : List Vis) : (mapsOf vs).length ≤ vs.length := List.length_filterMap_le _ _
theorem pow8_mono {i j : Nat} (h : i ≤ j) : pow8 i ≤ pow8 j := by
  induction h with
  | refl => exact Int.le_refl _
  | step _ ih => rw [pow8_succ]; have := pow8_pos' i; omega
set_option maxHeartbeats 2000000 in
theorem seeM (O : Nat) (P : HProp) (vs : List Vis) (v : Vis) (W : World) (hv : VOk v) (hl : vs.length < 5000) (h : Has W (gathM O vs * P)) :
    Calls Try.prog 77 #[(Value.int .i64) v.t, (Value.int .i64) v.lev, (Value.int .i64) v.at_, .agg #[Value.bool v.e.there, Value.bool v.e.leaf, (Value.int .i64) v.e.rights, Value.bool v.e.used, Value.bool v.e.dirty, (Value.int .i64) v.e.frame], .pointer (some ⟨O, 0, none⟩)] W (Res (.tuple #[]) (gathM O (vs ++ [v]) * P) W) := by
  obtain ⟨A, c, h⟩ := gathM_open h
  have hml := mapsOf_len vs
  obtain ⟨t, lev, at_, ⟨th, lf, rg, us, di, fr⟩⟩ := v
  obtain ⟨l0, l3, ha0, ha4⟩ := hv
  dsimp only at *
  have h1 := h.new #[Value.bool th, Value.bool lf, (Value.int .i64) rg, Value.bool us, Value.bool di, (Value.int .i64) fr] 50
  have x1 := (Ext.refl W).alloc (.cells #[Value.bool th, Value.bool lf, (Value.int .i64) rg, Value.bool us, Value.bool di, (Value.int .i64) fr] 50)
  obtain ⟨e0, e1, e2, e3, e4, e5⟩ := h1.cells6
  have el := h1.lt
  cases lf with
  | false =>
    have hm : mapsOf (vs ++ [⟨t, lev, at_, ⟨th, false, rg, us, di, fr⟩⟩]) = mapsOf vs := by rw [mapsOf_append]; simp [mapsOf]
    have hfin : Has (W.alloc (.cells #[Value.bool th, Value.bool false, (Value.int .i64) rg, Value.bool us, Value.bool di, (Value.int .i64) fr] 50)) (gathM O (vs ++ [⟨t, lev, at_, ⟨th, false, rg, us, di, fr⟩⟩]) * P) := by
      refine gathM_shut (A := A) (c := c) ?_
      rw [hm]
      exact h1.right
    go_enter Try.func77, Try.ntmps77
    go_wp2_with fail
    exact bodyPost_ret (v := .tuple #[]) (by simp [results, Try.results77]) rfl ⟨rfl, hfin, x1⟩
  | true =>
    obtain ⟨k, rfl⟩ := Int.eq_ofNat_of_zero_le l0
    have hk3 : k ≤ 3 := by omega
    rw [Int.toNat_natCast] at ha4
    have hm := Lib.hid (show mapsOf (vs ++ [⟨t, k, at_, ⟨th, true, rg, us, di, fr⟩⟩]) = mapsOf vs ++ [leafMap ⟨th, true, rg, us, di, fr⟩ k (at_ * pow8 k)] by rw [mapsOf_append]; simp [mapsOf])
    have HE := Lib.hid (entMap_any ⟨th, true, rg, us, di, fr⟩ k (at_ * pow8 k))
    generalize leafMap ⟨th, true, rg, us, di, fr⟩ k (at_ * pow8 k) = m at *
    go_enter Try.func77, Try.ntmps77
    go_wp2_with fail
    go_loopw [9, 14] (fun s9 s14 wr => ∃ j : Nat, j ≤ k ∧ s14 = (Value.int .i64) j ∧ s9 = (Value.int .i64) (at_ * pow8 j) ∧ (W.alloc (.cells #[Value.bool th, Value.bool true, (Value.int .i64) rg, Value.bool us, Value.bool di, (Value.int .i64) fr] 50)) = wr) (fun _ s14 _ => k - (intOf s14).toNat)
    case atStart => exact ⟨0, Nat.zero_le _, rfl, by simp [pow8], rfl⟩
    case round =>
      obtain ⟨j, hj, rfl, rfl, rfl⟩ := hrel
      by_cases hlt : j < k
      · have hpw : at_ * pow8 j * 8 = at_ * pow8 (j + 1) := by rw [pow8_succ, Int.mul_assoc, Int.mul_comm (pow8 j) 8]
        have hle : at_ * pow8 (j + 1) ≤ at_ * pow8 k := Int.mul_le_mul_of_nonneg_left (pow8_mono (by omega)) ha0
        have hge : 0 ≤ at_ * pow8 (j + 1) := Int.mul_nonneg ha0 (Int.le_of_lt (pow8_pos' _))
        have hwr : IntKind.i64.wrap (at_ * pow8 j * 8) = at_ * pow8 (j + 1) := by rw [hpw, IntKind.wrap_i64]; omega
        clear hpw hle hge
        go_wp2_with fail
        go_roundw
        case rel => exact ⟨j + 1, by omega, by go_num, rfl, trivial⟩
        case measure => simp [intOf]; omega
      · obtain rfl : j = k := by omega
        have c0 : (W.alloc (.cells #[Value.bool th, Value.bool true, (Value.int .i64) rg, Value.bool us, Value.bool di, (Value.int .i64) fr] 50)).cell? ⟨O, 0, none⟩ = some (.slice A (mapsOf vs).length c) := h1.right.cell 0
        generalize at_ * pow8 j = pg at *
        generalize W.alloc (.cells #[Value.bool th, Value.bool true, (Value.int .i64) rg, Value.bool us, Value.bool di, (Value.int .i64) fr] 50) = w4 at *
        generalize W.heap.size = E at *
        go_wp2_with fail
        refine region_L (S := fun L w' => Till 6 0 (fun w' => w'.cell? ⟨O, 0, none⟩ = some (.slice A (mapsOf vs).length c)) L w' ∧ Till 4 1 (fun w' => w'.cell? ⟨E, 0, none⟩ = some (Value.bool th) ∧ w'.cell? ⟨E, 1, none⟩ = some (Value.bool true) ∧ w'.cell? ⟨E, 2, none⟩ = some ((Value.int .i64) rg) ∧ w'.cell? ⟨E, 3, none⟩ = some (Value.bool us) ∧ w'.cell? ⟨E, 4, none⟩ = some (Value.bool di) ∧ w'.cell? ⟨E, 5, none⟩ = some ((Value.int .i64) fr)) L w') (by kernel_rfl) ⟨Till.start c0, Till.start ⟨e0, e1, e2, e3, e4, e5⟩⟩ (fun hHeld => ?_)
        refine anyL_take (i := 0) (v := ?_) rfl (by kernel_rfl) (by kernel_rfl) (by kernel_rfl) (fun _ _ _ h => h) (Good.and (Good.till (by decide) ⟨_, ⟨0, .data⟩, rfl, by simp, rfl, rfl⟩) (Good.till (by decide) ⟨_, ⟨1, .data⟩, rfl, by simp, rfl, rfl⟩)) (Or.inl ⟨by kernel_rfl, ?_⟩) hHeld (fun hHeld => ?_)
        rotate_left
        focus (intro wS hSw; obtain ⟨Lx, hLx, hs1, hs2⟩ := hSw; have cS := hs1.still hLx; go_simp; first | done | with_reducible rfl)
        try go_simp
        refine anyL_take (i := 1) (v := ?_) rfl (by kernel_rfl) (by kernel_rfl) (by kernel_rfl) (fun _ _ _ h => h) (Good.and (Good.till (by decide) ⟨_, ⟨0, .data⟩, rfl, by simp, rfl, rfl⟩) (Good.till (by decide) ⟨_, ⟨1, .data⟩, rfl, by simp, rfl, rfl⟩)) (Or.inl ⟨by kernel_rfl, ?_⟩) hHeld (fun hHeld => ?_)
        rotate_left
        focus (intro wS hSw; obtain ⟨Lx, hLx, hs1, hs2⟩ := hSw; obtain ⟨s0, s1, s2, s3, s4, s5⟩ := hs2.still hLx; go_simp; first | done | with_reducible rfl)
        try go_simp
        refine anyL_take (i := 2) (v := ?_) rfl (by kernel_rfl) (by kernel_rfl) (by kernel_rfl) (fun _ _ _ h => h) (Good.and (Good.till (by decide) ⟨_, ⟨0, .data⟩, rfl, by simp, rfl, rfl⟩) (Good.till (by decide) ⟨_, ⟨1, .data⟩, rfl, by simp, rfl, rfl⟩)) (Or.inl ⟨by kernel_rfl, ?_⟩) hHeld (fun hHeld => ?_)
        rotate_left
        focus (intro wS hSw; obtain ⟨Lx, hLx, hs1, hs2⟩ := hSw; skip; go_simp; first | done | with_reducible rfl)
        try go_simp
        refine anyL_take (i := 3) (v := ?_) rfl (by kernel_rfl) (by kernel_rfl) (by kernel_rfl) (fun _ _ _ h => h) (Good.and (Good.till (by decide) ⟨_, ⟨0, .data⟩, rfl, by simp, rfl, rfl⟩) (Good.till (by decide) ⟨_, ⟨1, .data⟩, rfl, by simp, rfl, rfl⟩)) (Or.inl ⟨by kernel_rfl, ?_⟩) hHeld (fun hHeld => ?_)
        rotate_left
        focus (intro wS hSw; obtain ⟨Lx, hLx, hs1, hs2⟩ := hSw; skip; go_simp; first | done | with_reducible rfl)
        try go_simp
        refine anyL_ready (rs := [4]) (by kernel_rfl) (by simp) ?_
        refine OneOf.cons rfl (fun K hK => ?_) OneOf.nil
        go_simp
        go_wp2_with (refine (HE.out _).mono ?_; rintro e2 w5 ⟨rfl, b5⟩)
        have h5 := (h1.drew.right.below b5)
        have x5 := x1.drew.below b5
        refine hK.out _ _ ⟨⟨fun _ => by kernel_rfl, fun _ => h5.cell 0⟩, ⟨fun _ => by kernel_rfl, fun h => till_gone (by kernel_rfl) h⟩⟩ (fun hHeld => ?_)
        clear hK K
        refine anyL_ready (rs := [5]) (by kernel_rfl) (by simp) ?_
        refine OneOf.cons rfl (fun K hK => ?_) OneOf.nil
        go_simp
        have h6 := (h5.p2).alloc (.cells #[(Value.int .i64) m.page, (Value.int .i64) m.size, (Value.int .i64) m.frame, (Value.int .i64) m.rights] 24)
        refine hK.out _ _ ⟨⟨fun _ => by kernel_rfl, fun _ => h6.right.cell 0⟩, ⟨fun _ => by kernel_rfl, fun h => till_gone (by kernel_rfl) h⟩⟩ (fun hHeld => ?_)
        clear hK K
        refine anyL_ready (rs := [6]) (by kernel_rfl) (by simp) ?_
        refine OneOf.cons rfl (fun K hK => ?_) OneOf.nil
        refine step_append_has rfl (.tmp 19) (.tmp 24) 64 rfl Try.underlying64 elemMp _ _ _ (by simp [Act.eval]) h6 ⟨w5.heap.size, 0, none⟩ 1 1 m.cells (by simp [Act.eval]) rfl (news_many w5 m.cells 24) (oneMp m) (by unfold maxLen; omega) (by omega) ?_
        intro A' c' w7 h7 x7
        try go_simp
        refine hK.out _ _ ⟨⟨fun _ => by kernel_rfl, fun h => till_gone (by kernel_rfl) h⟩, ⟨fun _ => by kernel_rfl, fun h => till_gone (by kernel_rfl) h⟩⟩ (fun hHeld => ?_)
        clear hK K
        have y0 := h7.right.cell 0
        have y1 := h7.right.free 0
        have yl := h7.right.lt
        refine anyL_ready (rs := [7]) (by kernel_rfl) (by simp) ?_
        refine OneOf.cons rfl (fun K hK => ?_) OneOf.nil
        go_simp
        refine hK.out _ _ ⟨⟨fun _ => by kernel_rfl, fun h => till_gone (by kernel_rfl) h⟩, ⟨fun _ => by kernel_rfl, fun h => till_gone (by kernel_rfl) h⟩⟩ (fun hHeld => ?_)
        clear hK K
        refine anyL_done (by kernel_rfl) ?_
        have hfin : Has (w7.setCell ⟨O, 0, none⟩ (.slice A' ((mapsOf vs).length + 1) c')) (gathM O (vs ++ [⟨t, j, at_, ⟨th, true, rg, us, di, fr⟩⟩]) * P) := by
          refine gathM_shut (A := A') (c := c') ?_
          unfold mrow
          rw [hm.out, mcells_snoc, List.length_append, List.length_singleton]
          exact h7.p2.set 0 _
        go_wp2_with fail
        exact bodyPost_ret (v := .tuple #[]) (by simp [results, Try.results77]) rfl ⟨rfl, hfin, ((x5.alloc _).trans x7).set _ _⟩
/-- What List hands back. -/
def listM (y : Vs) : List Mp := if y.code = 0 then mapsOf y.vs else []
def ListedM (y : Vs) (R : HProp) (w : World) (e : Ending) (w' : World) : Prop :=
  ∃ A c, e = .returned (.tuple #[.slice A (listM y).length c, (Value.int .i64) y.code]) ∧ Has w' (mrow (.slice A (listM y).length c) (listM y) * R) ∧ Ext w w'
theorem list_any (f : Nat) (s : Ms) (root : Int) (R : HProp) (w : World) (hs : s.Ok) (h : Has w (framesAt f s * R)) :
    Calls Try.prog 33 #[.pointer (some ⟨f, 0, none⟩), (Value.int .i64) root] w (ListedM (eachV s 3 root 0) (framesAt f s * R) w) := by
  have hmf : ∀ (fn : Fn) (first cap : Array Value) (w : World), (Instr.makeFunc fn first cap).run Try.prog w = .ok (.func fn first cap) w := fun _ _ _ _ => rfl
  have h1 := h.new #[.slice none 0 0] 64
  have h2 : Has (w.alloc (.cells #[.slice none 0 0] 64)) (gathM w.heap.size [] * (framesAt f s * R)) := gathM_shut (A := none) (c := 0) (Has.p2 (Has.rowNil h1))
  have x1 := (Ext.refl w).alloc (.cells #[.slice none 0 0] 64)
  have hE := each_any f s hs 77 #[.pointer (some ⟨w.heap.size, 0, none⟩)] (enters_of Try.func77 (by kernel_rfl) rfl) (gathM w.heap.size) 5000
    (fun P vs v W hv hl h => seeM w.heap.size P vs v W hv hl h) 3 (by omega) R root 0 [] _ (by omega) (by decide) (by decide) h2
  rw [List.nil_append] at hE
  have hln := Lib.hid (show (listM (eachV s 3 root 0)) = if (eachV s 3 root 0).code = 0 then mapsOf (eachV s 3 root 0).vs else [] from rfl)
  generalize eachV s 3 root 0 = y at *
  by_cases hc : y.code = 0
  · have hm : listM y = mapsOf y.vs := by rw [hln.out, if_pos hc]
    have HM := Lib.hid hm
    clear hm
    go_enter Try.func33, Try.ntmps33
    go_wp2_with (refine hE.mono ?_; rintro e w2 ⟨rfl, h3, x3⟩; obtain ⟨A, c, h4⟩ := gathM_open h3; have c0 := h4.cell 0; have cl := h4.lt)
    exact bodyPost_ret (v := .tuple #[.slice A (mapsOf y.vs).length c, (Value.int .i64) 0]) (by simp [results, Try.results33]) rfl ⟨A, c, by rw [HM.out, hc], by rw [HM.out]; exact h4.right, x1.trans x3⟩
  · have hm : listM y = [] := by rw [hln.out, if_neg hc]
    have HM := Lib.hid hm
    have hn : (y.code != 0) = true := by simpa using hc
    clear hm
    go_enter Try.func33, Try.ntmps33
    go_wp2_with (refine hE.mono ?_; rintro e w2 ⟨rfl, h3, x3⟩)
    exact bodyPost_ret (v := .tuple #[.slice none 0 0, (Value.int .i64) y.code]) (by simp [results, Try.results33]) rfl ⟨none, 0, by rw [HM.out]; rfl, by rw [HM.out]; exact Has.rowNil h3.right, x1.trans x3⟩
end Go.Proofs.Ytegkimecdonfgaa
namespace Go.Proofs.Ytegkimecdonfgaa
open Go.RowKit
def frA (f : Nat) (s : Ms) : HProp := ex fun s' => lift (s'.Ok ∧ Agree s' s) * framesAt f s'
section
variable {f : Nat} {s : Ms} {R : HProp} {w : World}
theorem frA_open (h : Has w (frA f s * R)) : ∃ s', s'.Ok ∧ Agree s' s ∧ Has w (framesAt f s' * R) := by
  unfold frA at h
  obtain ⟨s', h⟩ := has_ex_star.1 h
  rw [star_assoc] at h
  obtain ⟨⟨a, b⟩, h⟩ := has_lift.1 h
  exact ⟨s', a, b, h⟩
theorem frA_shut {s' : Ms} (h : Has w (framesAt f s' * R)) (ho : s'.Ok) (ha : Agree s' s) : Has w (frA f s * R) := by
  unfold frA
  refine has_ex_star.2 ⟨s', ?_⟩
  rw [star_assoc]
  exact has_lift.2 ⟨⟨ho, ha⟩, h⟩
end
section
variable (f : Nat) (s : Ms) (R : HProp) (w : World) (h : Has w (frA f s * R))
include h
theorem insA (root : Int) (x : Mp) : Calls Try.prog 13 #[.pointer (some ⟨f, 0, none⟩), (Value.int .i64) root, .agg #[(Value.int .i64) x.page, (Value.int .i64) x.size, (Value.int .i64) x.frame, (Value.int .i64) x.rights]] w (Res ((Value.int .i64) (insC s root x)) (frA f (insS s root x) * R) w) := by
  obtain ⟨s', ho, ha, h'⟩ := frA_open h
  refine (insT f s' root x R w ho h').mono ?_
  rintro e w' ⟨s2, ho2, ha2, he, h2, x2⟩
  rw [ha.insC] at he
  exact ⟨he, frA_shut h2 ho2 (ha2.trans (ha.insS root x)), x2⟩
omit h in
/-- What Remove comes to. -/
def RemovedA (f : Nat) (s : Ms) (r p : Int) (R : HProp) (w : World) (e : Ending) (w' : World) : Prop :=
  ∃ A n c, Res (.tuple #[(findM s r p).val, .slice A n c, (Value.int .i64) (findC s r p)]) (irow (.slice A n c) (remG s r p) * (frA f (remS s r p) * R)) w e w'
theorem remA (root p : Int) : Calls Try.prog 15 #[.pointer (some ⟨f, 0, none⟩), (Value.int .i64) root, (Value.int .i64) p] w (RemovedA f s root p R w) := by
  obtain ⟨s', ho, ha, h'⟩ := frA_open h
  refine (remT f s' root p R w ho h').mono ?_
  rintro e w' ⟨A, n, c, he, h2, x2⟩
  obtain ⟨ag, eg⟩ := ha.rem root p
  rw [ha.findC, ha.findM] at he
  rw [eg] at h2
  exact ⟨A, n, c, he, (frA_shut h2.p2 (remS_ok ho root p) ag).p2, x2⟩
theorem prA (root p ri : Int) : Calls Try.prog 19 #[.pointer (some ⟨f, 0, none⟩), (Value.int .i64) root, (Value.int .i64) p, (Value.int .i64) ri] w (Res (.tuple #[(prM s root p ri).val, (Value.int .i64) (prC s root p ri)]) (frA f (prS s root p ri) * R) w) := by
  obtain ⟨s', ho, ha, h'⟩ := frA_open h
  refine (prT f s' root p ri R w ho h').mono ?_
  rintro e w' ⟨he, h2, x2⟩
  obtain ⟨ag, ec, em⟩ := ha.pr root p ri
  rw [ec, em] at he
  exact ⟨he, frA_shut h2 (prS_ok ho root p ri) ag, x2⟩
theorem findA (root p : Int) : Calls Try.prog 27 #[.pointer (some ⟨f, 0, none⟩), (Value.int .i64) root, (Value.int .i64) p] w (Pure (.tuple #[(findM s root p).val, enV (findE s root p), (Value.int .i64) (findC s root p)]) w) := by
  obtain ⟨s', ho, ha, h'⟩ := frA_open h
  refine (findTb f s' root p R w ho h').mono ?_
  rintro e w' hp
  rw [ha.findC, ha.findM, ha.findE] at hp
  exact hp
theorem giveA (k : Int) : Calls Try.prog 17 #[.pointer (some ⟨f, 0, none⟩), .int .i64 k] w (Res (Value.bool (s.has k)) (frA f (s.giveS k) * R) w) := by
  obtain ⟨s', ho, ha, h'⟩ := frA_open h
  refine (giveF f s' k R w h' ho).mono ?_
  rintro e w' ⟨he, h2, x2⟩
  rw [ha.has] at he
  exact ⟨he, frA_shut h2 (ho.giveS k) (ha.giveS k), x2⟩
theorem freeA : Calls Try.prog 25 #[.pointer (some ⟨f, 0, none⟩)] w (Same ((Value.int .i64) (s.frees.length : Nat)) w) := by
  obtain ⟨s', ho, ha, h'⟩ := frA_open h
  have := freeF f s' R w h'
  rw [ha.fr] at this
  exact this
omit h in
theorem agree_load {s s' : Ms} (ha : Agree s' s) (k i : Int) : loadV s' k i = loadV s k i ∧ s'.hasW k i = s.hasW k i := by
  have e : s'.hasW k i = s.hasW k i := by unfold Ms.hasW; rw [ha.has]
  refine ⟨?_, e⟩
  unfold loadV
  rw [e]
  split
  · rename_i hh
    have : s'.has k = true := by
      rw [ha.has]
      unfold Ms.hasW at hh
      rw [Bool.and_eq_true] at hh
      exact hh.1
    exact ha.word this i
  · rfl
theorem loadA (k i : Int) : Calls Try.prog 30 #[.pointer (some ⟨f, 0, none⟩), .int .i64 k, .int .i64 i] w (Same (.tuple #[(Value.int .u64) (loadV s k i), Value.bool (s.hasW k i)]) w) := by
  obtain ⟨s', ho, ha, h'⟩ := frA_open h
  have := loadF f s' k i R w h'
  rw [(agree_load ha k i).1, (agree_load ha k i).2] at this
  exact this
theorem storeA (k i : Int) {v : Int} (hv : u64 v) : Calls Try.prog 31 #[.pointer (some ⟨f, 0, none⟩), .int .i64 k, .int .i64 i, .int .u64 v] w (Res (Value.bool (s.hasW k i)) (frA f (storeS s k i v) * R) w) := by
  obtain ⟨s', ho, ha, h'⟩ := frA_open h
  refine (storeF f s' k i v R w h').mono ?_
  rintro e w' ⟨he, h2, x2⟩
  have ew := (agree_load ha k i).2
  rw [ew] at he
  refine ⟨he, frA_shut h2 (ho.storeS k i hv) ?_, x2⟩
  unfold storeS
  rw [ew]
  split
  · exact ha.setW _ _ _
  · exact ha
theorem findWayA (root p : Int) : Calls Try.prog 29 #[.pointer (some ⟨f, 0, none⟩), .int .i64 root, .int .i64 p] w (FoundWay (way s root p) p w) := by
  obtain ⟨s', ho, ha, h'⟩ := frA_open h
  have := find_way f s' root p R w ho h'
  rw [ha.way] at this
  exact this
theorem listA (root : Int) : Calls Try.prog 33 #[.pointer (some ⟨f, 0, none⟩), (Value.int .i64) root] w (ListedM (eachV s 3 root 0) (frA f s * R) w) := by
  obtain ⟨s', ho, ha, h'⟩ := frA_open h
  have := list_any f s' root R w ho h'
  rw [ha.eachV] at this
  refine this.mono ?_
  rintro e w' ⟨A, c, he, h2, x2⟩
  exact ⟨A, c, he, (frA_shut h2.p2 ho ha).p2, x2⟩
end
end Go.Proofs.Ytegkimecdonfgaa
