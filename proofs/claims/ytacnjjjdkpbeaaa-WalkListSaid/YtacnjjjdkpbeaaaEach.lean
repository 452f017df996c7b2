/- The contract of walk's each, for whatever it is handed to see with. -/
import Derived.Test.YtacnjjjdkpbeaaaWkFind
import Derived.Shelf.Abstract
namespace Go.Proofs.Ytacnjjjdkpbeaaa
open Go.RowKit
set_option maxRecDepth 100000

/-- A visit that may be. -/
structure VOk (v : Vis) : Prop where
  l0 : 0 ≤ v.lev
  l3 : v.lev ≤ 3
  a0 : 0 ≤ v.at_
  a4 : v.at_ * pow8 v.lev.toNat < 4096
def subM : Nat → Nat | 0 => 0 | L + 1 => most L
theorem most_eq (L : Nat) : most L = 8 * (1 + subM L) := by
  cases L with
  | zero => rfl
  | succ L => show 8 + 8 * most L = 8 * (1 + most L); omega
theorem subV_len (s : Ms) (L : Nat) (t a : Int) : (subV s L t a).vs.length ≤ subM L := by
  cases L with
  | zero => exact Nat.le_refl _
  | succ L => exact eachV_len s L t a
theorem range'_cons {i : Nat} (h : i < 8) : List.range' i (8 - i) = i :: List.range' (i + 1) (8 - (i + 1)) := by
  rw [show 8 - i = (8 - (i + 1)) + 1 by omega, List.range'_succ]
theorem scan_bad {s : Ms} {L : Nat} {t a : Int} {sub : Int → Int → Vs} {i : Nat} {is : List Nat} (h : decC (wordV s t i) L ≠ 0) : scanV s L t a sub (i :: is) = ⟨decC (wordV s t i) L, []⟩ := by
  rw [scanV, if_pos h]
theorem scan_plain {s : Ms} {L : Nat} {t a : Int} {sub : Int → Int → Vs} {i : Nat} {is : List Nat} (h : decC (wordV s t i) L = 0) (hn : ¬ ((decE (wordV s t i) L).there = true ∧ (decE (wordV s t i) L).leaf = false)) :
    scanV s L t a sub (i :: is) = ⟨(scanV s L t a sub is).code, ⟨t, L, a * 8 + i, decE (wordV s t i) L⟩ :: (scanV s L t a sub is).vs⟩ := by
  rw [scanV, if_neg (by rw [h]; simp)]
  dsimp only
  rw [if_neg hn]
  simp
theorem scan_sub {s : Ms} {L : Nat} {t a : Int} {sub : Int → Int → Vs} {i : Nat} {is : List Nat} (h : decC (wordV s t i) L = 0) (hn : (decE (wordV s t i) L).there = true ∧ (decE (wordV s t i) L).leaf = false)
    (hc : (sub (decE (wordV s t i) L).frame (a * 8 + i)).code = 0) :
    scanV s L t a sub (i :: is) = ⟨(scanV s L t a sub is).code, ⟨t, L, a * 8 + i, decE (wordV s t i) L⟩ :: ((sub (decE (wordV s t i) L).frame (a * 8 + i)).vs ++ (scanV s L t a sub is).vs)⟩ := by
  rw [scanV, if_neg (by rw [h]; simp)]
  dsimp only
  rw [if_pos hn, if_neg (by rw [hc]; simp)]
theorem scan_subbad {s : Ms} {L : Nat} {t a : Int} {sub : Int → Int → Vs} {i : Nat} {is : List Nat} (h : decC (wordV s t i) L = 0) (hn : (decE (wordV s t i) L).there = true ∧ (decE (wordV s t i) L).leaf = false)
    (hc : (sub (decE (wordV s t i) L).frame (a * 8 + i)).code ≠ 0) :
    scanV s L t a sub (i :: is) = ⟨(sub (decE (wordV s t i) L).frame (a * 8 + i)).code, ⟨t, L, a * 8 + i, decE (wordV s t i) L⟩ :: (sub (decE (wordV s t i) L).frame (a * 8 + i)).vs⟩ := by
  rw [scanV, if_neg (by rw [h]; simp)]
  dsimp only
  rw [if_pos hn, if_pos hc]
theorem sub_at {L : Nat} {a : Int} {i : Nat} (hL : L ≤ 3) (h0 : 0 ≤ a) (h : a * pow8 (L + 1) < 4096) (hi : i < 8) : 0 ≤ a * 8 + i ∧ (a * 8 + i) * pow8 L < 4096 ∧ a < 4096 := by
  refine ⟨by omega, bnd hL h0 h hi, ?_⟩
  have hp := pow8_pos' (L + 1)
  have : a * 1 ≤ a * pow8 (L + 1) := Int.mul_le_mul_of_nonneg_left (by omega) h0
  omega

section
variable (f : Nat) (s : Ms) (hs : s.Ok) (g : Nat) (cap : Array Value) (eg : ∀ args w, (callFunc g args).run Try.prog w = .ok (.enter g args) w) (I : List Vis → HProp) (B : Nat)
  (hsee : ∀ (P : HProp) (vs : List Vis) (v : Vis) (W : World), VOk v → vs.length < B → Has W (I vs * P) →
    Calls Try.prog g (#[(Value.int .i64) v.t, (Value.int .i64) v.lev, (Value.int .i64) v.at_, .agg #[Value.bool v.e.there, Value.bool v.e.leaf, (Value.int .i64) v.e.rights, Value.bool v.e.used, Value.bool v.e.dirty, (Value.int .i64) v.e.frame]] ++ cap) W (Res (.tuple #[]) (I (vs ++ [v]) * P) W))
include hs eg hsee
/-- What each comes to at a level. -/
def EachAt (L : Nat) : Prop := ∀ (R : HProp) (t a : Int) (vs0 : List Vis) (w : World), 0 ≤ a → a * pow8 (L + 1) < 4096 → vs0.length + most L ≤ B → Has w (I vs0 * (framesAt f s * R)) →
    Calls Try.prog 94 #[.pointer (some ⟨f, 0, none⟩), (Value.int .i64) t, (Value.int .i64) L, (Value.int .i64) a, .func (.func g) #[] cap] w (Res ((Value.int .i64) (eachV s L t a).code) (I (vs0 ++ (eachV s L t a).vs) * (framesAt f s * R)) w)
set_option maxHeartbeats 4000000 in
theorem each_step (L : Nat) (hL : L ≤ 3) (ih : ∀ K, L = K + 1 → EachAt f s g cap I B K) : EachAt f s g cap I B L := by
    intro R t a vs0 w ha ha4 hB h
    have IH := Lib.hid ih
    clear ih
    have HSEE := Lib.hid hsee
    have hmo := most_eq L
    go_enter Try.func94, Try.ntmps94
    go_wp2_with fail
    go_loopw [18] (fun s18 wr => ∃ (i : Nat) (vs : List Vis), i ≤ 8 ∧ s18 = (Value.int .i64) i ∧ vs.length ≤ i * (1 + subM L) ∧ (0 < i → s.has t = true) ∧
        Hid (s.has t = true → eachV s L t a = ⟨(scanV s L t a (subV s L) (List.range' i (8 - i))).code, vs ++ (scanV s L t a (subV s L) (List.range' i (8 - i))).vs⟩) ∧
        Has wr (I (vs0 ++ vs) * (framesAt f s * R)) ∧ Ext w wr) (fun s18 _ => 8 - (intOf s18).toNat)
    case atStart =>
      refine ⟨0, [], by omega, rfl, by simp, fun h => by omega, Lib.hid fun ht => ?_, by simpa using h, Ext.refl _⟩
      rw [eachV_eq, if_neg (by rw [ht]; simp), List.range_eq_range']
      rfl
    case round =>
      clear h
      obtain ⟨i, vs, hi, rfl, hvl, hti, HE, hr, hx⟩ := hrel
      by_cases hlt : i < 8
      · have hLD := loadF f s t i _ wr hr.p2
        cases ht : s.has t with
        | false =>
          have hi0 : i = 0 := by
            rcases Nat.eq_zero_or_pos i with h | h
            · exact h
            · rw [hti h] at ht; cases ht
          subst hi0
          have hv0 : vs = [] := List.eq_nil_of_length_eq_zero (by omega)
          subst hv0
          have hy := Lib.hid (show eachV s L t a = ⟨12, []⟩ by rw [eachV_eq, if_pos ht])
          have hw : s.hasW t ((0 : Nat) : Int) = false := by unfold Ms.hasW; rw [ht]; rfl
          rw [hw] at hLD
          clear hw ht hti HE
          generalize loadV s t ((0 : Nat) : Int) = v at *
          go_wp2_with fail
          refine hLD.mono ?_; rintro e w2 ⟨rfl, rfl⟩
          go_wp2_with fail
          go_ret
          rw [hy.out]
          exact ⟨rfl, hr, hx⟩
        | true =>
          have hw : s.hasW t (i : Int) = true := hasW_iff.2 ⟨ht, by omega, by omega⟩
          have hlv : loadV s t (i : Int) = wordV s t i := by unfold loadV wordV; rw [if_pos hw]
          rw [hw, hlv] at hLD
          clear hw hlv
          have hb := hs.inv.wok t.toNat ((i : Int)).toNat
          have HD := Lib.hid (fun W => decode_any (wordV s t i) L W hb.1 hb.2)
          clear hb
          have hEq := HE.out ht
          rw [range'_cons hlt] at hEq
          have HEQ := Lib.hid hEq
          clear hEq HE hti
          have HT := Lib.hid ht
          clear ht
          obtain ⟨hat0, hat4, ha6⟩ := sub_at hL ha ha4 hlt
          have hm1 : IntKind.i64.wrap (a * 8) = a * 8 := by rw [IntKind.wrap_i64]; omega
          have hm2 : IntKind.i64.wrap (a * 8 + i) = a * 8 + i := by rw [IntKind.wrap_i64]; omega
          by_cases hc : decC (wordV s t i) L = 0
          case neg =>
            have hy := Lib.hid (show eachV s L t a = ⟨decC (wordV s t i) L, vs⟩ by rw [HEQ.out, scan_bad hc]; simp)
            have hv := Lib.hid (decV_no (w := wordV s t i) (l := L) rfl (.inl hc))
            rw [hv.out] at HD
            have hn : (decC (wordV s t i) L != 0) = true := by simpa using hc
            clear hv hc HEQ
            generalize decC (wordV s t i) L = code at *
            generalize wordV s t i = v at *
            go_wp2_with fail
            refine hLD.mono ?_; rintro e w2 ⟨rfl, rfl⟩
            go_wp2_with fail
            refine (HD.out _).mono ?_; rintro e w2 ⟨rfl, b2⟩
            go_wp2_with fail
            go_ret
            rw [hy.out]
            exact ⟨rfl, (hr.below b2).alloc _, (hx.below b2).alloc _⟩
          have hp1 := Lib.hid (fun hn => scan_plain (a := a) (sub := subV s L) (is := List.range' (i + 1) (8 - (i + 1))) hc hn)
          have hp2 := Lib.hid (fun hn hk => scan_sub (a := a) (sub := subV s L) (is := List.range' (i + 1) (8 - (i + 1))) hc hn hk)
          have hp3 := Lib.hid (fun hn hk => scan_subbad (a := a) (sub := subV s L) (is := List.range' (i + 1) (8 - (i + 1))) hc hn hk)
          have hv := Lib.hid (show decV (wordV s t i) L = .tuple #[.agg #[Value.bool (decE (wordV s t i) L).there, Value.bool (decE (wordV s t i) L).leaf, (Value.int .i64) (decE (wordV s t i) L).rights, Value.bool (decE (wordV s t i) L).used, Value.bool (decE (wordV s t i) L).dirty, (Value.int .i64) (decE (wordV s t i) L).frame], (Value.int .i64) 0] by unfold decV; rw [hc])
          rw [hv.out] at HD
          have hK := Lib.hid (show (decE (wordV s t i) L).there = true ∧ (decE (wordV s t i) L).leaf = false → ∃ K, L = K + 1 by
            intro hn
            cases L with
            | zero =>
              rcases dec0_leaf hc with h | h
              · have := hn.1.symm.trans h
                cases this
              · have := hn.2.symm.trans h
                cases this
            | succ K => exact ⟨K, rfl⟩)
          clear hv hc
          have hvis : VOk ⟨t, L, a * 8 + i, decE (wordV s t i) L⟩ := ⟨by show (0 : Int) ≤ (L : Int); omega, by show (L : Int) ≤ 3; omega, hat0, hat4⟩
          have HS := fun P => HSEE.out P (vs0 ++ vs) ⟨t, L, a * 8 + i, decE (wordV s t i) L⟩
          generalize decE (wordV s t i) L = e at *
          have hbnd : (vs0 ++ vs).length < B := by
            have h1 := Nat.mul_le_mul_right (1 + subM L) (show i ≤ 7 by omega)
            have h2 : 8 * (1 + subM L) = 7 * (1 + subM L) + (1 + subM L) := by omega
            rw [List.length_append]
            omega
          generalize wordV s t i = v at *
          have HSA := Lib.hid (fun P W hW => HS P W hvis hbnd hW)
          clear HS hvis hbnd
          go_wp2_with fail
          refine hLD.mono ?_; rintro e2 w2 ⟨rfl, rfl⟩
          go_wp2_with fail
          refine (HD.out _).mono ?_; rintro e2 w2 ⟨rfl, b2⟩
          have h2 := hr.below b2
          have x2 := hx.below b2
          have h3 := (h2.new #[Value.bool e.there, Value.bool e.leaf, (Value.int .i64) e.rights, Value.bool e.used, Value.bool e.dirty, (Value.int .i64) e.frame] 59)
          have x3 := x2.alloc (.cells #[Value.bool e.there, Value.bool e.leaf, (Value.int .i64) e.rights, Value.bool e.used, Value.bool e.dirty, (Value.int .i64) e.frame] 59)
          have h3 := h3.p2
          clear hLD HD hr hx h2 x2 b2
          go_wp2_with fail
          refine (HSA.out _ _ h3).mono ?_; rintro e2 w5 ⟨rfl, h5, x5⟩
          have x5 := x3.trans x5
          obtain ⟨e0, e1, e2', e3, e4, e5⟩ := h5.right.cells6
          have el := h5.right.lt
          have hlen1 : i * (1 + subM L) + (1 + subM L) = (i + 1) * (1 + subM L) := by rw [Nat.add_mul, Nat.one_mul]
          have hv1 : vs0 ++ vs ++ [⟨t, L, a * 8 + i, e⟩] = vs0 ++ (vs ++ [⟨t, L, a * 8 + i, e⟩]) := List.append_assoc _ _ _
          have HV1 := Lib.hid hv1
          clear hv1 h3 x3
          by_cases hn : e.there = true ∧ e.leaf = false
          · obtain ⟨K, hLK⟩ := hK.out hn
            have hLKH := Lib.hid hLK
            have hwr : IntKind.i64.wrap ((L : Int) - 1) = (K : Int) := by rw [IntKind.wrap_i64]; omega
            have hlv : vs.length ≤ 7 * (1 + subM L) := Nat.le_trans hvl (Nat.mul_le_mul_right _ (by omega))
            have hIH := IH.out K hLK _ e.frame (a * 8 + i) (vs0 ++ (vs ++ [⟨t, (L : Int), a * 8 + i, e⟩])) w5 hat0 (by rw [← hLKH.out]; exact hat4) (by
              have hsm : subM L = most K := by rw [hLKH.out]; rfl
              rw [List.length_append, List.length_append, List.length_singleton]
              omega) (by
              rw [← HV1.out]
              exact h5.eq (by rw [star_left_comm (blk _ _ _)]))
            have hsub : subV s L = eachV s K := by rw [hLKH.out]; rfl
            have HP2 := Lib.hid (fun hk => hp2.out hn hk)
            have HP3 := Lib.hid (fun hk => hp3.out hn hk)
            rw [← hsub] at hIH
            have hrl := Lib.hid (show (subV s L e.frame (a * 8 + i)).vs.length ≤ most K by rw [hsub]; exact eachV_len s K e.frame (a * 8 + i))
            clear hLK hsub
            obtain ⟨n1, n2⟩ := hn
            generalize subV s L e.frame (a * 8 + i) = r at *
            go_wp2_with fail
            refine hIH.mono ?_; rintro e2 w6 ⟨rfl, h6, x6⟩
            have x6 := x5.trans x6
            by_cases hk : r.code = 0
            · have hfin := Lib.hid (HP2.out hk)
              go_wp2_with fail
              go_roundw
              case rel =>
                refine ⟨i + 1, vs ++ (⟨t, (L : Int), a * 8 + i, e⟩ :: r.vs), by omega, by go_num, ?_, by intros; first | trivial | exact HT.out, Lib.hid fun _ => ?_, ?_, x6⟩
                · have := hrl.out
                  have hsm : subM L = most K := by rw [hLKH.out]; rfl
                  rw [List.length_append, List.length_cons]
                  omega
                · rw [HEQ.out, hfin.out]
                  simp
                · have h7 := h6.p2.p2
                  have e7 : vs0 ++ (vs ++ [⟨t, (L : Int), a * 8 + i, e⟩]) ++ r.vs = vs0 ++ (vs ++ (⟨t, (L : Int), a * 8 + i, e⟩ :: r.vs)) := by simp
                  rw [e7] at h6
                  exact h6.drop3
              case measure => simp [intOf]; omega
            · have hfin := Lib.hid (HP3.out hk)
              have hkn : (r.code != 0) = true := by simpa using hk
              go_wp2_with fail
              go_ret
              rw [HEQ.out, hfin.out]
              have e7 : vs0 ++ (vs ++ [⟨t, (L : Int), a * 8 + i, e⟩]) ++ r.vs = vs0 ++ (vs ++ (⟨t, (L : Int), a * 8 + i, e⟩ :: r.vs)) := by simp
              rw [e7] at h6
              exact ⟨rfl, h6.drop3, x6⟩
          · have hfin := Lib.hid (hp1.out hn)
            rw [HV1.out] at h5
            have hcase : e.there = false ∨ (e.there = true ∧ e.leaf = true) := by
              cases h1 : e.there <;> cases h2 : e.leaf <;> simp_all
            have hround : ∀ wz, Has wz (I (vs0 ++ (vs ++ [⟨t, (L : Int), a * 8 + i, e⟩])) * (blk w2.heap.size #[Value.bool e.there, Value.bool e.leaf, (Value.int .i64) e.rights, Value.bool e.used, Value.bool e.dirty, (Value.int .i64) e.frame] 59 * (framesAt f s * R))) → Has wz (I (vs0 ++ (vs ++ [⟨t, (L : Int), a * 8 + i, e⟩])) * (framesAt f s * R)) := fun _ h => h.p2.right
            have HR := Lib.hid hround
            clear hround hn
            rcases hcase with h1 | ⟨h1, h2⟩
            · go_wp2_with fail
              go_roundw
              case rel =>
                refine ⟨i + 1, vs ++ [⟨t, (L : Int), a * 8 + i, e⟩], by omega, by go_num, by rw [List.length_append, List.length_singleton]; omega, by intros; first | trivial | exact HT.out, Lib.hid fun _ => ?_, HR.out _ h5, x5⟩
                rw [HEQ.out, hfin.out]
                simp
              case measure => simp [intOf]; omega
            · go_wp2_with fail
              go_roundw
              case rel =>
                refine ⟨i + 1, vs ++ [⟨t, (L : Int), a * 8 + i, e⟩], by omega, by go_num, by rw [List.length_append, List.length_singleton]; omega, by intros; first | trivial | exact HT.out, Lib.hid fun _ => ?_, HR.out _ h5, x5⟩
                rw [HEQ.out, hfin.out]
                simp
              case measure => simp [intOf]; omega
      · obtain rfl : i = 8 := by omega
        have hy := Lib.hid (HE.out (hti (by omega)))
        go_wp2_with fail
        go_ret
        rw [hy.out]
        exact ⟨rfl, by simpa [scanV] using hr, hx⟩
theorem each_any : ∀ (L : Nat), L ≤ 3 → EachAt f s g cap I B L
  | 0, h => each_step f s hs g cap eg I B hsee 0 h fun _ e => by cases e
  | L + 1, h => each_step f s hs g cap eg I B hsee (L + 1) h fun K e => by
    obtain rfl : L = K := by omega
    exact each_any L (by omega)
end
end Go.Proofs.Ytacnjjjdkpbeaaa
