/- The contract of the document's below and AllOf. -/
import Derived.Test.YtacnjjjdkpbeaaaWkList
import Derived.Test.YtacnjjjdkpbeaaaWayTo
import Derived.Test.YtacnjjjdkpbeaaaRefEnt5
import Derived.Laws.OwnMore
namespace Go.Proofs.Ytacnjjjdkpbeaaa
open Go.RowKit
set_option maxRecDepth 100000

/-- A row of one's own onto another. -/
theorem wpList_append_row {P : Program} {w : World} {R : HProp} {ops : Array Oper} {rest : List Oper} {o : Oper} {a : Act} {Q : Exit → Act → World → Prop} (hgd : o.guard = none) (s x : Operand) (t : TypeId)
    (ho : o.op = .call { callee := .builtin .append, args := #[s, x], argTypes := #[t, t] }) {e : TypeId} {z : Value} {size bytes : Nat} (hT : P.underlying t = some (.slice e)) (hE : Elem P e z size bytes)
    (v : Value) (n : Nat) (xs : List Value) (hs : a.eval s = v) (u : Value) (m : Nat) (ys : List Value) (hx : a.eval x = u) (h : Has w (row e size v n xs * (row e size u m ys * R))) (h1 : ∀ y ∈ ys, y.oneCell' = true)
    (h63 : n + m ≤ maxLen) (hbytes : (n + m) * bytes ≤ 140737488355328)
    (hk : ∀ A c w', Has w' (row e size (.slice A (n + m) c) (n + m) (xs ++ ys) * (row e size u m ys * R)) → Ext w w' → wpList P ops Q rest (a.put o.dst (.slice A (n + m) c)) w') : wpList P ops Q (o :: rest) a w := by
  rcases h.p2.rowCases with ⟨rfl, rfl, rfl, _⟩ | ⟨g, cap, cur, rfl, _⟩
  · obtain ⟨i, hi, _, hsz, _⟩ := info_parts hE.info
    obtain ⟨A, c, rfl⟩ := h.rowForm
    refine wpList_plain hgd fun _ hK => ?_
    have hrun := run_append_owned_none (P := P) (w := w) 0 t o.type e i size hT hi (.slice A n c) n xs h.ownsRow
    unfold Oper.wp
    simp [execOp, ho, resolve, invoke, builtin, hs, hx, hrun, Result.andThen]
    exact hK _ _ (hk A c w (by simpa using h) (Ext.refl w))
  · have hget := fun j y (hy : ys[j]? = some y) => h.p2.rowGet hy
    have hl := h.p2.rowLens.1
    refine wpList_append_has hgd s x t ho hT hE v n xs hs h ⟨g, 0, none⟩ m cap ys hx hl (fun j y hy => ?_) h1 h63 hbytes fun v' w' h2 x2 => ?_
    · obtain ⟨g', hg', _, hc, _⟩ := hget j y hy
      injection hg' with hg'
      injection hg' with hg'
      subst hg'
      rw [Addr.add_lit, Nat.zero_add]
      exact hc
    · have hf : ∃ A c, v' = .slice A (n + m) c := by
        rcases h2.rowCases with ⟨hv, hn, _, _⟩ | ⟨g, cap, cur, hv, _⟩
        · exact ⟨none, 0, by rw [hv, hn]⟩
        · exact ⟨_, _, hv⟩
      obtain ⟨A, c, rfl⟩ := hf
      exact hk A c w' h2 x2
theorem mcells_one (l : List Mp) : ∀ u ∈ mcells l, u.oneCell' = true := by
  intro u hu
  unfold mcells flat at hu
  obtain ⟨x, _, hx⟩ := List.mem_flatMap.1 hu
  exact oneMp x u hx
theorem ints_one (l : List Int) : ∀ u ∈ l.map (Value.int .i64), u.oneCell' = true := by
  intro u hu
  obtain ⟨x, _, rfl⟩ := List.mem_map.1 hu
  rfl
theorem mcells_append (a b : List Mp) : mcells (a ++ b) = mcells a ++ mcells b := flat_append a b

/-- What below hands back. -/
def BelowRes (y : Vs) (t : Int) (w : World) (e : Ending) (w' : World) : Prop :=
  ∃ A c B d, e = .returned (.tuple #[.slice A (listM y).length c, .slice B (listT y t).length d, (Value.int .i64) y.code]) ∧ Has w' (mrow (.slice A (listM y).length c) (listM y) * (irow (.slice B (listT y t).length d) (listT y t) * old w w.heap.size)) ∧ Ext w w'
section
variable (q : Nat) (s : Ms) (hs : s.Ok)
def BelowAt (L : Nat) : Prop := ∀ (R : HProp) (t a : Int) (w : World), 0 ≤ a → a * pow8 (L + 1) < 4096 → Has w (memAt q s * R) →
    Calls Try.prog 98 #[.pointer (some ⟨q, 0, none⟩), (Value.int .i64) t, (Value.int .i64) L, (Value.int .i64) (a * pow8 (L + 1))] w (BelowRes (eachV s L t a) t w)
include hs
set_option maxHeartbeats 4000000 in
theorem below_step (L : Nat) (hL : L ≤ 3) (ih : ∀ K, L = K + 1 → BelowAt q s K) : BelowAt q s L := by
  intro R t a w ha ha4 h
  have IH := Lib.hid ih
  clear ih
  have hTK := takenM q s t R w h
  cases ht : s.has t with
  | false =>
    rw [ht] at hTK
    have hy := Lib.hid (show eachV s L t a = ⟨12, []⟩ by rw [eachV_eq, if_pos ht])
    have HM := Lib.hid (show listM (eachV s L t a) = [] by rw [hy.out]; rfl)
    have HT2 := Lib.hid (show listT (eachV s L t a) t = [] by rw [hy.out]; rfl)
    go_enter Try.func98, Try.ntmps98
    go_wp2_with (refine hTK.mono ?_; rintro e w2 ⟨rfl, rfl⟩)
    exact bodyPost_ret (v := .tuple #[.slice none 0 0, .slice none 0 0, (Value.int .i64) 12]) (by simp [results, Try.results98]) rfl ⟨none, 0, none, 0, by rw [HM.out, HT2.out, hy.out]; rfl, by rw [HM.out, HT2.out]; exact Has.rowNil (Has.rowNil (has_old w)), Ext.refl w⟩
  | true =>
    rw [ht] at hTK
    have hmo := most_eq L
    have hmo3 : most L ≤ 4680 := by
      rcases (show L = 0 ∨ L = 1 ∨ L = 2 ∨ L = 3 by omega) with rfl | rfl | rfl | rfl <;> decide
    have h1 := (has_old w).new #[(Value.int .i64) t] 3
    have x1 := (Ext.refl w).alloc (.cells #[(Value.int .i64) t] 3)
    have h2 : Has (w.alloc (.cells #[(Value.int .i64) t] 3)) (mrow (.slice none 0 0) [] * (irow (.slice (some ⟨w.heap.size, 0, none⟩) 1 1) [t] * old w w.heap.size)) :=
      Has.rowNil (Has.rowOf (xs := [(Value.int .i64) t]) (n := 1) (size := 1) h1 rfl (Nat.le_refl 1) (by unfold maxLen; omega) rfl rfl)
    obtain ⟨k0, k1, _⟩ := Ms.has_iff.1 ht
    obtain ⟨t, rfl⟩ := Int.eq_ofNat_of_zero_le k0
    go_enter Try.func98, Try.ntmps98
    go_wp2_with (refine hTK.mono ?_; rintro e w2 ⟨rfl, rfl⟩)
    go_loopw [11, 12, 13] (fun s11 s12 s13 wr => ∃ (i : Nat) (vs : List Vis) (A B : Option Addr) (c d : Nat), i ≤ 8 ∧ s13 = (Value.int .i64) i ∧ s11 = .slice A (mapsOf vs).length c ∧ s12 = .slice B ((tabsOf vs).length + 1) d ∧ vs.length ≤ i * (1 + subM L) ∧
        Hid (eachV s L t a = ⟨(scanV s L t a (subV s L) (List.range' i (8 - i))).code, vs ++ (scanV s L t a (subV s L) (List.range' i (8 - i))).vs⟩) ∧
        Has wr (mrow (.slice A (mapsOf vs).length c) (mapsOf vs) * (irow (.slice B ((tabsOf vs).length + 1) d) (t :: tabsOf vs) * old w w.heap.size)) ∧ Ext w wr) (fun _ _ s13 _ => 8 - (intOf s13).toNat)
    case atStart =>
      refine ⟨0, [], none, some ⟨w.heap.size, 0, none⟩, 0, 1, by omega, rfl, rfl, rfl, by simp, Lib.hid ?_, h2, x1⟩
      rw [eachV_eq, if_neg (by rw [ht]; simp), List.range_eq_range']
      rfl
    case round =>
      clear h1 x1 h2
      obtain ⟨i, vs, A, B, c, d, hi, rfl, rfl, rfl, hvl, HE, hr, hx⟩ := hrel
      by_cases hlt : i < 8
      · have hM : Has wr (memAt q s * R) := (h.onto' hr.a2).right
        obtain ⟨gw, gi, vk, hq⟩ := memAt_open hM
        have hb := hs.inv.wok ((t : Nat) : Int).toNat ((i : Int)).toNat
        have HD := Lib.hid (fun W => entryOf_any (wordV s t i) L W hb.1 hb.2)
        have hq0 := hq.cell 0
        have hword : wr.cell? ⟨gw, t * 8 + i, none⟩ = some ((Value.int .u64) (wordV s t i)) := mem_word hq (k := t) (i := i) (by omega) hlt
        have ql := hq.lt
        have gl := hq.right.lt
        have hEq := HE.out
        rw [range'_cons hlt] at hEq
        have HEQ := Lib.hid hEq
        clear hEq HE hb hM hq
        obtain ⟨hat0, hat4, ha6⟩ := sub_at hL ha ha4 hlt
        by_cases hc : decC (wordV s t i) L = 0
        case neg =>
          have hy := Lib.hid (show eachV s L t a = ⟨decC (wordV s t i) L, vs⟩ by rw [HEQ.out, scan_bad hc]; simp)
          have HM := Lib.hid (show listM (eachV s L t a) = [] by rw [hy.out]; unfold listM; rw [if_neg hc])
          have HT2 := Lib.hid (show listT (eachV s L t a) t = [] by rw [hy.out]; unfold listT; rw [if_neg hc])
          have hv := Lib.hid (decV_no (w := wordV s t i) (l := L) rfl (.inl hc))
          rw [hv.out] at HD
          have hn : (decC (wordV s t i) L != 0) = true := by simpa using hc
          clear hv hc HEQ
          generalize decC (wordV s t i) L = code at *
          generalize wordV s t i = v at *
          go_wp2_with fail
          refine (HD.out _).mono ?_; rintro e w2 ⟨rfl, b2⟩
          go_wp2_with fail
          exact bodyPost_ret (v := .tuple #[.slice none 0 0, .slice none 0 0, (Value.int .i64) code]) (by simp [results, Try.results98]) rfl ⟨none, 0, none, 0, by rw [HM.out, HT2.out, hy.out]; rfl, by rw [HM.out, HT2.out]; exact Has.rowNil (Has.rowNil (((hr.below b2).right.right).alloc _)), (hx.below b2).alloc _⟩
        have hp1 := Lib.hid (fun hn => scan_plain (a := a) (sub := subV s L) (is := List.range' (i + 1) (8 - (i + 1))) hc hn)
        have hp2 := Lib.hid (fun hn hk => scan_sub (a := a) (sub := subV s L) (is := List.range' (i + 1) (8 - (i + 1))) hc hn hk)
        have hp3 := Lib.hid (fun hn hk => scan_subbad (a := a) (sub := subV s L) (is := List.range' (i + 1) (8 - (i + 1))) hc hn hk)
        have hv := Lib.hid (show decV (wordV s t i) L = .tuple #[.agg #[Value.bool (decE (wordV s t i) L).there, Value.bool (decE (wordV s t i) L).leaf, (Value.int .i64) (decE (wordV s t i) L).rights, Value.bool (decE (wordV s t i) L).used, Value.bool (decE (wordV s t i) L).dirty, (Value.int .i64) (decE (wordV s t i) L).frame], (Value.int .i64) 0] by unfold decV; rw [hc])
        rw [hv.out] at HD
        have hK := Lib.hid (show (decE (wordV s t i) L).there = true ∧ (decE (wordV s t i) L).leaf = false → ∃ K, L = K + 1 by
          intro hn
          cases L with
          | zero =>
            rcases dec0_leaf hc with h | h
            · have := hn.1.symm.trans h
              cases this
            · have := hn.2.symm.trans h
              cases this
          | succ K => exact ⟨K, rfl⟩)
        clear hv hc
        generalize decE (wordV s t i) L = e at *
        generalize wordV s t i = v at *
        have hml := mapsOf_len vs
        have htl := tabsOf_len vs
        have hvs7 : vs.length ≤ 7 * (1 + subM L) := Nat.le_trans hvl (Nat.mul_le_mul_right _ (by omega))
        have hlen1 : i * (1 + subM L) + (1 + subM L) = (i + 1) * (1 + subM L) := by rw [Nat.add_mul, Nat.one_mul]
        have hsum : a * pow8 (L + 1) + i * pow8 L = (a * 8 + i) * pow8 L := by rw [pow8_succ, Int.add_mul, Int.mul_assoc]
        have hge : 0 ≤ (a * 8 + i) * pow8 L := Int.mul_nonneg hat0 (Int.le_of_lt (pow8_pos' L))
        have hge0 : 0 ≤ a * pow8 (L + 1) := Int.mul_nonneg ha (Int.le_of_lt (pow8_pos' _))
        have hwr2 : IntKind.i64.wrap (a * pow8 (L + 1) + i * pow8 L) = (a * 8 + i) * pow8 L := by rw [hsum, IntKind.wrap_i64]; omega
        have hpb := Lib.hid (fun (j : Nat) (hj : j < L) => show IntKind.i64.wrap ((i : Int) * pow8 j * 8) = i * pow8 (j + 1) by
          have h8 : pow8 (j + 1) ≤ pow8 3 := pow8_mono (by omega)
          have h83 : pow8 3 = 512 := rfl
          have hpos := pow8_pos' (j + 1)
          have e1 : (i : Int) * pow8 j * 8 = i * pow8 (j + 1) := by rw [pow8_succ, Int.mul_assoc, Int.mul_comm (pow8 j) 8]
          have h1 : (i : Int) * pow8 (j + 1) ≤ 8 * pow8 (j + 1) := Int.mul_le_mul_of_nonneg_right (by omega) (by omega)
          have h2 : 0 ≤ (i : Int) * pow8 (j + 1) := Int.mul_nonneg (by omega) (by omega)
          rw [e1, IntKind.wrap_i64]
          omega)
        clear hsum
        go_wp2_with fail
        refine (HD.out _).mono ?_; rintro e2 w2 ⟨rfl, b2⟩
        have h3 := (hr.below b2).build #[Value.bool e.there, Value.bool e.leaf, (Value.int .i64) e.rights, Value.bool e.used, Value.bool e.dirty, (Value.int .i64) e.frame] 59
        have x3 := (hx.below b2).alloc (.cells #[Value.bool e.there, Value.bool e.leaf, (Value.int .i64) e.rights, Value.bool e.used, Value.bool e.dirty, (Value.int .i64) e.frame] 59)
        clear hr hx hq0 hword ql gl HD b2
        go_wp2_with fail
        generalize w2.alloc (.cells #[Value.bool e.there, Value.bool e.leaf, (Value.int .i64) e.rights, Value.bool e.used, Value.bool e.dirty, (Value.int .i64) e.frame] 59) = w4 at *
        generalize w2.heap.size = E at *
        go_loopw [17, 18] (fun s17 s18 wz => ∃ j : Nat, j ≤ L ∧ s18 = (Value.int .i64) j ∧ s17 = (Value.int .i64) (i * pow8 j) ∧ w4 = wz) (fun _ s18 _ => L - (intOf s18).toNat)
        case atStart => exact ⟨0, Nat.zero_le _, rfl, by simp [pow8], rfl⟩
        case round =>
          obtain ⟨j, hj, rfl, rfl, rfl⟩ := hrel
          by_cases hjl : j < L
          · have hwr := hpb.out j hjl
            go_wp2_with fail
            go_roundw
            case rel => exact ⟨j + 1, by omega, by go_num, rfl, trivial⟩
            case measure => simp [intOf]; omega
          · obtain rfl : L = j := by omega
            clear hpb
            obtain ⟨e0, e1, e2', e3, e4, e5⟩ := h3.right.right.cells6
            have el := h3.right.right.lt
            cases hlf : e.leaf with
            | true =>
              have hn : ¬ (e.there = true ∧ e.leaf = false) := by rw [hlf]; simp
              have hfin := Lib.hid (hp1.out hn)
              have hm1 := Lib.hid (show mapsOf (vs ++ [⟨(t : Int), L, a * 8 + i, e⟩]) = mapsOf vs ++ [leafMap e L ((a * 8 + i) * pow8 L)] by rw [mapsOf_append, mapsOf_cons]; simp [hlf, mapsOf])
              have hm2 := Lib.hid (show tabsOf (vs ++ [⟨(t : Int), L, a * 8 + i, e⟩]) = tabsOf vs by rw [tabsOf_append, tabsOf_cons]; simp [hlf, tabsOf])
              have HLM := Lib.hid (refLeafMap_any e L ((a * 8 + i) * pow8 L))
              rw [hlf] at HLM
              clear hn hp1 hp2 hp3 hK
              generalize leafMap e L ((a * 8 + i) * pow8 L) = m at *
              go_wp2_with fail
              refine (HLM.out _).mono ?_; rintro e9 w5 ⟨rfl, b5⟩
              have h5 := h3.below b5
              have x5 := x3.below b5
              have hrow := h5.alloc (.cells #[(Value.int .i64) m.page, (Value.int .i64) m.size, (Value.int .i64) m.frame, (Value.int .i64) m.rights] 34)
              go_wp2_with (at_builtin; refine wpList_append_has rfl _ _ 71 rfl Try.underlying71 elemMp _ _ _ rfl hrow ⟨w5.heap.size, 0, none⟩ 1 1 m.cells rfl rfl (news_many w5 m.cells 34) (oneMp m) ?k2 ?k3 ?_)
              case k2 => unfold maxLen; omega
              case k3 => omega
              intro v' w7 h7 x7
              obtain ⟨A', c', rfl⟩ := h7.rowForm
              go_wp2_with fail
              go_roundw
              case rel =>
                refine ⟨i + 1, vs ++ [⟨(t : Int), L, a * 8 + i, e⟩], A', B, c', d, by omega, by go_num, by rw [hm1.out, List.length_append]; rfl, by rw [hm2.out], by rw [List.length_append, List.length_singleton]; omega, Lib.hid ?_, ?_, (x5.alloc _).trans x7⟩
                · rw [HEQ.out, hfin.out]
                  simp
                · rw [hm1.out, hm2.out]
                  unfold mrow
                  rw [mcells_snoc, List.length_append, List.length_singleton]
                  exact h7.drop3
              case measure => simp [intOf]; omega
            | false =>
              cases hth : e.there with
              | false =>
                have hn : ¬ (e.there = true ∧ e.leaf = false) := by rw [hth]; simp
                have hfin := Lib.hid (hp1.out hn)
                have hm1 := Lib.hid (show mapsOf (vs ++ [⟨(t : Int), L, a * 8 + i, e⟩]) = mapsOf vs by rw [mapsOf_append, mapsOf_cons]; simp [hlf, mapsOf])
                have hm2 := Lib.hid (show tabsOf (vs ++ [⟨(t : Int), L, a * 8 + i, e⟩]) = tabsOf vs by rw [tabsOf_append, tabsOf_cons]; simp [hth, tabsOf])
                clear hn hp1 hp2 hp3 hK
                go_wp2_with fail
                go_roundw
                case rel =>
                  refine ⟨i + 1, vs ++ [⟨(t : Int), L, a * 8 + i, e⟩], A, B, c, d, by omega, by go_num, by rw [hm1.out], by rw [hm2.out], by rw [List.length_append, List.length_singleton]; omega, Lib.hid ?_, ?_, x3⟩
                  · rw [HEQ.out, hfin.out]
                    simp
                  · rw [hm1.out, hm2.out]
                    exact h3.drop3
                case measure => simp [intOf]; omega
              | true =>
                obtain ⟨K, hLK⟩ := hK.out ⟨hth, hlf⟩
                have hLKH := Lib.hid hLK
                have hM4 : Has w4 (memAt q s * R) := by
                  have h6 := h3.drop3
                  exact (h.onto' h6.a2).right
                have hIH := IH.out K hLK R e.frame (a * 8 + i) w4 hat0 (by rw [← hLKH.out]; exact hat4) hM4
                rw [← hLK] at hIH
                have hsub : subV s L = eachV s K := by rw [hLKH.out]; rfl
                have hwr3 : IntKind.i64.wrap ((L : Int) - 1) = (K : Int) := by rw [IntKind.wrap_i64]; omega
                have HP2 := Lib.hid (fun hk => hp2.out ⟨hth, hlf⟩ hk)
                have HP3 := Lib.hid (fun hk => hp3.out ⟨hth, hlf⟩ hk)
                rw [← hsub] at hIH
                have hrl := Lib.hid (show (subV s L e.frame (a * 8 + i)).vs.length ≤ most K by rw [hsub]; exact eachV_len s K e.frame (a * 8 + i))
                have hsm := Lib.hid (show subM L = most K by rw [hLKH.out]; rfl)
                clear hLK hsub hp1 hp2 hp3 hK hM4
                have hm1 := fun r : List Vis => show mapsOf (vs ++ (⟨(t : Int), L, a * 8 + i, e⟩ :: r)) = mapsOf vs ++ mapsOf r by rw [mapsOf_append, mapsOf_cons]; simp [hlf]
                have hm2 := fun r : List Vis => show tabsOf (vs ++ (⟨(t : Int), L, a * 8 + i, e⟩ :: r)) = tabsOf vs ++ (e.frame :: tabsOf r) by rw [tabsOf_append, tabsOf_cons]; simp [hth, hlf]
                have HM1 := Lib.hid hm1
                have HM2 := Lib.hid hm2
                clear hm1 hm2
                generalize subV s L e.frame (a * 8 + i) = r at *
                go_wp2_with fail
                refine hIH.mono ?_; rintro e9 w6 ⟨A2, c2, B2, d2, rfl, h6, x6⟩
                have x6 := x3.trans x6
                have h7 := h3.drop3.onto' h6.a2
                by_cases hk : r.code = 0
                · have hfin := Lib.hid (HP2.out hk)
                  have hlm : listM r = mapsOf r.vs := by unfold listM; rw [if_pos hk]
                  have hlt' : listT r e.frame = e.frame :: tabsOf r.vs := by unfold listT; rw [if_pos hk]
                  rw [hlm, hlt'] at h7
                  rw [hlm, hlt', hk]
                  have hr1 := mapsOf_len r.vs
                  have hr2 := tabsOf_len r.vs
                  have hrv := hrl.out
                  have hbound : vs.length + r.vs.length + 1 ≤ 4680 := by have := hsm.out; omega
                  clear hlm hlt' HP2 HP3 h6 h3 hIH
                  have h8 : Has w6 (mrow (.slice A (mapsOf vs).length c) (mapsOf vs) * (mrow (.slice A2 (mapsOf r.vs).length c2) (mapsOf r.vs) * (irow (.slice B2 (e.frame :: tabsOf r.vs).length d2) (e.frame :: tabsOf r.vs) * (irow (.slice B ((tabsOf vs).length + 1) d) ((t : Int) :: tabsOf vs) * old w w.heap.size)))) := h7.eq (by ac_rfl)
                  have hl1 := mcells_append (mapsOf vs) (mapsOf r.vs)
                  have HL1 := Lib.hid hl1
                  clear hl1
                  go_wp2_with (at_builtin; refine wpList_append_row rfl _ _ 71 rfl Try.underlying71 elemMp (.slice A (mapsOf vs).length c) (mapsOf vs).length (mcells (mapsOf vs)) rfl (.slice A2 (mapsOf r.vs).length c2) (mapsOf r.vs).length (mcells (mapsOf r.vs)) rfl h8 (mcells_one _) ?k2 ?k3 ?_)
                  case k2 => unfold maxLen; omega
                  case k3 => omega
                  intro A3 c3 w7 h9 x7
                  have h10 : Has w7 (row 3 1 (.slice B ((tabsOf vs).length + 1) d) ((tabsOf vs).length + 1) (((t : Int) :: tabsOf vs).map (Value.int .i64)) * (row 3 1 (.slice B2 ((tabsOf r.vs).length + 1) d2) ((tabsOf r.vs).length + 1) ((e.frame :: tabsOf r.vs).map (Value.int .i64)) *
                      (row 34 4 (.slice A3 ((mapsOf vs).length + (mapsOf r.vs).length) c3) ((mapsOf vs).length + (mapsOf r.vs).length) (mcells (mapsOf vs) ++ mcells (mapsOf r.vs)) * (mrow (.slice A2 (mapsOf r.vs).length c2) (mapsOf r.vs) * old w w.heap.size)))) := by
                    have h9' : Has w7 (row 34 4 (.slice A3 ((mapsOf vs).length + (mapsOf r.vs).length) c3) ((mapsOf vs).length + (mapsOf r.vs).length) (mcells (mapsOf vs) ++ mcells (mapsOf r.vs)) * (mrow (.slice A2 (mapsOf r.vs).length c2) (mapsOf r.vs) *
                      (row 3 1 (.slice B2 ((tabsOf r.vs).length + 1) d2) ((tabsOf r.vs).length + 1) ((e.frame :: tabsOf r.vs).map (Value.int .i64)) * (row 3 1 (.slice B ((tabsOf vs).length + 1) d) ((tabsOf vs).length + 1) (((t : Int) :: tabsOf vs).map (Value.int .i64)) * old w w.heap.size)))) := h9
                    exact h9'.eq (by ac_rfl)
                  clear h9 h8
                  go_wp2_with (at_builtin; refine wpList_append_row rfl _ _ 60 rfl Try.underlying60 elemI (.slice B ((tabsOf vs).length + 1) d) ((tabsOf vs).length + 1) (((t : Int) :: tabsOf vs).map (Value.int .i64)) rfl (.slice B2 ((tabsOf r.vs).length + 1) d2) ((tabsOf r.vs).length + 1) ((e.frame :: tabsOf r.vs).map (Value.int .i64)) rfl h10 (ints_one _) ?k4 ?k5 ?_)
                  case k4 => unfold maxLen; omega
                  case k5 => omega
                  intro B3 d3 w8 h11 x8
                  go_wp2_with fail
                  go_roundw
                  case rel =>
                    have hlm1 : (mapsOf (vs ++ (⟨(t : Int), L, a * 8 + i, e⟩ :: r.vs))).length = (mapsOf vs).length + (mapsOf r.vs).length := by rw [HM1.out, List.length_append]
                    have hlm2 : (tabsOf (vs ++ (⟨(t : Int), L, a * 8 + i, e⟩ :: r.vs))).length + 1 = (tabsOf vs).length + 1 + ((tabsOf r.vs).length + 1) := by rw [HM2.out, List.length_append, List.length_cons]; omega
                    refine ⟨i + 1, vs ++ (⟨(t : Int), L, a * 8 + i, e⟩ :: r.vs), A3, B3, c3, d3, by omega, by go_num, by rw [hlm1], by rw [hlm2], ?_, Lib.hid ?_, ?_, (x6.trans x7).trans x8⟩
                    · rw [List.length_append, List.length_cons]
                      have := hsm.out
                      omega
                    · rw [HEQ.out, hfin.out]
                      simp
                    · unfold mrow irow
                      rw [hlm1, hlm2, List.length_cons, hlm2, HM1.out, HM2.out, HL1.out]
                      have h12 := h11.p2.right.p2.drop3
                      simpa using h12
                  case measure => simp [intOf]; omega
                · have hfin := Lib.hid (HP3.out hk)
                  have hy := Lib.hid (show eachV s L t a = ⟨r.code, vs ++ (⟨(t : Int), L, a * 8 + i, e⟩ :: r.vs)⟩ by rw [HEQ.out, hfin.out])
                  have HM := Lib.hid (show listM (eachV s L t a) = [] by rw [hy.out]; unfold listM; rw [if_neg hk])
                  have HT2 := Lib.hid (show listT (eachV s L t a) t = [] by rw [hy.out]; unfold listT; rw [if_neg hk])
                  have hkn : (r.code != 0) = true := by simpa using hk
                  go_wp2_with fail
                  exact bodyPost_ret (v := .tuple #[.slice none 0 0, .slice none 0 0, (Value.int .i64) r.code]) (by simp [results, Try.results98]) rfl ⟨none, 0, none, 0, by rw [HM.out, HT2.out, hy.out]; rfl, by rw [HM.out, HT2.out]; exact Has.rowNil (Has.rowNil (h7.right.right.right)), x6⟩
      · obtain rfl : i = 8 := by omega
        have hy := Lib.hid (show eachV s L t a = ⟨0, vs⟩ by rw [HE.out]; simp [scanV])
        have HM := Lib.hid (show listM (eachV s L t a) = mapsOf vs by rw [hy.out]; rfl)
        have HT2 := Lib.hid (show listT (eachV s L t a) t = (t : Int) :: tabsOf vs by rw [hy.out]; rfl)
        go_wp2_with fail
        exact bodyPost_ret (v := .tuple #[.slice A (mapsOf vs).length c, .slice B ((tabsOf vs).length + 1) d, (Value.int .i64) 0]) (by simp [results, Try.results98]) rfl ⟨A, c, B, d, by rw [HM.out, HT2.out, hy.out]; rfl, by rw [HM.out, HT2.out]; exact hr, hx⟩
theorem below_any : ∀ (L : Nat), L ≤ 3 → BelowAt q s L
  | 0, h => below_step q s hs 0 h fun _ e => by cases e
  | L + 1, h => below_step q s hs (L + 1) h fun K e => by
    obtain rfl : L = K := by omega
    exact below_any L (by omega)
theorem allOf_any (root : Int) (R : HProp) (w : World) (h : Has w (memAt q s * R)) :
    Calls Try.prog 36 #[.pointer (some ⟨q, 0, none⟩), (Value.int .i64) root] w (BelowRes (eachV s 3 root 0) root w) := by
  have hB := below_any q s hs 3 (by omega) R root 0 w (by omega) (by decide) h
  rw [Int.zero_mul] at hB
  generalize eachV s 3 root 0 = y at *
  go_enter Try.func36, Try.ntmps36
  go_wp2_with (refine hB.mono ?_; rintro e w2 ⟨A, c, B, d, rfl, h2, x2⟩)
  exact bodyPost_ret (v := .tuple #[.slice A (listM y).length c, .slice B (listT y root).length d, (Value.int .i64) y.code]) (by simp [results, Try.results36]) rfl ⟨A, c, B, d, rfl, h2, x2⟩
end
theorem irow_at {w : World} {R : HProp} {A : Option Addr} {n c : Nat} {l : List Int} (h : Has w (irow (.slice A n c) l * R)) {k : Nat} (hk : k < l.length) :
    ∃ b, A = some ⟨b, 0, none⟩ ∧ b < w.heap.size ∧ w.cell? ⟨b, k, none⟩ = some ((Value.int .i64) l[k]) := by
  have hf := (Has.rowCases (e := 3) (size := 1) h)
  have hn : n = l.length := by
    rcases hf with ⟨hv, h0, _⟩ | ⟨g, cap, cur, hv, _⟩
    · injection hv with a b
      omega
    · injection hv
  subst hn
  obtain ⟨b, e, hb, hc, _⟩ := Has.rowGet (e := 3) (size := 1) h (i := k) (u := (Value.int .i64) l[k]) (by simp [hk])
  exact ⟨b, e, hb, hc⟩
theorem irow_len {w : World} {R : HProp} {A : Option Addr} {n c : Nat} {l : List Int} (h : Has w (irow (.slice A n c) l * R)) : n = l.length := by
  rcases (Has.rowCases (e := 3) (size := 1) h) with ⟨hv, h0, _⟩ | ⟨g, cap, cur, hv, _⟩
  · injection hv with a b
    omega
  · injection hv
theorem irow_small {w : World} {R : HProp} {A : Option Addr} {n c : Nat} {l : List Int} (h : Has w (irow (.slice A n c) l * R)) : n ≤ 9223372036854775807 := by
  obtain rfl := irow_len h
  exact (Has.rowLens (e := 3) (size := 1) h).2
theorem sameInts_any (l : List Int) (A B : Option Addr) (n c n' c' : Nat) (R : HProp) (w : World) (h : Has w (irow (.slice A n c) l * (irow (.slice B n' c') l * R))) :
    Calls Try.prog 32 #[.slice A n c, .slice B n' c'] w (Pure (Value.bool true) w) := by
  have hn := irow_len h
  have hn' := irow_len h.right
  subst hn
  subst hn'
  have hbig := irow_small h
  go_enter Try.func32, Try.ntmps32
  go_wp2_with fail
  go_loopw [5] (fun s5 wr => ∃ i : Nat, i ≤ l.length ∧ s5 = (Value.int .i64) i ∧ Below w.heap.size w wr) (fun s5 _ => l.length - (intOf s5).toNat)
  case atStart => exact ⟨0, Nat.zero_le _, rfl, Below.refl _ _⟩
  case round =>
    obtain ⟨i, hi, rfl, BW⟩ := hrel
    have h' := h.below BW
    clear h
    have BW' := Lib.hid BW
    clear BW
    by_cases hlt : i < l.length
    · obtain ⟨b, rfl, hb, c0⟩ := irow_at h' hlt
      obtain ⟨b', rfl, hb', d0⟩ := irow_at h'.right hlt
      clear h'
      generalize l[i] = x at c0 d0
      have v0 := via_cell c0
      have u0 := via_cell d0
      clear c0 d0
      go_wp2_with fail
      refine wp_region_via (by kernel_rfl) (by kernel_rfl) ?_
      repeat (first | go_big_quiet_step (fail) | quiet_step (fail))
      refine wpQuiet_nil ?_
      intro _ hw'
      obtain ⟨uq, hw''⟩ := hw'
      subst hw''
      go_wp2_with fail
      go_roundw
      case rel => exact ⟨i + 1, by omega, by go_num, BW'.out.trans ((via_below _ _).mono BW'.out.size)⟩
      case measure => simp [intOf]; omega
    · go_wp2_with fail
      go_ret
      exact ⟨rfl, BW'.out⟩
theorem mrow_len {w : World} {R : HProp} {A : Option Addr} {n c : Nat} {l : List Mp} (h : Has w (mrow (.slice A n c) l * R)) : n = l.length := by
  rcases (Has.rowCases (e := 34) (size := 4) h) with ⟨hv, h0, _⟩ | ⟨g, cap, cur, hv, _⟩
  · injection hv with a b
    omega
  · injection hv
theorem mrow_small {w : World} {R : HProp} {A : Option Addr} {n c : Nat} {l : List Mp} (h : Has w (mrow (.slice A n c) l * R)) : n ≤ 9223372036854775807 := by
  obtain rfl := mrow_len h
  exact (Has.rowLens (e := 34) (size := 4) h).2
theorem mrow_at {w : World} {R : HProp} {A : Option Addr} {n c : Nat} {l : List Mp} (h : Has w (mrow (.slice A n c) l * R)) {k : Nat} (hk : k < l.length) :
    ∃ b, A = some ⟨b, 0, none⟩ ∧ b < w.heap.size ∧
      (w.cell? ⟨b, k * 4, none⟩ = some ((Value.int .i64) l[k].page) ∧ w.cell? ⟨b, k * 4 + 1, none⟩ = some ((Value.int .i64) l[k].size) ∧ w.cell? ⟨b, k * 4 + 2, none⟩ = some ((Value.int .i64) l[k].frame) ∧ w.cell? ⟨b, k * 4 + 3, none⟩ = some ((Value.int .i64) l[k].rights)) := by
  obtain rfl := mrow_len h
  have g := fun t (ht : t < 4) => Has.rowGet (e := 34) (size := 4) h (i := k * 4 + t) (u := (l[k].cells[t]'(by rw [mp_len]; exact ht))) (by
    have := flat_get (cells := Mp.cells) mp_len hk ht
    rw [List.getElem?_eq_getElem (l := l[k].cells) (by rw [mp_len]; exact ht)] at this
    exact this)
  obtain ⟨b, rfl, hb, c0, _⟩ := g 0 (by omega)
  obtain ⟨b1, e1, _, c1, _⟩ := g 1 (by omega)
  obtain ⟨b2, e2, _, c2, _⟩ := g 2 (by omega)
  obtain ⟨b3, e3, _, c3, _⟩ := g 3 (by omega)
  injection e1 with e1; injection e1 with e1; subst e1
  injection e2 with e2; injection e2 with e2; subst e2
  injection e3 with e3; injection e3 with e3; subst e3
  exact ⟨b, rfl, hb, c0, c1, c2, c3⟩
theorem sameMaps_any (l : List Mp) (A B : Option Addr) (n c n' c' : Nat) (R : HProp) (w : World) (h : Has w (mrow (.slice A n c) l * (mrow (.slice B n' c') l * R))) :
    Calls Try.prog 37 #[.slice A n c, .slice B n' c'] w (Pure (Value.bool true) w) := by
  have hn := mrow_len h
  have hn' := mrow_len h.right
  subst hn
  subst hn'
  have hbig := mrow_small h
  go_enter Try.func37, Try.ntmps37
  go_wp2_with fail
  go_loopw [5] (fun s5 wr => ∃ i : Nat, i ≤ l.length ∧ s5 = (Value.int .i64) i ∧ Below w.heap.size w wr) (fun s5 _ => l.length - (intOf s5).toNat)
  case atStart => exact ⟨0, Nat.zero_le _, rfl, Below.refl _ _⟩
  case round =>
    obtain ⟨i, hi, rfl, BW⟩ := hrel
    have h' := h.below BW
    clear h
    have BW' := Lib.hid BW
    clear BW
    by_cases hlt : i < l.length
    · obtain ⟨b, rfl, hb, c0, c1, c2, c3⟩ := mrow_at h' hlt
      obtain ⟨b', rfl, hb', d0, d1, d2, d3⟩ := mrow_at h'.right hlt
      clear h'
      generalize l[i] = x at c0 c1 c2 c3 d0 d1 d2 d3
      have v0 := via_cell c0
      have v1 := via_cell c1
      have v2 := via_cell c2
      have v3 := via_cell c3
      have u0 := via_cell d0
      have u1 := via_cell d1
      have u2 := via_cell d2
      have u3 := via_cell d3
      clear c0 c1 c2 c3 d0 d1 d2 d3
      go_wp2_with fail
      refine wp_region_via (by kernel_rfl) (by kernel_rfl) ?_
      repeat (first | go_big_quiet_step (fail) | quiet_step (fail))
      refine wpQuiet_nil ?_
      intro _ hw'
      obtain ⟨uq, hw''⟩ := hw'
      subst hw''
      go_wp2_with fail
      go_roundw
      case rel => exact ⟨i + 1, by omega, by go_num, BW'.out.trans ((via_below _ _).mono BW'.out.size)⟩
      case measure => simp [intOf]; omega
    · go_wp2_with fail
      go_ret
      exact ⟨rfl, BW'.out⟩
end Go.Proofs.Ytacnjjjdkpbeaaa
