/- Tables against a book, change by change; plain law, with no program in sight. -/
import Derived.Test.YtegkimecdonfgaaWkList
import Derived.Test.YtegkimecdonfgaaSep
import Derived.Test.YtegkimecdonfgaaAgree
import Derived.Lib.Hide
import Derived.WalkSpells
import Derived.Outline
import Derived.Test.YtegkimecdonfgaaTabR
import Derived.Test.YtegkimecdonfgaaWkFind
import Derived.Deep.DeepCutAuto
import Derived.Deep.CutBlock
import Derived.Test.YtegkimecdonfgaaRows2
import Derived.Laws.IdiomCopy
import Derived.Lib.AppendZerosOnto
import Derived.Deep.Cut
import Derived.Test.YtegkimecdonfgaaWalkM2
import Derived.Test.YtegkimecdonfgaaEntry2
import Derived.Shelf.Spec.SlicesInsert
import Derived.Laws.NewBlocks
import Derived.Deep.RegionLaw
import Derived.Deep.AppendLies
namespace Go.Proofs.Ytegkimecdonfgaa
open Go.RowKit
structure TB (s : Ms) (L : List Mp) (n : Nat) : Prop where
  ok : s.Ok
  wf : Wf s 0 [] (fun _ => False)
  lk : Lk s 0 L
  n : s.n = n
section
variable {s : Ms} {L : List Mp} {n : Nat}
theorem TB.first {N : Int} (h : 1 ≤ N) (h1 : N ≤ 128) : TB (memS N 1 []) [] N.toNat :=
  ⟨memS_ok (by omega) h1 (fun x hx => by cases hx), by rw [first_mem h]; exact first_wf (by omega), by rw [first_mem h]; exact first_lk (by omega), memS_n⟩
theorem add_not {x : Mp} (h : Bk.addC L x ≠ 0) : Bk.add L x = L := by
  unfold Bk.addC at h
  unfold Bk.add
  by_cases hc : check x = 0
  · rw [if_neg (by simpa using hc)] at h
    by_cases hb : Bk.bad L x = true
    · rw [if_neg (by rw [hb]; simp)]
    · rw [if_neg hb] at h; exact absurd rfl h
  · rw [if_neg (fun hh => hc hh.1)]
theorem check_few (x : Mp) : check x = 0 ∨ check x = 1 ∨ check x = 2 ∨ check x = 3 := by unfold check; split <;> (try split) <;> (try split) <;> omega
theorem TB.full (h : TB s L n) {x : Mp} (hc : insC s 0 x = 6) : s.frees.length < 3 ∧ insS s 0 x = s := by
  refine ⟨?_, by unfold insS; rw [if_neg (by rw [hc]; decide)]⟩
  rcases ins_code h.wf h.lk x with h1 | h1
  · exact h1.2.2.2
  · rw [hc] at h1
    unfold Bk.addC at h1
    have := check_few x
    split at h1
    · omega
    · split at h1 <;> omega
theorem TB.add (h : TB s L n) (x : Mp) (hc : insC s 0 x ≠ 6) : insC s 0 x = Bk.addC L x ∧ TB (insS s 0 x) (Bk.add L x) n := by
  have he : insC s 0 x = Bk.addC L x := by
    rcases ins_code h.wf h.lk x with h1 | h1
    · exact absurd h1.1 hc
    · exact h1
  refine ⟨he, ?_⟩
  obtain ⟨w1, w2, w3, _⟩ := ins_ok h.wf h.ok.inv h.ok.small x
  have hok : (insS s 0 x).Ok := ⟨w2, by rw [w3]; exact h.ok.small⟩
  by_cases h0 : insC s 0 x = 0
  · exact ⟨hok, w1, (lk_ins h.wf h.ok.inv h.ok.small h.lk h0).1, w3.trans h.n⟩
  · have e : insS s 0 x = s := by unfold insS; rw [if_neg h0]
    rw [e, add_not (by rw [← he]; exact h0)]
    exact h
theorem drop_not {p : Int} (hL : Bk.Ok L) (h : Bk.dropC L p ≠ 0) : Bk.dropL L p = L := by
  unfold Bk.dropC at h
  unfold Bk.dropL
  split
  · rename_i hb
    rw [if_pos hb] at h
    rcases Bk.place hL p with ⟨hf, hd, _⟩ | ⟨_, _, hf, _⟩
    · exact hd
    · rw [hf] at h; exact absurd rfl h
  · rfl
theorem mpOf_getD (o : Option Mp) : mpOf o = (o.getD Mp.zero).val := by cases o <;> rfl
theorem TB.drop (h : TB s L n) (p : Int) : findC s 0 p = Bk.dropC L p ∧ mpOf (Bk.dropR L p) = (findM s 0 p).val ∧ TB (giveL (remS s 0 p) (remG s 0 p)) (Bk.dropL L p) n := by
  obtain ⟨c1, c2⟩ := lk_code h.wf h.lk p
  refine ⟨c1, by rw [mpOf_getD, c2], ?_⟩
  by_cases hf : findC s 0 p = 0
  · obtain ⟨w1, w2, w3, _⟩ := rem_give h.wf h.ok.inv hf
    exact ⟨⟨w2, by show (remGive s p).n ≤ 128; rw [w3]; exact h.ok.small⟩, w1, lk_give h.wf h.ok.inv h.lk hf, w3.trans h.n⟩
  · obtain ⟨_, e2, e3⟩ := rem_none hf
    rw [e2, e3, drop_not h.lk.ok (by rw [← c1]; exact hf)]
    exact h
/-- Each table that goes is given back. -/
theorem TB.gives (h : TB s L n) (p : Int) {k : Nat} (hk : k < (remG s 0 p).length) : (giveL (remS s 0 p) ((remG s 0 p).take k)).has (remG s 0 p)[k] = true := by
  by_cases hf : findC s 0 p = 0
  · obtain ⟨w1, w2, w3, _, w5, _⟩ := rem_ok h.wf h.ok.inv hf
    have hgn : (remG s 0 p).Nodup := by
      have := w1.nd
      rw [List.append_nil] at this
      exact (List.pairwise_reverse.1 this).imp fun h => h.symm
    have hm : (remG s 0 p)[k] ∈ remG s 0 p := List.getElem_mem hk
    have hm' : (remG s 0 p)[k] ∈ (remG s 0 p).reverse ++ [] := by rw [List.append_nil, List.mem_reverse]; exact hm
    have g0 := (w1.gz _ hm').1
    have htk : (remS s 0 p).tk ((remG s 0 p)[k]).toNat = true := (w1.use _).2 (.inr (by rw [Int.toNat_of_nonneg g0]; exact hm'))
    obtain ⟨_, u2, _, u4⟩ := giveL_use ((remG s 0 p).take k) (remS s 0 p) w2
    refine Ms.has_iff.2 ⟨g0, ?_, (u4 _).2 ⟨htk, ?_⟩⟩
    · rw [u2]
      have := w2.tkl _ htk
      have := w2.le
      omega
    · rw [Int.toNat_of_nonneg g0]
      intro hx
      obtain ⟨j, hj, hje⟩ := List.getElem_of_mem hx
      rw [List.getElem_take] at hje
      rw [List.length_take] at hj
      have := (List.pairwise_iff_getElem.1 hgn) j k (by omega) hk (by omega)
      exact this hje
  · have e := (rem_none hf).2.1
    rw [e] at hk
    simp at hk
theorem prot_not {p ri : Int} (hL : Bk.Ok L) (h : Bk.protC L p ri ≠ 0) : Bk.protL L p ri = L := by
  unfold Bk.protC at h
  unfold Bk.protL
  split
  · rename_i hb
    rw [if_pos hb] at h
    rcases Bk.place hL p with ⟨hf, _, hd⟩ | ⟨_, _, hf, _⟩
    · exact hd ri
    · rw [hf] at h; exact absurd rfl h
  · rfl
theorem TB.prot (h : TB s L n) (p ri : Int) : prC s 0 p ri = Bk.protC L p ri ∧ mpOf (Bk.protR L p ri) = (prM s 0 p ri).val ∧ TB (prS s 0 p ri) (Bk.protL L p ri) n := by
  obtain ⟨c1, c2⟩ := lk_code h.wf h.lk p
  have hc : prC s 0 p ri = Bk.protC L p ri := by
    unfold prC Bk.protC Bk.protB
    rw [c1]
    unfold Bk.dropC
    by_cases hr : ri < 0 ∨ 7 < ri
    · rw [if_pos hr, if_neg]
      simp
      omega
    · rw [if_neg hr]
      have e1 : decide (0 ≤ ri) = true := decide_eq_true (by omega)
      have e2 : decide (ri ≤ 7) = true := decide_eq_true (by omega)
      rw [e1, e2]
      cases hasB p <;> rfl
  refine ⟨hc, ?_, ?_⟩
  · rw [mpOf_getD]
    unfold prM
    by_cases h0 : prC s 0 p ri = 0
    · rw [if_pos h0]
      have hr : 0 ≤ ri ∧ ri ≤ 7 := by
        unfold prC at h0
        split at h0
        · cases h0
        · omega
      have hf0 : findC s 0 p = 0 := by
        unfold prC at h0
        rw [if_neg (by omega)] at h0
        exact h0
      obtain ⟨hp, hB, h1, _⟩ := lk_found h.wf h.lk hf0
      have hpB : Bk.protB p ri = true := Bk.protB_iff.2 ⟨hp.1, hp.2, hr.1, hr.2⟩
      unfold Bk.protR
      rw [if_pos hpB, h1]
      rfl
    · rw [if_neg h0]
      have : Bk.protR L p ri = none := by
        rw [hc] at h0
        unfold Bk.protC at h0
        unfold Bk.protR
        split
        · rename_i hb
          rw [if_pos hb] at h0
          cases hf : Bk.find L p with
          | none => rfl
          | some m => rw [hf] at h0; exact absurd rfl h0
        · rfl
      rw [this]
      rfl
  · by_cases h0 : prC s 0 p ri = 0
    · obtain ⟨w1, w2, w3, _⟩ := pr_ok h.wf h.ok.inv h0
      exact ⟨⟨w2, by rw [w3]; exact h.ok.small⟩, w1, lk_pr h.wf h.ok.inv h.lk h0, w3.trans h.n⟩
    · have e : prS s 0 p ri = s := by unfold prS; rw [if_neg h0]
      rw [e, prot_not h.lk.ok (by rw [← hc]; exact h0)]
      exact h
/-- What all lists tell. -/
theorem TB.all (h : TB s L n) : allM s 0 = L ∧ (allT s 0).length = (seenL L).length + 1 ∧ (allT s 0).length + s.frees.length = n ∧ (allT s 0).Nodup ∧ ∀ t ∈ allT s 0, s.has t = true := by
  obtain ⟨_, l2, nd, hm⟩ := list_link h.wf
  have hc := tabs_count h.wf h.ok.inv
  refine ⟨l2.unique h.lk, needed_tabs h.wf h.lk, by rw [h.n] at hc; simpa using hc, nd, fun t ht => ?_⟩
  obtain ⟨a, b, c⟩ := tabs_nat h.wf ((hm t).1 ht)
  exact Ms.has_iff.2 ⟨a, b, c⟩
end
end Go.Proofs.Ytegkimecdonfgaa
namespace Go.Proofs.Ytegkimecdonfgaa
open Go.RowKit
set_option maxRecDepth 100000
def inB (l : List Int) (q : Int) : Bool := l.any (· == q)
theorem inB_take {l : List Int} {k : Nat} {q : Int} (hk : k < l.length) (h : inB (l.take k) q = false) : inB (l.take (k + 1)) q = (l[k] == q) := by
  unfold inB at *
  rw [List.take_succ_eq_append_getElem hk, List.any_append, h]
  simp
theorem inB_yes {l : List Int} {k : Nat} {q : Int} (hk : k < l.length) (h : (l[k] == q) = true) : inB l q = true := by
  unfold inB
  exact List.any_eq_true.2 ⟨l[k], List.getElem_mem hk, h⟩
theorem in_any (A : Option Addr) (n c : Nat) (l : List Int) (q : Int) (w : World) (h : Rd w A n (l.map (Value.int .i64))) :
    Calls Try.prog 43 #[.slice A n c, .int .i64 q] w (Same (Value.bool (inB l q)) w) := by
  have hn : l.length = n := by simpa using h.1
  have hm := h.2.1
  have hnn := Lib.hid hn
  go_enter Try.func43, Try.ntmps43
  go_wp2
  go_loop [5, 6, 7, 8, 9, 10, 11, 12, 13, 14, 15, 16, 17] (fun t _ _ _ _ _ _ _ _ _ _ _ _ => ∃ k : Nat, k ≤ n ∧ t = (Value.int .i64) k ∧ inB (l.take k) q = false) (fun t _ _ _ _ _ _ _ _ _ _ _ _ => n - (intOf t).toNat)
  case atStart => exact ⟨0, Nat.zero_le _, rfl, rfl⟩
  case round =>
    obtain ⟨k, hk, rfl, hno⟩ := hrel
    by_cases hlt : k < n
    · have hkl : k < l.length := by omega
      obtain ⟨b, off, rfl, hb, hc⟩ := h.at_ (j := k) (u := (Value.int .i64) l[k]) (by simp [hkl])
      have ht := Lib.hid (inB_take (q := q) hkl hno)
      have hno' := Lib.hid hno
      clear hno hn h
      cases hq : (l[k] == q) with
      | true =>
        have hy := Lib.hid (inB_yes hkl hq)
        go_wp2
        go_ret
        exact ⟨by rw [hy.out]; rfl, rfl⟩
      | false =>
        go_wp2
        go_round
        case rel => exact ⟨k + 1, by omega, by go_num, by rw [ht.out, hq]⟩
        case measure => simp [intOf]; omega
    · obtain rfl : k = n := by omega
      have hall := Lib.hid (show inB l q = false by rw [← hno, List.take_of_length_le (by omega)])
      clear hno h hn
      go_wp2
      go_ret
      exact ⟨by rw [hall.out]; rfl, rfl⟩
end Go.Proofs.Ytegkimecdonfgaa
namespace Go.Proofs.Ytegkimecdonfgaa
open Go.RowKit
set_option maxRecDepth 100000
theorem in_irow (A : Option Addr) (n c : Nat) (l : List Int) (q : Int) (R : HProp) (w : World) (h : Has w (irow (.slice A n c) l * R)) :
    Calls Try.prog 43 #[.slice A n c, .int .i64 q] w (Same (Value.bool (inB l q)) w) := by
  have := irow_take h l.length (Nat.le_refl _)
  rw [List.take_length] at this
  have hn := irow_len h
  rw [← hn] at this
  exact in_any A n c l q w this
theorem addK_in {l : List Int} {q : Int} : addK l q = if inB l q = true then l else l ++ [q] := by
  unfold addK inB
  simp
theorem seenL_few (l : List Mp) : ∀ s : List Int, (l.foldl seenM s).length ≤ s.length + l.length * 3 ∨ ∃ m ∈ l, m.size < 0 := by
  induction l with
  | nil => intro s; exact .inl (by simp)
  | cons m l ih =>
    intro s
    by_cases hm : m.size < 0
    · exact .inr ⟨m, List.mem_cons_self .., hm⟩
    · have hd : ∀ n, (keysDown m.page n s).length ≤ s.length + n := by
        intro n
        induction n with
        | zero => exact Nat.le_refl _
        | succ n ihn =>
          show (addK _ _).length ≤ _
          unfold addK
          split
          · omega
          · rw [List.length_append, List.length_singleton]; omega
      have h1 : (seenM s m).length ≤ s.length + 3 := by
        have := hd (3 - m.size).toNat
        unfold seenM
        omega
      rcases ih (seenM s m) with h | ⟨x, hx, h⟩
      · left
        rw [List.foldl_cons, List.length_cons]
        omega
      · exact .inr ⟨x, List.mem_cons_of_mem _ hx, h⟩
theorem few12 {l : List Mp} (h : Bk.Ok l) : (seenL l).length ≤ 12288 := by
  have hsm := h.le
  rcases seenL_few l [] with h1 | ⟨m, hm, h1⟩
  · have e : (seenL l).length = (l.foldl seenM []).length := rfl
    rw [e]
    simp at h1
    omega
  · have := h.chk m hm
    rcases this.size with ⟨a, _⟩ | ⟨a, _⟩ | ⟨a, _⟩ <;> omega
theorem down_len (p : Int) (s : List Int) : ∀ n, (keysDown p n s).length ≤ s.length + n := by
  intro n
  induction n with
  | zero => exact Nat.le_refl _
  | succ n ihn =>
    show (addK _ _).length ≤ _
    unfold addK
    split
    · omega
    · rw [List.length_append, List.length_singleton]; omega
theorem wrap64_in {x : Int} (h0 : -9223372036854775808 ≤ x) (h1 : x ≤ 9223372036854775807) : wrap64 x = x := by
  unfold wrap64
  omega
set_option maxHeartbeats 4000000 in
theorem neededR (l : List Mp) (A : Option Addr) (n c : Nat) (hl : Bk.Ok l) (R : HProp) (w : World) (h : Has w (mrow (.slice A n c) l * R)) :
    Calls Try.prog 41 #[.slice A n c] w (Pure ((Value.int .i64) ((seenL l).length + 1 : Nat)) w) := by
  obtain rfl := mrow_len h
  have hsm := hl.le
  have HM := Lib.hid (fun k (hk : k < l.length) => mrow_at h hk)
  have HO := Lib.hid hl
  have h0 : Has w (irow (.slice none 0 0) (seenL (l.take 0)) * old w w.heap.size) := Has.rowNil (e := 3) (size := 1) (has_old w)
  have x0 := Ext.refl w
  clear h hl
  go_enter Try.func41, Try.ntmps41
  go_wp2_with fail
  go_loopw [3, 4] (fun s3 s4 wr => ∃ (i : Nat) (B : Option Addr) (n' c' : Nat), i ≤ l.length ∧ s4 = (Value.int .i64) i ∧ s3 = .slice B n' c' ∧ Has wr (irow (.slice B n' c') (seenL (l.take i)) * old w w.heap.size) ∧ Ext w wr) (fun _ t _ => l.length - (intOf t).toNat)
  case atStart => exact ⟨0, none, 0, 0, by omega, rfl, rfl, h0, x0⟩
  case round =>
    clear h0 x0
    obtain ⟨i, B, n', c', hi, rfl, rfl, hr, hx⟩ := hrel
    by_cases hlt : i < l.length
    · obtain ⟨b, hb, hbl, m0, m1, _, _⟩ := HM.out i hlt
      have hok := HO.out.chk _ (List.getElem_mem hlt)
      have est : seenL (l.take (i + 1)) = keysDown l[i].page (3 - l[i].size).toNat (seenL (l.take i)) := by
        rw [List.take_succ_eq_append_getElem hlt, seenL_snoc]; rfl
      have hp0 := hok.inP.1
      have hp1 := hok.inP.2
      have hz : l[i].size = 0 ∨ l[i].size = 1 ∨ l[i].size = 2 := by rcases hok.size with ⟨a, _⟩ | ⟨a, _⟩ | ⟨a, _⟩ <;> omega
      generalize l[i].page = p at *
      generalize l[i].size = z at *
      subst hb
      have HE := Lib.hid est
      have HC := Lib.hid (And.intro hbl (And.intro m0 m1))
      clear est hok m0 m1 hbl
      have hsn : (seenL (l.take i)).length ≤ 12288 := few12 (HO.out.sub (List.take_sublist _ _)) 
      generalize seenL (l.take i) = sn at *
      have HF := Lib.hid (fun (j : Nat) (hj : j ≤ 2) => (show (keysDown p j sn).length ≤ 12290 from Nat.le_trans (down_len p sn j) (by omega)))
      clear hsn
      have HCC := Lib.hid (fun (w' : World) (P : HProp) (h : Has w' (P * old w w.heap.size)) => (⟨(Has.swap h).oldCell' HC.out.2.1, (Has.swap h).oldCell' HC.out.2.2⟩ : w'.cell? ⟨b, i * 4, none⟩ = some ((Value.int .i64) p) ∧ w'.cell? ⟨b, i * 4 + 1, none⟩ = some ((Value.int .i64) z)))
      obtain ⟨m0, m1⟩ := HCC.out _ _ hr
      have hbl : b < wr.heap.size := Nat.lt_of_lt_of_le HC.out.1 hx.size
      go_wp2_with fail
      go_loopw [3, 6] (fun s3 s6 wz => ∃ (j : Nat) (B : Option Addr) (n' c' : Nat), j ≤ (3 - z).toNat ∧ s6 = (Value.int .i64) (3 - (j : Int)) ∧ s3 = .slice B n' c' ∧ Has wz (irow (.slice B n' c') (keysDown p j sn) * old w w.heap.size) ∧ Ext w wz) (fun _ t _ => 3 - (3 - (intOf t)).toNat)
      case atStart => exact ⟨0, B, n', c', by omega, rfl, rfl, hr, hx⟩
      case round =>
        clear hr hx m0 m1 hbl
        obtain ⟨j, B, n', c', hj, rfl, rfl, hr, hx⟩ := hrel
        obtain ⟨m0, m1⟩ := HCC.out _ _ hr
        have hbl : b < wr.heap.size := Nat.lt_of_lt_of_le HC.out.1 hx.size
        by_cases hjl : j < (3 - z).toNat
        · have hgt : z < 3 - (j : Int) := by omega
          have hj3 : j = 0 ∨ j = 1 ∨ j = 2 := by omega
          rcases hj3 with rfl | rfl | rfl
          · skip
            have hgt' : z < 3 := by omega
            clear hgt hjl hj hz
            go_wp2_with fail
            go_loopw [7, 8] (fun s7 s8 wz => ∃ (k : Nat), k ≤ 3 ∧ s7 = (Value.int .i64) (pow8 k) ∧ s8 = (Value.int .i64) k ∧ wz = wr) (fun _ t _ => 3 - (intOf t).toNat)
            case atStart => exact ⟨0, by omega, rfl, rfl, rfl⟩
            case round =>
              obtain ⟨k, hk, rfl, rfl, hwz⟩ := hrel
              subst hwz
              by_cases hkl : k < 3
              · have hp8 : IntKind.i64.wrap (pow8 k * 8) = pow8 (k + 1) := by
                  have : k = 0 ∨ k = 1 ∨ k = 2 := by omega
                  rcases this with rfl | rfl | rfl <;> rfl
                obtain ⟨q1, hq1⟩ : ∃ q1, pow8 (k + 1) = q1 := ⟨_, rfl⟩
                have Q1 := Lib.hid (show (Value.int .i64) q1 = (Value.int .i64) (pow8 (k + 1)) by rw [hq1])
                rw [hq1] at hp8
                clear hq1
                generalize pow8 k = q0 at hp8 ⊢
                go_wp2_with fail
                go_roundw
                case rel => exact ⟨k + 1, by omega, Q1.out, by go_num, trivial⟩
                case measure => simp [intOf]; omega
              · obtain rfl : k = 3 := by omega
                go_upto_region 15 with fail
                have hkey : wrap64 (wrap64 (wrap64 (p.tdiv (pow8 3)) * 4) + 3) = keyAt p 3 := by
                  unfold keyAt
                  rw [Int.tdiv_eq_ediv_of_nonneg hp0]
                  have e : pow8 3 = 512 := rfl
                  rw [e]
                  have h1 : wrap64 (p / 512) = p / 512 := wrap64_in (by omega) (by omega)
                  have h2 : wrap64 (p / 512 * 4) = p / 512 * 4 := wrap64_in (by omega) (by omega)
                  have h3 : wrap64 (p / 512 * 4 + 3) = p / 512 * 4 + 3 := wrap64_in (by omega) (by omega)
                  rw [h1, h2, h3]
                  rfl
                rw [hkey]
                have hD : keysDown p (0 + 1) sn = addK (keysDown p 0 sn) (keyAt p 3) := rfl
                rw [addK_in] at hD
                have HD := Lib.hid hD
                clear hkey hD
                have HIN := Lib.hid (fun R w h => in_irow B n' c' (keysDown p 0 sn) (keyAt p 3) R w h)
                have HLN := Lib.hid (And.intro (irow_len hr) (irow_cap hr))
                have hfew : (keysDown p 0 sn).length ≤ 12290 := HF.out 0 (by omega)
                generalize keyAt p 3 = ky at *
                generalize keysDown p 0 sn = L0 at *
                cases hib : inB L0 ky with
                | true =>
                  rw [hib] at HIN HD
                  have hD := HD.out
                  rw [if_pos rfl] at hD
                  have HD' := Lib.hid hD
                  clear hib hD HD
                  go_wp2_with fail
                  refine (HIN.out _ _ hr).mono ?_; rintro e w5 ⟨rfl, rfl⟩
                  go_wp2_with fail
                  go_roundw
                  case rel => exact ⟨0 + 1, B, n', c', by omega, by first | rfl | (simp; done) | go_num, rfl, by rw [HD'.out]; exact hr, hx⟩
                  case measure => first | (simp [intOf]; done) | (simp [intOf]; omega)
                | false =>
                  rw [hib] at HIN HD
                  have hD := HD.out
                  rw [if_neg (by simp)] at hD
                  have HD' := Lib.hid hD
                  clear hib hD HD
                  go_wp2_with fail
                  refine (HIN.out _ _ hr).mono ?_; rintro e w5 ⟨rfl, hwz⟩
                  subst hwz
                  have hrow := (hr.eq (show _ = row 3 1 (.slice B n' c') L0.length (L0.map (Value.int .i64)) * old w w.heap.size from rfl)).alloc (.cells #[(Value.int .i64) ky] 3)
                  go_wp2_with (first | (at_builtin; refine wpList_append_has rfl _ _ 36 rfl Try.underlying36 elemI _ _ _ rfl hrow ⟨_, 0, none⟩ 1 1 [(Value.int .i64) ky] rfl rfl (news_one _ ((Value.int .i64) ky) 3) ?c1 ?c2 ?c3 ?_))
                  case c1 => intro u hu; simp at hu; subst hu; rfl
                  case c2 => have := HLN.out; unfold maxLen at *; omega
                  case c3 => have := HLN.out; omega
                  intro v' w10 h10 x10
                  obtain ⟨G', gc', rfl⟩ := h10.rowForm
                  go_wp2_with fail
                  go_roundw
                  case rel => exact ⟨0 + 1, G', _, gc', by omega, by first | rfl | (simp; done) | go_num, rfl, by rw [HD'.out]; unfold irow; simp only [List.length_append, List.length_singleton, List.map_append, List.map_cons, List.map_nil]; exact h10, (hx.alloc _).trans x10⟩
                  case measure => first | (simp [intOf]; done) | (simp [intOf]; omega)
          · skip
            have hgt' : z < 2 := by omega
            clear hgt hjl hj hz
            go_wp2_with fail
            go_loopw [7, 8] (fun s7 s8 wz => ∃ (k : Nat), k ≤ 2 ∧ s7 = (Value.int .i64) (pow8 k) ∧ s8 = (Value.int .i64) k ∧ wz = wr) (fun _ t _ => 2 - (intOf t).toNat)
            case atStart => exact ⟨0, by omega, rfl, rfl, rfl⟩
            case round =>
              obtain ⟨k, hk, rfl, rfl, hwz⟩ := hrel
              subst hwz
              by_cases hkl : k < 2
              · have hp8 : IntKind.i64.wrap (pow8 k * 8) = pow8 (k + 1) := by
                  have : k = 0 ∨ k = 1 ∨ k = 2 := by omega
                  rcases this with rfl | rfl | rfl <;> rfl
                obtain ⟨q1, hq1⟩ : ∃ q1, pow8 (k + 1) = q1 := ⟨_, rfl⟩
                have Q1 := Lib.hid (show (Value.int .i64) q1 = (Value.int .i64) (pow8 (k + 1)) by rw [hq1])
                rw [hq1] at hp8
                clear hq1
                generalize pow8 k = q0 at hp8 ⊢
                go_wp2_with fail
                go_roundw
                case rel => exact ⟨k + 1, by omega, Q1.out, by go_num, trivial⟩
                case measure => simp [intOf]; omega
              · obtain rfl : k = 2 := by omega
                go_upto_region 15 with fail
                have hkey : wrap64 (wrap64 (wrap64 (p.tdiv (pow8 2)) * 4) + 2) = keyAt p 2 := by
                  unfold keyAt
                  rw [Int.tdiv_eq_ediv_of_nonneg hp0]
                  have e : pow8 2 = 64 := rfl
                  rw [e]
                  have h1 : wrap64 (p / 64) = p / 64 := wrap64_in (by omega) (by omega)
                  have h2 : wrap64 (p / 64 * 4) = p / 64 * 4 := wrap64_in (by omega) (by omega)
                  have h3 : wrap64 (p / 64 * 4 + 2) = p / 64 * 4 + 2 := wrap64_in (by omega) (by omega)
                  rw [h1, h2, h3]
                  rfl
                rw [hkey]
                have hD : keysDown p (1 + 1) sn = addK (keysDown p 1 sn) (keyAt p 2) := rfl
                rw [addK_in] at hD
                have HD := Lib.hid hD
                clear hkey hD
                have HIN := Lib.hid (fun R w h => in_irow B n' c' (keysDown p 1 sn) (keyAt p 2) R w h)
                have HLN := Lib.hid (And.intro (irow_len hr) (irow_cap hr))
                have hfew : (keysDown p 1 sn).length ≤ 12290 := HF.out 1 (by omega)
                generalize keyAt p 2 = ky at *
                generalize keysDown p 1 sn = L0 at *
                cases hib : inB L0 ky with
                | true =>
                  rw [hib] at HIN HD
                  have hD := HD.out
                  rw [if_pos rfl] at hD
                  have HD' := Lib.hid hD
                  clear hib hD HD
                  go_wp2_with fail
                  refine (HIN.out _ _ hr).mono ?_; rintro e w5 ⟨rfl, rfl⟩
                  go_wp2_with fail
                  go_roundw
                  case rel => exact ⟨1 + 1, B, n', c', by omega, by first | rfl | (simp; done) | go_num, rfl, by rw [HD'.out]; exact hr, hx⟩
                  case measure => first | (simp [intOf]; done) | (simp [intOf]; omega)
                | false =>
                  rw [hib] at HIN HD
                  have hD := HD.out
                  rw [if_neg (by simp)] at hD
                  have HD' := Lib.hid hD
                  clear hib hD HD
                  go_wp2_with fail
                  refine (HIN.out _ _ hr).mono ?_; rintro e w5 ⟨rfl, hwz⟩
                  subst hwz
                  have hrow := (hr.eq (show _ = row 3 1 (.slice B n' c') L0.length (L0.map (Value.int .i64)) * old w w.heap.size from rfl)).alloc (.cells #[(Value.int .i64) ky] 3)
                  go_wp2_with (first | (at_builtin; refine wpList_append_has rfl _ _ 36 rfl Try.underlying36 elemI _ _ _ rfl hrow ⟨_, 0, none⟩ 1 1 [(Value.int .i64) ky] rfl rfl (news_one _ ((Value.int .i64) ky) 3) ?c1 ?c2 ?c3 ?_))
                  case c1 => intro u hu; simp at hu; subst hu; rfl
                  case c2 => have := HLN.out; unfold maxLen at *; omega
                  case c3 => have := HLN.out; omega
                  intro v' w10 h10 x10
                  obtain ⟨G', gc', rfl⟩ := h10.rowForm
                  go_wp2_with fail
                  go_roundw
                  case rel => exact ⟨1 + 1, G', _, gc', by omega, by first | rfl | (simp; done) | go_num, rfl, by rw [HD'.out]; unfold irow; simp only [List.length_append, List.length_singleton, List.map_append, List.map_cons, List.map_nil]; exact h10, (hx.alloc _).trans x10⟩
                  case measure => first | (simp [intOf]; done) | (simp [intOf]; omega)
          · skip
            have hgt' : z < 1 := by omega
            clear hgt hjl hj hz
            go_wp2_with fail
            go_loopw [7, 8] (fun s7 s8 wz => ∃ (k : Nat), k ≤ 1 ∧ s7 = (Value.int .i64) (pow8 k) ∧ s8 = (Value.int .i64) k ∧ wz = wr) (fun _ t _ => 1 - (intOf t).toNat)
            case atStart => exact ⟨0, by omega, rfl, rfl, rfl⟩
            case round =>
              obtain ⟨k, hk, rfl, rfl, hwz⟩ := hrel
              subst hwz
              by_cases hkl : k < 1
              · have hp8 : IntKind.i64.wrap (pow8 k * 8) = pow8 (k + 1) := by
                  have : k = 0 ∨ k = 1 ∨ k = 2 := by omega
                  rcases this with rfl | rfl | rfl <;> rfl
                obtain ⟨q1, hq1⟩ : ∃ q1, pow8 (k + 1) = q1 := ⟨_, rfl⟩
                have Q1 := Lib.hid (show (Value.int .i64) q1 = (Value.int .i64) (pow8 (k + 1)) by rw [hq1])
                rw [hq1] at hp8
                clear hq1
                generalize pow8 k = q0 at hp8 ⊢
                go_wp2_with fail
                go_roundw
                case rel => exact ⟨k + 1, by omega, Q1.out, by go_num, trivial⟩
                case measure => simp [intOf]; omega
              · obtain rfl : k = 1 := by omega
                go_upto_region 15 with fail
                have hkey : wrap64 (wrap64 (wrap64 (p.tdiv (pow8 1)) * 4) + 1) = keyAt p 1 := by
                  unfold keyAt
                  rw [Int.tdiv_eq_ediv_of_nonneg hp0]
                  have e : pow8 1 = 8 := rfl
                  rw [e]
                  have h1 : wrap64 (p / 8) = p / 8 := wrap64_in (by omega) (by omega)
                  have h2 : wrap64 (p / 8 * 4) = p / 8 * 4 := wrap64_in (by omega) (by omega)
                  have h3 : wrap64 (p / 8 * 4 + 1) = p / 8 * 4 + 1 := wrap64_in (by omega) (by omega)
                  rw [h1, h2, h3]
                  rfl
                rw [hkey]
                have hD : keysDown p (2 + 1) sn = addK (keysDown p 2 sn) (keyAt p 1) := rfl
                rw [addK_in] at hD
                have HD := Lib.hid hD
                clear hkey hD
                have HIN := Lib.hid (fun R w h => in_irow B n' c' (keysDown p 2 sn) (keyAt p 1) R w h)
                have HLN := Lib.hid (And.intro (irow_len hr) (irow_cap hr))
                have hfew : (keysDown p 2 sn).length ≤ 12290 := HF.out 2 (by omega)
                generalize keyAt p 1 = ky at *
                generalize keysDown p 2 sn = L0 at *
                cases hib : inB L0 ky with
                | true =>
                  rw [hib] at HIN HD
                  have hD := HD.out
                  rw [if_pos rfl] at hD
                  have HD' := Lib.hid hD
                  clear hib hD HD
                  go_wp2_with fail
                  refine (HIN.out _ _ hr).mono ?_; rintro e w5 ⟨rfl, rfl⟩
                  go_wp2_with fail
                  go_roundw
                  case rel => exact ⟨2 + 1, B, n', c', by omega, by first | rfl | (simp; done) | go_num, rfl, by rw [HD'.out]; exact hr, hx⟩
                  case measure => first | (simp [intOf]; done) | (simp [intOf]; omega)
                | false =>
                  rw [hib] at HIN HD
                  have hD := HD.out
                  rw [if_neg (by simp)] at hD
                  have HD' := Lib.hid hD
                  clear hib hD HD
                  go_wp2_with fail
                  refine (HIN.out _ _ hr).mono ?_; rintro e w5 ⟨rfl, hwz⟩
                  subst hwz
                  have hrow := (hr.eq (show _ = row 3 1 (.slice B n' c') L0.length (L0.map (Value.int .i64)) * old w w.heap.size from rfl)).alloc (.cells #[(Value.int .i64) ky] 3)
                  go_wp2_with (first | (at_builtin; refine wpList_append_has rfl _ _ 36 rfl Try.underlying36 elemI _ _ _ rfl hrow ⟨_, 0, none⟩ 1 1 [(Value.int .i64) ky] rfl rfl (news_one _ ((Value.int .i64) ky) 3) ?c1 ?c2 ?c3 ?_))
                  case c1 => intro u hu; simp at hu; subst hu; rfl
                  case c2 => have := HLN.out; unfold maxLen at *; omega
                  case c3 => have := HLN.out; omega
                  intro v' w10 h10 x10
                  obtain ⟨G', gc', rfl⟩ := h10.rowForm
                  go_wp2_with fail
                  go_roundw
                  case rel => exact ⟨2 + 1, G', _, gc', by omega, by first | rfl | (simp; done) | go_num, rfl, by rw [HD'.out]; unfold irow; simp only [List.length_append, List.length_singleton, List.map_append, List.map_cons, List.map_nil]; exact h10, (hx.alloc _).trans x10⟩
                  case measure => first | (simp [intOf]; done) | (simp [intOf]; omega)
        · obtain rfl : j = (3 - z).toNat := by omega
          have hgt : ¬ z < 3 - (((3 - z).toNat : Nat) : Int) := by omega
          go_wp2_with fail
          go_roundw
          case rel => exact ⟨i + 1, B, n', c', by omega, by go_num, rfl, by rw [HE.out]; exact hr, hx⟩
          case measure => simp [intOf]; omega
    · obtain rfl : i = l.length := by omega
      rw [List.take_length] at hr
      have hn := irow_len hr
      have hcap := irow_cap hr
      have hlen := few12 HO.out
      generalize (seenL l).length = k at *
      subst hn
      go_wp2_with fail
      go_ret
      exact ⟨by simp, below_of1 hr.right hx⟩
end Go.Proofs.Ytegkimecdonfgaa
namespace Go.Proofs.Ytegkimecdonfgaa
open Go.RowKit
/-- 'copy' of elements of several cells: all is read before anything is written. -/
theorem run_copy_many {P : Program} (w : World) (dT sT ty elem : TypeId) (b o dLen dCap : Nat) (a : Addr) (sLen sCap size k : Nat) (cs : List Value)
    (hu : P.underlying dT = some (.slice elem)) (hs : (P.info? elem).map (·.size) = some size) (hk : k = Nat.min sLen dLen) (hn : cs.length = k * size)
    (hsrc : ∀ j v, cs[j]? = some v → w.cell? (a.add j) = some v) (hc : ∀ j, j < cs.length → (w.cell? ⟨b, o + j, none⟩).isSome = true) (hf : ∀ j, j < cs.length → w.frozen? ⟨b, o + j, none⟩ = false) (h1 : ∀ v ∈ cs, v.oneCell' = true) :
    (Builtin.copy_ #[dT, sT] ty #[.slice (some ⟨b, o, none⟩) dLen dCap, .slice (some a) sLen sCap]).run P w = .ok (goInt k) (w.setCells b o cs) := by
  have hl := run_loadCells_list (P := P) w a cs hsrc
  have hst := run_storeCells_cells (P := P) b o cs 0 w (by simpa using hc) (by simpa using hf) h1
  subst hk
  cases hq : P.info? elem with
  | none => simp [hq] at hs
  | some i =>
    have hi : i.size = size := by simpa [hq] using hs
    rw [hn] at hl
    simp [Builtin.copy_, run_underlying hu, Builtin.lenOf, Builtin.firstCells, sizeOf, typeInfo, hq, hi, hl, hst]
section
variable {w : World} {R : HProp} {e size : Nat} {n c : Nat} {xs ys : List Value} {g : Nat}
/-- A row into its spare room. -/
theorem Has.rowMore (h : Has w (row e size (.slice (some ⟨g, 0, none⟩) n c) n xs * R)) (m : Nat) (hm : n + m ≤ c) :
    ∃ ys : List Value, ys.length = m * size ∧ Has w (row e size (.slice (some ⟨g, 0, none⟩) (n + m) c) (n + m) (xs ++ ys) * R) := by
  have hl := h.rowLens.1
  rcases h.rowCases with ⟨hv, _⟩ | ⟨g', cap, cur, hv, h1, h2, h3, h4, hb⟩
  · injection hv with a; cases a
  · injection hv with e1 e2 e3
    injection e1 with e1
    injection e1 with e1
    subst e1; subst e3
    have e4 : (n + m) * size = n * size + m * size := Nat.add_mul _ _ _
    have e5 : (n + m) * size ≤ c * size := Nat.mul_le_mul_right _ hm
    refine ⟨(cur.toList.drop (n * size)).take (m * size), by rw [List.length_take, List.length_drop, Array.length_toList]; omega, ?_⟩
    refine hb.rowOf ?_ hm h2 h3 ?_
    · rw [List.length_append, hl, List.length_take, List.length_drop, Array.length_toList]; omega
    · rw [← h4, e4, List.take_add]
/-- Many cells into its spare room and over its end: the tail moves back, and others come into the gap. -/
theorem Has.rowShift (h : Has w (row e size (.slice (some ⟨g, 0, none⟩) n c) n xs * R)) {i m : Nat} (hi : i ≤ n) (hm : n + m ≤ c) (zs : List Value) (hz : zs.length = m * size) :
    Has ((w.setCells g ((i + m) * size) (xs.drop (i * size))).setCells g (i * size) zs) (row e size (.slice (some ⟨g, 0, none⟩) (n + m) c) (n + m) (xs.take (i * size) ++ (zs ++ xs.drop (i * size))) * R) := by
  have hl := h.rowLens.1
  obtain ⟨ys, hy, h1⟩ := h.rowMore m hm
  have e1 : i * size ≤ n * size := Nat.mul_le_mul_right _ hi
  have e2 : (n + m) * size = n * size + m * size := Nat.add_mul _ _ _
  have e3 : (i + m) * size = i * size + m * size := Nat.add_mul _ _ _
  have hd : (xs.drop (i * size)).length = n * size - i * size := by rw [List.length_drop, hl]
  have h2 := Has.rowSetCells (xs.drop (i * size)) ((i + m) * size) h1 (by rw [hd]; omega)
  have h3 := Has.rowSetCells zs (i * size) h2 (by omega)
  refine h3.eq (congrArg (fun t => row e size (.slice (some ⟨g, 0, none⟩) (n + m) c) (n + m) t * R) ?_)
  have d1 : (xs ++ ys).drop ((i + m) * size + (xs.drop (i * size)).length) = [] := List.drop_eq_nil_of_le (by rw [List.length_append, hd, hl, hy]; omega)
  rw [d1, List.append_nil]
  have t1 : ((xs ++ ys).take ((i + m) * size) ++ xs.drop (i * size)).take (i * size) = xs.take (i * size) := by
    rw [List.take_append_of_le_length (by rw [List.length_take, List.length_append, hl, hy]; omega), List.take_take, Nat.min_eq_left (by omega), List.take_append_of_le_length (by omega)]
  have t2 : ((xs ++ ys).take ((i + m) * size) ++ xs.drop (i * size)).drop (i * size + zs.length) = xs.drop (i * size) := by
    have hlen : ((xs ++ ys).take ((i + m) * size)).length = i * size + zs.length := by rw [List.length_take, List.length_append, hl, hy, hz]; omega
    rw [← hlen, List.drop_left]
  rw [t1, t2]
/-- The same, with a draw in between. -/
theorem Has.rowGapD {k : Nat} (h : Has w (row e size (.slice (some ⟨g, 0, none⟩) n c) n (xs ++ ys) * R)) (hx : xs.length = k * size) (zs ts : List Value) (hzt : ys.length = zs.length + ts.length) :
    Has (((w.setCells g (k * size) zs).drew).setCells g (k * size + zs.length) ts) (row e size (.slice (some ⟨g, 0, none⟩) n c) n (xs ++ (zs ++ ts)) * R) := by
  have hl := h.rowLens.1
  rw [List.length_append] at hl
  have h2 := Has.rowSetCells zs (k * size) h (by omega)
  have h3 := Has.rowSetCells ts (k * size + zs.length) h2.drew (by omega)
  refine h3.eq (congrArg (fun t => row e size (.slice (some ⟨g, 0, none⟩) n c) n t * R) ?_)
  have t1 : (xs ++ ys).take (k * size) = xs := by rw [List.take_append_of_le_length (by omega), List.take_of_length_le (by omega)]
  rw [t1]
  have t2 : (xs ++ (zs ++ (xs ++ ys).drop (k * size + zs.length))).take (k * size + zs.length) = xs ++ zs := by
    rw [← List.append_assoc, List.take_append_of_le_length (by rw [List.length_append]; omega), List.take_of_length_le (by rw [List.length_append]; omega)]
  have t3 : (xs ++ (zs ++ (xs ++ ys).drop (k * size + zs.length))).drop (k * size + zs.length + ts.length) = [] :=
    List.drop_eq_nil_of_le (by rw [List.length_append, List.length_append, List.length_drop, List.length_append]; omega)
  rw [t2, t3, List.append_nil, List.append_assoc]
end
end Go.Proofs.Ytegkimecdonfgaa
namespace Go.Proofs.Ytegkimecdonfgaa
open Go.RowKit
set_option maxRecDepth 100000
theorem Ext.cells {w0 : World} (b : Nat) : ∀ (vs : List Value) (o : Nat) {w : World}, Ext w0 w → Ext w0 (w.setCells b o vs)
  | [], _, _, h => h
  | _ :: r, o, _, h => Ext.cells b r (o + 1) (h.set _ _)
theorem mzero_v : ∀ w, (zeroValue 24).run Try.prog w = .ok mpZero w := Try.zeroValue24
theorem mrow_small2 {w : World} {R : HProp} {A : Option Addr} {n c : Nat} {l : List Mp} (h : Has w (mrow (.slice A n c) l * R)) : n ≤ 9223372036854775807 ∧ n ≤ c := by
  obtain rfl := mrow_len h
  refine ⟨mrow_small h, ?_⟩
  rcases Has.rowCases (e := 24) (size := 4) h with ⟨hv, h0, _⟩ | ⟨g, cap, cur, hv, h1, _⟩
  · injection hv with a b
    omega
  · injection hv with a b d
    omega
theorem info_mp : (Try.prog.info? 24).map (fun i => (i.zero, i.size, i.bytes)) = some (some mpZero, 4, 32) := by kernel_rfl
theorem mrow_news {w : World} {R : HProp} {g n c : Nat} {l : List Mp} (h : Has w (mrow (.slice (some ⟨g, 0, none⟩) n c) l * R)) (k : Nat) :
    ∀ j u, ((mcells l).drop (k * 4))[j]? = some u → w.cell? ⟨g, k * 4 + j, none⟩ = some u := by
  intro j u hu
  rw [List.getElem?_drop] at hu
  obtain rfl := mrow_len h
  obtain ⟨b, hb, _, hc, _⟩ := Has.rowGet (e := 24) (size := 4) h hu
  injection hb with hb
  injection hb with hb
  subst hb
  exact hc
/-- Delete, of elements that are there. -/
theorem delete_mp (l : List Mp) (i j g n c : Nat) (R : HProp) (w : World) (hij : i < j) (hj : j ≤ n) (h : Has w (mrow (.slice (some ⟨g, 0, none⟩) n c) l * R)) :
    Calls Try.prog 82 #[.slice (some ⟨g, 0, none⟩) n c, .int .i64 i, .int .i64 j] w
      (Res (.slice (some ⟨g, 0, none⟩) (i + (n - j)) c) (mrow (.slice (some ⟨g, 0, none⟩) (i + (n - j)) c) (l.take i ++ l.drop j) * R) w) := by
  obtain rfl := mrow_len h
  obtain ⟨hbig, hnc⟩ := mrow_small2 h
  obtain ⟨i0, hi0, hz0, hz1, hz2⟩ := info_parts info_mp
  obtain ⟨A, hA, hnews⟩ : ∃ A : Addr, (if c = j then some (⟨g, 0, none⟩ : Addr) else some ⟨g, j * 4, none⟩) = some A ∧ Hid (∀ t u, ((mcells l).drop (j * 4))[t]? = some u → w.drew.cell? (A.add t) = some u) := by
    by_cases hc : c = j
    · refine ⟨⟨g, 0, none⟩, by simp [hc], fun t u hu => ?_⟩
      rw [List.drop_eq_nil_of_le (by rw [mcells_len]; omega)] at hu
      simp at hu
    · refine ⟨⟨g, j * 4, none⟩, by simp [hc], fun t u hu => ?_⟩
      rw [Addr.add_lit]
      exact mrow_news h j t u hu
  have s1 : Hid (((mcells l).drop (j * 4)).length = (l.length - j) * 4) := by rw [List.length_drop, mcells_len]; show _ = _; omega
  have s2 : Hid (∀ u ∈ (mcells l).drop (j * 4), u.oneCell' = true) := fun u hu => mcells_one l u (List.mem_of_mem_drop hu)
  have s3 : Hid (∀ t, t < ((mcells l).drop (j * 4)).length → (w.drew.cell? ⟨g, 0 + i * 4 + t, none⟩).isSome = true ∧ w.drew.frozen? ⟨g, 0 + i * 4 + t, none⟩ = false) := by
    intro t ht
    rw [s1.out] at ht
    obtain ⟨b, hb, _, hc, hf⟩ := Has.rowGet (e := 24) (size := 4) h (i := i * 4 + t) (u := (mcells l)[i * 4 + t]'(by rw [mcells_len]; omega)) (List.getElem?_eq_getElem _)
    injection hb with hb
    injection hb with hb
    subst hb
    rw [Nat.zero_add]
    exact ⟨by show (w.cell? _).isSome = true; rw [hc]; rfl, hf⟩
  have hic : i ≤ c := by omega
  have hne : ((i : Int) == (j : Int)) = false := beq_eq_false_iff_ne.2 (by omega)
  go_enter Try.func82, Try.ntmps82
  go_wp2_with fail
  go_region_law (refine step_append_room rfl (.tmp 22) (.tmp 25) 64 rfl 24 i0 4 Try.underlying64 hi0 hz1 g 0 i c (by simp [Act.eval, Act.put]) A (l.length - j) (c - j) ((mcells l).drop (j * 4)) (by simp [Act.eval, Act.put]) s1.out hnews.out s2.out (by omega) s3.out ?_)
  have hn' : i + (l.length - j) < l.length := by omega
  have h1 := Has.rowSetCells (e := 24) (size := 4) ((mcells l).drop (j * 4)) (i * 4) h.drew (by rw [s1.out]; omega)
  have hz : (l.take i ++ l.drop j).length = i + (l.length - j) := by simp; omega
  obtain ⟨zs, hcl⟩ : ∃ zs, ∀ ty, (Builtin.clear_ #[64] ty #[.slice (some ⟨g, (i + (l.length - j)) * 4, none⟩) (l.length - (i + (l.length - j))) (c - (i + (l.length - j)))]).run Try.prog (w.drew.setCells g (i * 4) ((mcells l).drop (j * 4))) = .ok (.tuple #[]) ((w.drew.setCells g (i * 4) ((mcells l).drop (j * 4))).setCells g ((i + (l.length - j)) * 4) zs) := by
    refine ⟨_, fun ty => run_clear_cells _ _ _ ty mpZero 4 Try.underlying64 mzero_v rfl (by intro v hv; simp [mpZero, Value.cells] at hv; subst hv; rfl) g _ _ _ (by omega) (by omega) (fun t ht => ?_) (fun t ht => ?_)⟩
    all_goals
      obtain ⟨b, hb, _, hc, hf⟩ := Has.rowGet (e := 24) (size := 4) h1 (i := (i + (l.length - j)) * 4 + t) (List.getElem?_eq_getElem (by rw [h1.rowLens.1]; omega))
      injection hb with hb
      injection hb with hb
      subst hb
    · rw [hc]; rfl
    · exact hf
  have hfin : Has ((w.drew.setCells g (i * 4) ((mcells l).drop (j * 4))).setCells g ((i + (l.length - j)) * 4) zs) (mrow (.slice (some ⟨g, 0, none⟩) (i + (l.length - j)) c) (l.take i ++ l.drop j) * R) := by
    have := Has.rowDelete (e := 24) (size := 4) (i := i) (j := j) h.drew (by omega) hj zs
    unfold mrow
    rw [hz, mcells_append]
    have e1 : (mcells l).take (i * 4) = mcells (l.take i) := flat_take mp_len l i
    have e2 : (mcells l).drop (j * 4) = mcells (l.drop j) := flat_drop mp_len l j
    rw [← e1, ← e2]
    exact this
  have hx : Ext w ((w.drew.setCells g (i * 4) ((mcells l).drop (j * 4))).setCells g ((i + (l.length - j)) * 4) zs) := Ext.cells _ _ _ (Ext.cells _ _ _ (Ext.refl w).drew)
  clear h1 s1 s2 s3 hnews hA h hz
  generalize (w.drew.setCells g (i * 4) ((mcells l).drop (j * 4))) = w1 at *
  generalize i + (l.length - j) = n' at *
  have hcn : ¬ c ≤ n' := by omega
  have hnn : (n' : Int) ≤ (l.length : Int) := by omega
  go_wp2_with fail
  go_ret
  exact ⟨rfl, hfin, hx⟩
/-- A slice of the call's own that reads these mappings, behind all that was there. -/
def ClonedM (l : List Mp) (w : World) (e : Ending) (w' : World) : Prop := ∃ A n c, e = .returned (.slice A n c) ∧ Has w' (mrow (.slice A n c) l * old w w.heap.size) ∧ Ext w w'
theorem clone_mp (l : List Mp) (A : Option Addr) (n c : Nat) (R : HProp) (w : World) (hs : l.length ≤ 1000000) (h : Has w (mrow (.slice A n c) l * R)) :
    Calls Try.prog 84 #[.slice A n c] w (ClonedM l w) := by
  have q22 : ∀ (w : World) (a : Option Addr) (n c n' c' : Nat), (binOp .eql 64 (.slice a n c) (.slice none n' c')).run Try.prog w = .ok (.bool a.isNone) w := fun w a n c n' c' => Lib.run_eql_slice_nil w _ _ a n c n' c' Try.underlying64
  have hl0 := mrow_len h
  subst hl0
  cases A with
  | none =>
    have h0 : l = [] ∧ c = 0 := by
      rcases Has.rowCases (e := 24) (size := 4) h with ⟨hv, h0, _⟩ | ⟨g, cap, cur, hv, _⟩
      · injection hv with a b d
        exact ⟨List.eq_nil_of_length_eq_zero h0, d⟩
      · injection hv with a
        cases a
    obtain ⟨rfl, rfl⟩ := h0
    go_enter Try.func84, Try.ntmps84
    go_wp2_with fail
    go_ret
    exact ⟨none, 0, 0, rfl, Has.rowNil (has_old w), Ext.refl _⟩
  | some a =>
    have h0 : ∃ g, a = ⟨g, 0, none⟩ := by
      rcases Has.rowCases (e := 24) (size := 4) h with ⟨hv, h0, _⟩ | ⟨g, cap, cur, hv, _⟩
      · injection hv with a b d
        cases a
      · injection hv with a
        injection a with a
        exact ⟨g, a⟩
    obtain ⟨g, rfl⟩ := h0
    have h1 := (has_old w).new #[] 24
    have hrow : Has (w.alloc (.cells #[] 24)) (row 24 4 (.slice (some ⟨w.heap.size, 0, none⟩) 0 0) 0 [] * old w w.heap.size) := h1.rowOf rfl (Nat.le_refl _) (by unfold maxLen; omega) rfl rfl
    have hn := mrow_news (h.alloc (.cells #[] 24)) 0
    have hne : Hid (∀ j u, (mcells l)[j]? = some u → (w.alloc (.cells #[] 24)).cell? ((⟨g, 0, none⟩ : Addr).add j) = some u) := fun j u hu => by
      rw [Addr.add_lit]
      exact hn j u (by simpa using hu)
    have x1 := (Ext.refl w).alloc (.cells #[] 24)
    clear hn h1 h
    go_enter Try.func84, Try.ntmps84
    go_wp2_with (at_builtin; refine wpList_append_has rfl _ _ 64 rfl Try.underlying64 elemMp _ _ _ rfl hrow ⟨g, 0, none⟩ l.length c (mcells l) rfl (mcells_len l) hne.out (mcells_one l) ?c2 ?c3 ?_)
    case c2 => unfold maxLen; omega
    case c3 => omega
    intro v' w2 h' x'
    obtain ⟨A', c', rfl⟩ := h'.rowForm
    go_wp2_with fail
    go_ret
    exact ⟨A', _, c', rfl, h', x1.trans x'⟩
end Go.Proofs.Ytegkimecdonfgaa
namespace Go.Proofs.Ytegkimecdonfgaa
open Go.RowKit
set_option maxRecDepth 100000
/-- What a book's order says of a mapping and a page. -/
def cmpB (m : Mp) (p : Int) : Int := if over m p = true then 0 else wrap64 (m.page - p)
theorem bookCmp_any (m : Mp) (p : Int) (w : World) (hm : i64 m.page) (hp : i64 p) :
    Calls Try.prog 104 #[.agg #[(Value.int .i64) m.page, (Value.int .i64) m.size, (Value.int .i64) m.frame, (Value.int .i64) m.rights], .int .i64 p] w (Pure ((Value.int .i64) (cmpB m p)) w) := by
  have h1 := Has.new (has_old w) #[(Value.int .i64) m.page, (Value.int .i64) m.size, (Value.int .i64) m.frame, (Value.int .i64) m.rights] 24
  have x1 := (Ext.refl w).alloc (.cells #[(Value.int .i64) m.page, (Value.int .i64) m.size, (Value.int .i64) m.frame, (Value.int .i64) m.rights] 24)
  have HO := Lib.hid (fun W => over_page m p W hm hp)
  obtain ⟨c0, c1, c2, c3⟩ := h1.cells4
  have hlt := h1.lt
  cases ho : over m p with
  | true =>
    rw [ho] at HO
    have hy : Hid (cmpB m p = 0) := Lib.hid (by unfold cmpB; rw [if_pos ho])
    clear ho
    go_enter Try.func104, Try.ntmps104
    go_wp2_with (refine (HO.out _).mono ?_; rintro e w2 ⟨rfl, b2⟩)
    go_ret
    exact ⟨by rw [hy.out]; rfl, below_of1 (h1.below b2).right (x1.below b2)⟩
  | false =>
    rw [ho] at HO
    have hy : Hid (cmpB m p = wrap64 (m.page - p)) := Lib.hid (by unfold cmpB; rw [if_neg (by rw [ho]; simp)])
    clear ho
    go_enter Try.func104, Try.ntmps104
    go_wp2_with (refine (HO.out _).mono ?_; rintro e w2 ⟨rfl, b2⟩; have d0 := ((b2.cell (World.block_lt_of_cell? _ _ c0)).trans c0))
    go_ret
    exact ⟨by rw [hy.out]; rfl, below_of1 (h1.below b2).right (x1.below b2)⟩
theorem cmp_before {m : Mp} {p : Int} (hm : MapOk m) (hp : i64 p) (h0 : 0 ≤ p) : decide (cmpB m p < 0) = Bk.before p m := by
  have := hm.p0; have := hm.p1; have := hm.sp
  obtain ⟨_, h2⟩ := hp
  unfold cmpB Bk.before
  cases over m p with
  | true => rfl
  | false =>
    rw [if_neg (by simp), Bool.not_false, Bool.true_and]
    exact decide_eq_decide.2 (by unfold wrap64; omega)
theorem cmp_zero {m : Mp} {p : Int} (hm : MapOk m) (hp : i64 p) : (cmpB m p == 0) = over m p := by
  have := hm.p0; have := hm.p1; have := hm.sp
  obtain ⟨h1, h2⟩ := hp
  unfold cmpB
  cases ho : over m p with
  | true => rfl
  | false =>
    rw [if_neg (by simp)]
    have := over_false.1 ho
    exact beq_eq_false_iff_ne.2 (by unfold wrap64; omega)
theorem cmp_i64 {m : Mp} {p : Int} : i64 (cmpB m p) := by
  unfold cmpB i64 wrap64
  split <;> omega
/-- What stands at the place that was found says whether there is a mapping of the page. -/
theorem find_at {l : List Mp} (hl : Bk.Ok l) {p : Int} {i : Nat} (hi : 0 ≤ p → i = Bk.pos l p) : (Bk.find l p).isSome = if h : i < l.length then over l[i] p else false := by
  by_cases h0 : 0 ≤ p
  · obtain rfl := hi h0
    rw [Bk.find_head hl]
    cases hd : l.dropWhile (Bk.before p) with
    | nil =>
      have := Bk.drop_nil hd
      rw [dif_neg (by omega)]
      rfl
    | cons y r =>
      obtain ⟨h1, h2⟩ := Bk.drop_head hd
      rw [dif_pos h1, h2]
      show (if over y p = true then some y else none).isSome = _
      cases over y p <;> rfl
  · have hno : ∀ x ∈ l, over x p = false := fun x hx => over_false.2 (.inl (by have := (hl.chk x hx).p0; omega))
    have e1 : Bk.find l p = none := List.find?_eq_none.2 fun x hx => by rw [hno x hx]; simp
    rw [e1]
    split
    · rename_i h
      rw [hno _ (List.getElem_mem h)]
      rfl
    · rfl
theorem search_mp (l : List Mp) (hl : Bk.Ok l) (p : Int) (hp : i64 p) (A : Option Addr) (n c : Nat) (R : HProp) (w : World) (h : Has w (mrow (.slice A n c) l * R)) :
    Calls Try.prog 103 #[.slice A n c, .int .i64 p, .func (.func 104) #[] #[]] w
      (fun e w' => ∃ i : Nat, i ≤ l.length ∧ e = .returned (.tuple #[(Value.int .i64) i, Value.bool (Bk.find l p).isSome]) ∧ (0 ≤ p → i = Bk.pos l p) ∧ Below w.heap.size w w') := by
  obtain rfl := mrow_len h
  have hbig := mrow_small h
  have hL := hl.le
  have HL := Lib.hid hl
  clear hl
  go_enter Try.func103, Try.ntmps103
  go_wp2_with fail
  go_loopw [9, 10] (fun s9 s10 wr => ∃ i j : Nat, i ≤ j ∧ j ≤ l.length ∧ s9 = (Value.int .i64) i ∧ s10 = (Value.int .i64) j ∧ Below w.heap.size w wr ∧ Hid (0 ≤ p → i ≤ Bk.pos l p ∧ Bk.pos l p ≤ j)) (fun s9 s10 _ => (intOf s10).toNat - (intOf s9).toNat)
  case atStart => exact ⟨0, l.length, Nat.zero_le _, Nat.le_refl _, rfl, rfl, Below.refl _ _, fun _ => ⟨Nat.zero_le _, Bk.pos_le l p⟩⟩
  case round =>
    obtain ⟨i, j, hij, hj, rfl, rfl, BW, HP⟩ := hrel
    have hr := h.below BW
    have BW' := Lib.hid BW
    clear BW h
    by_cases hlt : i < j
    · go_upto_region 5 with fail
      obtain ⟨k, hk, hik, hkj⟩ : ∃ k : Nat, ((i : Int) + (j : Int)) / 2 = k ∧ i ≤ k ∧ k < j := ⟨(i + j) / 2, by omega, by omega, by omega⟩
      rw [hk]
      clear hk
      have hkl : k < l.length := by omega
      obtain ⟨b, rfl, hb, c0, c1, c2, c3⟩ := mrow_at hr hkl
      have hm := HL.out.chk l[k] (List.getElem_mem hkl)
      have hiff := Bk.pos_iff HL.out p hkl
      have hcb := fun h0 => cmp_before (p := p) hm hp h0
      have HC := Lib.hid (fun W => bookCmp_any l[k] p W ⟨by have := hm.p0; omega, by have := hm.p1; have := hm.sp; omega⟩ hp)
      have hci : i64 (cmpB l[k] p) := cmp_i64
      have HF := Lib.hid (show 0 ≤ p → decide (cmpB l[k] p < 0) = decide (k < Bk.pos l p) from fun h0 => (hcb h0).trans hiff)
      clear hm hiff hcb hr
      generalize l[k] = m at *
      generalize cmpB m p = v at *
      by_cases hv : v < 0
      · go_wp2_with (refine (HC.out _).mono ?_; rintro e w' ⟨rfl, hb'⟩)
        go_roundw
        case rel => exact ⟨k + 1, j, by omega, hj, by go_num, rfl, BW'.out.trans (hb'.mono BW'.out.size), fun h0 => ⟨by have := HF.out h0; rw [decide_eq_true hv] at this; have := of_decide_eq_true this.symm; omega, (HP.out h0).2⟩⟩
        case measure => simp [intOf]; omega
      · go_wp2_with (refine (HC.out _).mono ?_; rintro e w' ⟨rfl, hb'⟩)
        go_roundw
        case rel => exact ⟨i, k, by omega, by omega, rfl, rfl, BW'.out.trans (hb'.mono BW'.out.size), fun h0 => ⟨(HP.out h0).1, by have := HF.out h0; rw [decide_eq_false (by omega)] at this; have := of_decide_eq_false this.symm; omega⟩⟩
        case measure => simp [intOf]; omega
    · have hi : 0 ≤ p → i = Bk.pos l p := fun h0 => by have := HP.out h0; omega
      have hfa := find_at HL.out hi
      have HI := Lib.hid hi
      clear hi HP
      by_cases hil : i < l.length
      · rw [dif_pos hil] at hfa
        obtain ⟨b, rfl, hb, c0, c1, c2, c3⟩ := mrow_at hr hil
        have hm := HL.out.chk l[i] (List.getElem_mem hil)
        have HC := Lib.hid (fun W => bookCmp_any l[i] p W ⟨by have := hm.p0; omega, by have := hm.p1; have := hm.sp; omega⟩ hp)
        have hz := cmp_zero hm hp
        rw [← hfa] at hz
        have HZ := Lib.hid hz
        clear hm hr hz hfa
        generalize l[i] = m at *
        generalize cmpB m p = v at *
        go_wp2_with (refine (HC.out _).mono ?_; rintro e w' ⟨rfl, hb'⟩)
        exact bodyPost_ret (v := .tuple #[(Value.int .i64) i, Value.bool (v == 0)]) (by simp [results, Try.results103]) rfl ⟨i, by omega, by rw [HZ.out], HI.out, BW'.out.trans (hb'.mono BW'.out.size)⟩
      · rw [dif_neg hil] at hfa
        have HZ := Lib.hid hfa
        clear hfa hr
        go_wp2_with fail
        exact bodyPost_ret (v := .tuple #[(Value.int .i64) i, Value.bool false]) (by simp [results, Try.results103]) rfl ⟨i, by omega, by rw [HZ.out], HI.out, BW'.out⟩
/-- A book's 'at'. -/
def bookAt (B : Nat) (l : List Mp) : HProp := ex fun A => ex fun c => blk B #[.slice A l.length c] 133 * mrow (.slice A l.length c) l
theorem bookAt_open {B : Nat} {l : List Mp} {P : HProp} {w : World} (h : Has w (bookAt B l * P)) : ∃ A c, Has w (blk B #[.slice A l.length c] 133 * (mrow (.slice A l.length c) l * P)) := by
  unfold bookAt at h
  obtain ⟨A, h⟩ := has_ex_star.1 h
  obtain ⟨c, h⟩ := has_ex_star.1 h
  exact ⟨A, c, h.a1⟩
theorem bookAt_shut {B c : Nat} {A : Option Addr} {l : List Mp} {P : HProp} {w : World} (h : Has w (blk B #[.slice A l.length c] 133 * (mrow (.slice A l.length c) l * P))) : Has w (bookAt B l * P) := by
  unfold bookAt
  exact has_ex_star.2 ⟨A, has_ex_star.2 ⟨c, h.a2⟩⟩
theorem at_any (l : List Mp) (hl : Bk.Ok l) (p : Int) (hp : i64 p) (B : Nat) (R : HProp) (w : World) (h : Has w (bookAt B l * R)) :
    Calls Try.prog 79 #[.pointer (some ⟨B, 0, none⟩), .int .i64 p] w
      (fun e w' => ∃ i : Nat, i ≤ l.length ∧ e = .returned (.tuple #[(Value.int .i64) i, Value.bool (Bk.find l p).isSome]) ∧ (0 ≤ p → i = Bk.pos l p) ∧ Below w.heap.size w w') := by
  obtain ⟨A, c, h⟩ := bookAt_open h
  have c0 := h.cell 0
  have hlt := h.lt
  have HS := Lib.hid (search_mp l hl p hp A l.length c R w h.right)
  clear h
  go_enter Try.func79, Try.ntmps79
  go_wp2_with (refine HS.out.mono ?_; rintro e w' ⟨i, hi, rfl, hp, hb⟩)
  exact bodyPost_ret (v := .tuple #[(Value.int .i64) i, Value.bool (Bk.find l p).isSome]) (by simp [results, Try.results79]) rfl ⟨i, hi, rfl, hp, hb⟩
end Go.Proofs.Ytegkimecdonfgaa
namespace Go.Proofs.Ytegkimecdonfgaa
open Go.RowKit
set_option maxRecDepth 100000
theorem newB (R : HProp) (w : World) (h : Has w R) : Calls Try.prog 34 #[] w fun e w' => ∃ p, Res (.pointer (some ⟨p, 0, none⟩)) (bookAt p [] * R) w e w' := by
  have h1 := h.new #[.slice none 0 0] 133
  have h2 : Has (w.alloc (.cells #[.slice none 0 0] 133)) (blk w.heap.size #[.slice none 0 0] 133 * (mrow (.slice none ([] : List Mp).length 0) [] * R)) := (Has.rowNil h1).p2
  go_enter Try.func34, Try.ntmps34
  go_wp2
  go_ret
  exact ⟨_, rfl, bookAt_shut h2, (Ext.refl w).alloc _⟩
theorem listB (p : Nat) (l : List Mp) (R : HProp) (w : World) (hs : l.length ≤ 1000000) (h : Has w (bookAt p l * R)) :
    Calls Try.prog 40 #[.pointer (some ⟨p, 0, none⟩)] w (ClonedM l w) := by
  obtain ⟨A, c, h⟩ := bookAt_open h
  have hC := clone_mp l A l.length c _ w hs h.p2
  have c0 := h.cell 0
  have hp := h.lt
  go_enter Try.func40, Try.ntmps40
  go_wp2_with (refine hC.mono ?_; rintro e w2 ⟨A', n', c', rfl, h2, x2⟩)
  go_ret
  exact ⟨A', n', c', rfl, h2, x2⟩
set_option maxHeartbeats 2000000 in
theorem dropB (p : Nat) (l : List Mp) (k : Int) (R : HProp) (w : World) (hl : Bk.Ok l) (hk : i64 k) (h : Has w (bookAt p l * R)) :
    Calls Try.prog 36 #[.pointer (some ⟨p, 0, none⟩), .int .i64 k] w (Res (.tuple #[mpOf (Bk.dropR l k), (Value.int .i64) (Bk.dropC l k)]) (bookAt p (Bk.dropL l k) * R) w) := by
  have H1 := h.new #[(Value.int .i64) 0, (Value.int .i64) 0, (Value.int .i64) 0, (Value.int .i64) 0] 24
  have x1 := (Ext.refl w).alloc (.cells #[(Value.int .i64) 0, (Value.int .i64) 0, (Value.int .i64) 0, (Value.int .i64) 0] 24)
  have HH := has_any k
  have e0 := H1.p2
  cases hb : hasB k with
  | false =>
    rw [hb] at HH
    unfold Bk.dropR Bk.dropC Bk.dropL
    rw [hb]
    clear hb e0
    go_enter Try.func36, Try.ntmps36
    go_wp2_with (refine (HH _).mono ?_; rintro e w2 ⟨rfl, hw⟩; have H3 := hw.symm ▸ H1; have x3 := hw.symm ▸ x1; clear hw; obtain ⟨d0, d1, d2, d3⟩ := H3.cells4; obtain ⟨f0, f1, f2, f3⟩ := H3.frees4; have fl := H3.lt)
    refine ret_via (fun wz => Has wz (blk w.heap.size #[(Value.int .i64) 0, (Value.int .i64) 0, (Value.int .i64) 0, (Value.int .i64) 0] 24 * (bookAt p l * R)) ∧ Ext w wz) ⟨H3.set4 _ _ _ _, by (repeat (first | with_reducible assumption | with_reducible exact Ext.refl _ | with_reducible refine Ext.set ?_ _ _ | with_reducible refine Ext.alloc ?_ _ | with_reducible refine Ext.drew ?_ | with_reducible refine Ext.drewN ?_ _ | assumption | exact Ext.refl _ | refine Ext.alloc ?_ _ | refine Ext.set ?_ _ _ | refine Ext.drew ?_ | refine Ext.drewN ?_ _ | refine Ext.below ?_ (by assumption) | refine Ext.trans ?_ (by assumption)))⟩ ?_
    rintro wz ⟨hz, xz⟩
    exact bodyPost_ret (results_ct Try.results36 rfl rfl (load_map hz)) rfl ⟨rfl, hz.right, xz⟩
  | true =>
    rw [hb] at HH
    unfold Bk.dropR Bk.dropC Bk.dropL
    rw [hb]
    have hB := at_any l hl k hk p _ _ e0
    rcases Bk.place hl k with ⟨hf, hd, _⟩ | ⟨hi, ho, hf, h0, _, hd, _⟩
    · rw [hf] at hB
      rw [if_pos rfl, if_pos rfl, if_pos rfl, hf, hd]
      clear h e0 hf hl hd hb
      go_enter Try.func36, Try.ntmps36
      go_wp2_with (first | (go_at_call 72; refine (HH _).mono ?_; rintro e w2 ⟨rfl, rfl⟩) | (go_at_call 79; refine hB.mono ?_; rintro e w2 ⟨i, _, rfl, _, b2⟩; have H3 := H1.below b2; have x3 := x1.below b2; obtain ⟨d0, d1, d2, d3⟩ := H3.cells4; obtain ⟨f0, f1, f2, f3⟩ := H3.frees4; have fl := H3.lt))
      refine ret_via (fun wz => Has wz (blk w.heap.size #[(Value.int .i64) 0, (Value.int .i64) 0, (Value.int .i64) 0, (Value.int .i64) 0] 24 * (bookAt p l * R)) ∧ Ext w wz) ⟨H3.set4 _ _ _ _, by (repeat (first | with_reducible assumption | with_reducible exact Ext.refl _ | with_reducible refine Ext.set ?_ _ _ | with_reducible refine Ext.alloc ?_ _ | with_reducible refine Ext.drew ?_ | with_reducible refine Ext.drewN ?_ _ | assumption | exact Ext.refl _ | refine Ext.alloc ?_ _ | refine Ext.set ?_ _ _ | refine Ext.drew ?_ | refine Ext.drewN ?_ _ | refine Ext.below ?_ (by assumption) | refine Ext.trans ?_ (by assumption)))⟩ ?_
      rintro wz ⟨hz, xz⟩
      exact bodyPost_ret (results_ct Try.results36 rfl rfl (load_map hz)) rfl ⟨rfl, hz.right, xz⟩
    · rw [hf] at hB
      rw [if_pos rfl, if_pos rfl, if_pos rfl, hf, hd]
      change Calls _ _ _ w (Res (.tuple #[mpOf (some l[Bk.pos l k]), (Value.int .i64) 0]) _ w)
      have hq := fun i (e : 0 ≤ k → i = Bk.pos l k) => e h0
      have HL := Lib.hid hl.le
      have hhi := hi
      generalize hxq : l[Bk.pos l k] = x at *
      have HX := Lib.hid (show ∀ h, l[Bk.pos l k]'h = x from fun _ => hxq)
      generalize Bk.pos l k = q at *
      clear h hf hl ho hb hd e0 hxq
      go_enter Try.func36, Try.ntmps36
      go_wp2_with (first | (go_at_call 72; refine (HH _).mono ?_; rintro e w2 ⟨rfl, rfl⟩) | (go_at_call 79; refine hB.mono ?_; rintro e w2 ⟨i, _, rfl, hiq, b2⟩; obtain rfl := hq _ hiq; clear hiq hq hB; have H3 := H1.below b2; have x3 := x1.below b2; clear H1 x1; obtain ⟨A, c, h3⟩ := bookAt_open H3.p2; have k0 := h3.cell 0; have kl := h3.lt; obtain ⟨g, rfl, gb, g0, g1, g2, g3⟩ := mrow_at h3.right hi; rw [HX.out hi] at g0 g1 g2 g3; have hbig := mrow_small h3.right; have hw1 : wrap64 ((i : Int) + 1) = ((i + 1 : Nat) : Int) := (by have := HL.out; unfold wrap64; omega)))
      have h4 := h3.new #[(Value.int .i64) x.page, (Value.int .i64) x.size, (Value.int .i64) x.frame, (Value.int .i64) x.rights] 24
      have h5 : Has (w2.alloc (.cells #[(Value.int .i64) x.page, (Value.int .i64) x.size, (Value.int .i64) x.frame, (Value.int .i64) x.rights] 24)) (mrow (.slice (some ⟨g, 0, none⟩) l.length c) l * (blk p #[.slice (some ⟨g, 0, none⟩) l.length c] 133 * (blk w2.heap.size #[(Value.int .i64) x.page, (Value.int .i64) x.size, (Value.int .i64) x.frame, (Value.int .i64) x.rights] 24 * (blk w.heap.size #[(Value.int .i64) 0, (Value.int .i64) 0, (Value.int .i64) 0, (Value.int .i64) 0] 24 * R)))) := h4.eq (by (simp only [star_assoc, star_left_comm, star_comm]))
      have x5 := x3.alloc (.cells #[(Value.int .i64) x.page, (Value.int .i64) x.size, (Value.int .i64) x.frame, (Value.int .i64) x.rights] 24)
      have hD := delete_mp l i (i + 1) g l.length c _ _ (by omega) (by omega) h5
      have hdl : i + (l.length - (i + 1)) = (l.take i ++ l.drop (i + 1)).length := by simp; omega
      rw [hdl] at hD
      clear hdl h4 h5 h3 H3 x3 k0 kl g0 g1 g2 g3 hi hhi HX HL
      generalize l.take i ++ l.drop (i + 1) = l' at *
      go_wp2_with fail
      refine hD.mono ?_; rintro e w6 ⟨rfl, h6, x6⟩
      have x7 := x5.trans x6
      clear x5 x6 hD
      have c0 := h6.right.cell 0
      have cf := h6.right.free 0
      have cl := h6.right.lt
      have hne := h6.right.ne
      have hne' := hne.symm
      have h7 : Has (w6.setCell ⟨p, 0, none⟩ (.slice (some ⟨g, 0, none⟩) l'.length c)) (blk p #[.slice (some ⟨g, 0, none⟩) l'.length c] 133 * _) := h6.p2.set 0 (.slice (some ⟨g, 0, none⟩) l'.length c)
      obtain ⟨m0, m1, m2, m3⟩ := h6.right.right.cells4
      have ml := h6.right.right.lt
      have h8 : Has _ (blk w.heap.size #[(Value.int .i64) 0, (Value.int .i64) 0, (Value.int .i64) 0, (Value.int .i64) 0] 24 * (blk p #[.slice (some ⟨g, 0, none⟩) l'.length c] 133 * (mrow (.slice (some ⟨g, 0, none⟩) l'.length c) l' * (blk w2.heap.size #[(Value.int .i64) x.page, (Value.int .i64) x.size, (Value.int .i64) x.frame, (Value.int .i64) x.rights] 24 * R)))) := h7.eq (by (simp only [star_assoc, star_left_comm, star_comm]))
      have h9 : Has w6 (blk p #[.slice (some ⟨g, 0, none⟩) l.length c] 133 * (blk w.heap.size #[(Value.int .i64) 0, (Value.int .i64) 0, (Value.int .i64) 0, (Value.int .i64) 0] 24 * (mrow (.slice (some ⟨g, 0, none⟩) l'.length c) l' * (blk w2.heap.size #[(Value.int .i64) x.page, (Value.int .i64) x.size, (Value.int .i64) x.frame, (Value.int .i64) x.rights] 24 * R)))) := h6.eq (by (simp only [star_assoc, star_left_comm, star_comm]))
      have hnr := h9.ne
      have hnr' := hnr.symm
      obtain ⟨d0, d1, d2, d3⟩ := h9.right.cells4
      obtain ⟨f0, f1, f2, f3⟩ := h9.right.frees4
      have fl := h9.right.lt
      clear h9
      go_wp2_with fail
      refine ret_via (fun wz => Has wz (blk w.heap.size #[(Value.int .i64) x.page, (Value.int .i64) x.size, (Value.int .i64) x.frame, (Value.int .i64) x.rights] 24 * (blk p #[.slice (some ⟨g, 0, none⟩) l'.length c] 133 * (mrow (.slice (some ⟨g, 0, none⟩) l'.length c) l' * (blk w2.heap.size #[(Value.int .i64) x.page, (Value.int .i64) x.size, (Value.int .i64) x.frame, (Value.int .i64) x.rights] 24 * R)))) ∧ Ext w wz) ⟨h8.set4 _ _ _ _, by (repeat (first | with_reducible assumption | with_reducible exact Ext.refl _ | with_reducible refine Ext.set ?_ _ _ | with_reducible refine Ext.alloc ?_ _ | with_reducible refine Ext.drew ?_ | with_reducible refine Ext.drewN ?_ _ | assumption | exact Ext.refl _ | refine Ext.alloc ?_ _ | refine Ext.set ?_ _ _ | refine Ext.drew ?_ | refine Ext.drewN ?_ _ | refine Ext.below ?_ (by assumption) | refine Ext.trans ?_ (by assumption)))⟩ ?_
      rintro wz ⟨hz, xz⟩
      exact bodyPost_ret (results_ct Try.results36 rfl rfl (load_map hz)) rfl ⟨rfl, bookAt_shut hz.right.drop3, xz⟩
end Go.Proofs.Ytegkimecdonfgaa
namespace Go.Proofs.Ytegkimecdonfgaa
open Go.RowKit
set_option maxRecDepth 100000
def Inserted (l : List Mp) (R : HProp) (w : World) (e : Ending) (w' : World) : Prop := ∃ A c, e = .returned (.slice A l.length c) ∧ Has w' (mrow (.slice A l.length c) l * R) ∧ Ext w w'
/-- At the end. -/
theorem insert_end (l : List Mp) (m : Mp) (n c V : Nat) (A : Option Addr) (R : HProp) (w : World) (hbig : l.length ≤ 1000000)
    (h : Has w (mrow (.slice A n c) l * (blk V #[(Value.int .i64) m.page, (Value.int .i64) m.size, (Value.int .i64) m.frame, (Value.int .i64) m.rights] 24 * R))) :
    Calls Try.prog 81 #[.slice A n c, .int .i64 l.length, .slice (some ⟨V, 0, none⟩) 1 1] w (Inserted (l ++ [m]) R w) := by
  obtain rfl := mrow_len h
  obtain ⟨hb1, hb2⟩ := mrow_small2 h
  have hrow : Has w (row 24 4 (.slice A l.length c) l.length (mcells l) * (blk V #[(Value.int .i64) m.page, (Value.int .i64) m.size, (Value.int .i64) m.frame, (Value.int .i64) m.rights] 24 * R)) := h
  have hne : Hid (∀ j u, m.cells[j]? = some u → w.cell? ((⟨V, 0, none⟩ : Addr).add j) = some u) := fun j u hu => by
    rw [Addr.add_lit, Nat.zero_add, h.right.cell]
    simpa [Mp.cells] using hu
  go_enter Try.func81, Try.ntmps81
  go_wp2_with (at_builtin; refine wpList_append_has rfl _ _ 64 rfl Try.underlying64 elemMp _ _ _ rfl hrow ⟨V, 0, none⟩ 1 1 m.cells rfl rfl hne.out (oneMp m) (by unfold maxLen; omega) (by omega) ?_)
  all_goals
    intro v' w2 h' x'
    obtain ⟨A', c', rfl⟩ := h'.rowForm
    go_wp2_with fail
    go_ret
    refine ⟨A', c', by rw [List.length_append]; rfl, ?_, x'⟩
    unfold mrow
    rw [List.length_append, mcells_snoc]
    exact h'.p2.right
/-- In place: there is room. -/
theorem insert_shift (l : List Mp) (m : Mp) (n c V i g : Nat) (R : HProp) (w : World) (hbig : l.length ≤ 1000000) (hi : i < l.length) (hc : l.length + 1 ≤ c)
    (h : Has w (mrow (.slice (some ⟨g, 0, none⟩) n c) l * (blk V #[(Value.int .i64) m.page, (Value.int .i64) m.size, (Value.int .i64) m.frame, (Value.int .i64) m.rights] 24 * R))) :
    Calls Try.prog 81 #[.slice (some ⟨g, 0, none⟩) n c, .int .i64 i, .slice (some ⟨V, 0, none⟩) 1 1] w (Inserted (l.take i ++ m :: l.drop i) R w) := by
  obtain rfl := mrow_len h
  obtain ⟨hb1, hb2⟩ := mrow_small2 h
  obtain ⟨hn1, cur, hcg, h1, h2, h3, h4, hb⟩ := Has.rowAt (e := 24) (size := 4) h (by omega)
  injection hcg with hcg
  injection hcg with hcg
  subst hcg
  have hc63 : c ≤ 9223372036854775807 := by unfold maxLen at h2; omega
  have hVg : V ≠ g := fun e => by
    have := hb.ne
    exact this e.symm
  have hsV : w.shape? V = some (24, 4) := by
    have := h.right.heap
    simp [World.shape?, this]
  have hsg : w.shape? g = some (24, c * 4) := by
    have := hb.heap
    simp [World.shape?, this, h3]
  have hfa := h.right.free 0
  have hfe := h.right.free 4
  have hov : ∀ lb cb, (callFunc 106 #[.slice (some ⟨V, 0, none⟩) 1 1, .slice (some ⟨g, (i + 1) * 4, none⟩) lb cb]).run Try.prog w = .ok (.value (.bool false)) w := fun lb cb => by
    rw [run_callFunc_extern Try.func106 (by kernel_rfl) (by kernel_rfl) (by kernel_rfl) (e := Extern.SlicesOverlaps.overlaps #[64, 64] #[4]) (by kernel_rfl),
      Lib.run_overlaps_apart w 64 4 24 Try.underlying64 4 (by intro w; rfl) ⟨V, 0, none⟩ ⟨g, (i + 1) * 4, none⟩ 1 1 lb cb hVg _ _ 4 (c * 4) hsV hsg (by omega) hfa hfe]
    rfl
  have hi0 := h
  have hdl : ((mcells l).drop (i * 4)).length = (l.length - i) * 4 := by rw [List.length_drop, mcells_len]; omega
  have hcap := mrow_small2 h
  -- every cell of its room is there
  have hcell : ∀ k, k < c * 4 → (w.cell? ⟨g, k, none⟩).isSome = true := fun k hk => by
    rw [hb.cell, Array.getElem?_eq_getElem (by omega)]; rfl
  have hfree : ∀ k, w.frozen? ⟨g, k, none⟩ = false := fun k => hb.free k
  have hsz : (Try.prog.info? 24).map (·.size) = some 4 := by
    obtain ⟨i0, hi0, _, hz, _⟩ := info_parts info_mp
    rw [hi0]; simp [hz]
  have hcp1 : ∀ ty dc sc, (Builtin.copy_ #[64, 64] ty #[.slice (some ⟨g, (i + 1) * 4, none⟩) (l.length - i) dc, .slice (some ⟨g, i * 4, none⟩) (l.length + 1 - i) sc]).run Try.prog w.drew = .ok (goInt (l.length - i : Nat)) (w.drew.setCells g ((i + 1) * 4) ((mcells l).drop (i * 4))) := fun ty dc sc =>
    run_copy_many w.drew _ _ ty 24 g ((i + 1) * 4) (l.length - i) dc ⟨g, i * 4, none⟩ (l.length + 1 - i) sc 4 (l.length - i) ((mcells l).drop (i * 4)) Try.underlying64 hsz (by simp only [Nat.min_def]; split <;> omega) hdl
      (fun j v hj => by
        rw [Addr.add_lit]
        exact mrow_news h i j v hj)
      (fun j hj => hcell _ (by omega)) (fun j hj => hfree _) (fun v hv => mcells_one l v (List.mem_of_mem_drop hv))
  have hfin := Has.rowShift (e := 24) (size := 4) (i := i) (m := 1) h.drew (by omega) hc m.cells rfl
  have hV := (Has.rowShift (e := 24) (size := 4) (i := i) (m := 1) h.drew (by omega) hc m.cells rfl).right
  obtain ⟨W1, hW1⟩ : ∃ W1, W1 = w.drew.setCells g ((i + 1) * 4) ((mcells l).drop (i * 4)) := ⟨_, rfl⟩
  rw [← hW1] at hcp1 hfin
  have hcp2 : ∀ (W : World), (∀ x, W.cell? x = W1.cell? x) → (∀ x, W.frozen? x = W1.frozen? x) → ∀ ty dc, (Builtin.copy_ #[64, 64] ty #[.slice (some ⟨g, i * 4, none⟩) (l.length + 1 - i) dc, .slice (some ⟨V, 0, none⟩) 1 1]).run Try.prog W = .ok (goInt (1 : Nat)) (W.setCells g (i * 4) m.cells) := fun W hWc hWf ty dc =>
    run_copy_many W _ _ ty 24 g (i * 4) (l.length + 1 - i) dc ⟨V, 0, none⟩ 1 1 4 1 m.cells Try.underlying64 hsz (by simp only [Nat.min_def]; split <;> omega) rfl
      (fun j v hj => by
        rw [Addr.add_lit, hWc, hW1, World.cell?_setCells_out g _ _ _ _ (fun h _ => absurd h hVg), Nat.zero_add]
        show w.cell? _ = _
        rw [h.right.cell]
        simpa [Mp.cells] using hj)
      (fun j hj => by
        rw [hWc, hW1]
        have h4 : m.cells.length = 4 := rfl
        refine Go.Proofs.isSome_setCells g ((mcells l).drop (i * 4)) ((i + 1) * 4) w.drew (fun t ht => ?_) (i * 4 + j) (hcell (i * 4 + j) (by omega))
        exact hcell _ (by omega)) (fun j hj => by rw [hWf, hW1, World.frozen?_setCells]; exact hfree _) (oneMp m)
  have hw1 : IntKind.i64.wrap ((i : Int) + 1) = (i : Int) + 1 := by rw [IntKind.wrap_i64]; omega
  have hb2 : ¬ (c = i + 1) := by omega
  have hb4 : ¬ (c = i) := by omega
  have hb3 : (i : Int) ≤ (l.length : Int) + 1 := by omega
  have hz2 : ¬ ((i : Int) = (l.length : Int)) := by omega
  have htn : ((i : Int) + 1).toNat = i + 1 := by omega
  have hb0 : (0 : Int) ≤ (i : Int) + 1 := by omega
  have hil : i ≤ l.length := by omega
  have mixed : Try.prog.follows .mixedOrders = true := by kernel_rfl
  clear hi0 hcell hfree hsz hdl hb hV hsV hsg hfa hfe h1 h2 h3 h4 hcap
  have HF := Lib.hid hfin
  have HW := Lib.hid hW1
  clear hfin hW1 h
  go_enter Try.func81, Try.ntmps81
  go_wp2_with (simp only [hov])
  go_region_law_o (refine Go.Proofs.step_copy_runI rfl _ _ 64 64 rfl _ _ (by simp [Act.eval, Act.put]) (by simp [Act.eval, Act.put]) (hcp1 _ _ _) ?_)
  go_wp2_with (at_builtin; refine Go.Proofs.wpList_copy_runI _ rfl _ _ 64 64 rfl _ _ rfl rfl (hcp2 _ (fun _ => rfl) (fun _ => rfl) _ _) ?_)
  go_ret
  have hlen : (l.take i ++ m :: l.drop i).length = l.length + 1 := by simp; omega
  refine ⟨some ⟨g, 0, none⟩, c, by rw [hlen]; rfl, ?_, ?_⟩
  · unfold mrow
    rw [hlen]
    have e1 : (mcells l).take (i * 4) ++ (m.cells ++ (mcells l).drop (i * 4)) = mcells (l.take i ++ m :: l.drop i) := by
      rw [mcells_append, show (mcells l).take (i * 4) = mcells (l.take i) from flat_take mp_len l i, show (mcells l).drop (i * 4) = mcells (l.drop i) from flat_drop mp_len l i]
      rfl
    rw [← e1]
    exact HF.out.p2.right
  · rw [HW.out]
    exact Ext.cells _ _ _ (Ext.cells _ _ _ (Ext.refl w).drew)
set_option maxHeartbeats 4000000 in
/-- No room: a new row. -/
theorem insert_grow (l : List Mp) (m : Mp) (n c V i g : Nat) (R : HProp) (w : World) (hbig : l.length ≤ 1000000) (hi : i < l.length) (hc : c < l.length + 1)
    (h : Has w (mrow (.slice (some ⟨g, 0, none⟩) n c) l * (blk V #[(Value.int .i64) m.page, (Value.int .i64) m.size, (Value.int .i64) m.frame, (Value.int .i64) m.rights] 24 * R))) :
    Calls Try.prog 81 #[.slice (some ⟨g, 0, none⟩) n c, .int .i64 i, .slice (some ⟨V, 0, none⟩) 1 1] w (Inserted (l.take i ++ m :: l.drop i) R w) := by
  obtain rfl := mrow_len h
  obtain ⟨hb1, hb2⟩ := mrow_small2 h
  obtain ⟨i0, hi0, hz0, hzs, hzb⟩ := info_parts info_mp
  have hVw := h.right.lt
  have hgw : g < w.heap.size := by
    obtain ⟨b, hb, hlt, _⟩ := mrow_at h hi
    injection hb with hb
    injection hb with hb
    subst hb
    exact hlt
  have hsz : (Try.prog.info? 24).map (·.size) = some 4 := by rw [hi0]; simp [hzs]
  have hti : (mcells (l.take i)).length = i * 4 := by rw [mcells_len, List.length_take]; omega
  have hte : mcells (l.take i) = (mcells l).take (i * 4) := (flat_take mp_len l i).symm
  have hold : (Builtin.firstCells i0.size i (.slice (some ⟨g, 0, none⟩) i c)).run Try.prog w.drew = .ok (mcells (l.take i)).toArray w.drew := by
    rw [hzs]
    exact run_firstCells_some w.drew 4 i ⟨g, 0, none⟩ i c (mcells (l.take i)) hti (fun j v hj => by
      rw [Addr.add_lit]
      rw [hte, List.getElem?_take] at hj
      split at hj
      · have := mrow_news h 0 j v (by simpa using hj)
        rwa [Nat.zero_mul] at this
      · cases hj)
  have hkk : (l.length : Int) + 1 - (i : Int) = ((l.length + 1 - i : Nat) : Int) := by omega
  have hik : i + (l.length + 1 - i) = l.length + 1 := by omega
  have hrz : ∀ ty, (Builtin.append_ #[64, 3] ty #[.slice (some ⟨g, 0, none⟩) i c, .int .i64 ((l.length : Int) + 1 - (i : Int))]).run Try.prog w =
      .ok (.slice (some ⟨w.heap.size, 0, none⟩) (l.length + 1) (grownCap w (l.length + 1) c 24)) (w.drew.alloc (.cells ((mcells (l.take i)).toArray ++ Builtin.zeroCells mpZero.cells (l.length + 1 - i) ++ Builtin.zeroCells mpZero.cells (grownCap w (l.length + 1) c 24 - (l.length + 1))) 24)) := fun ty => by
    have h := Lib.run_append_grow_zeros w 64 3 ty 24 i0 _ .i64 .i64 Try.underlying64 Try.underlying3 hi0 hz0 (some ⟨g, 0, none⟩) i c (mcells (l.take i)) hold (l.length + 1 - i) (by omega) (by omega) (by omega) (by omega) (by rw [hzb]; omega) (by rw [hzb, hik]; exact growslice_fits hc (by omega))
    rw [hik] at h
    rw [hkk]
    exact h
  have hGn : l.length + 1 ≤ grownCap w (l.length + 1) c 24 := grownCap_ge w _ _ _
  have hGm := grownCap_le_maxLen w (l.length + 1) c 24 (by unfold maxLen; omega)
  generalize grownCap w (l.length + 1) c 24 = G at *
  have hzz : ∀ k, (Builtin.zeroCells mpZero.cells k).size = k * 4 := fun k => size_zeroCells _ _
  have hzl : ∀ k, (Builtin.zeroCells mpZero.cells k).toList.length = k * 4 := fun k => by rw [Array.length_toList]; exact hzz k
  obtain ⟨ROW, hROW⟩ : ∃ ROW : Array Value, ROW = (mcells (l.take i)).toArray ++ Builtin.zeroCells mpZero.cells (l.length + 1 - i) ++ Builtin.zeroCells mpZero.cells (G - (l.length + 1)) := ⟨_, rfl⟩
  rw [← hROW] at hrz
  have hRs : ROW.size = G * 4 := by
    rw [hROW]
    simp only [Array.size_append, hzz, List.size_toArray, hti]
    omega
  have hRt : ROW.toList.take ((l.length + 1) * 4) = mcells (l.take i) ++ (Builtin.zeroCells mpZero.cells (l.length + 1 - i)).toList := by
    have hs : (mcells (l.take i) ++ (Builtin.zeroCells mpZero.cells (l.length + 1 - i)).toList).length = (l.length + 1) * 4 := by
      rw [List.length_append, hzl, hti]
      omega
    rw [hROW, Array.toList_append, Array.toList_append]
    show ((mcells (l.take i) ++ _) ++ _).take _ = _
    rw [← hs, List.take_left]
  have H1 := (h.new ROW 24).drew.rowOf (size := 4) (n := l.length + 1) (cap := G) (by rw [List.length_append, hzl, hti]; omega) hGn hGm hRs hRt
  have hfin := Has.rowGapD H1 (k := i) hti m.cells (mcells (l.drop i)) (by rw [hzl, mcells_len, List.length_drop]; have : m.cells.length = 4 := rfl; omega)
  obtain ⟨W1, hW1⟩ : ∃ W1, W1 = w.drew.alloc (.cells ROW 24) := ⟨_, rfl⟩
  rw [← hW1] at hrz
  have hm4 : m.cells.length = 4 := rfl
  rw [hm4, show i * 4 + 4 = (i + 1) * 4 by omega] at hfin
  have hN : ∀ j, j < (l.length + 1) * 4 → (W1.cell? ⟨w.heap.size, j, none⟩).isSome = true := fun j hj => by
    rw [hW1, World.cell?_alloc_at (w := w.drew) ROW _ w.heap.size j rfl, Array.getElem?_eq_getElem (by omega)]; rfl
  have hNf : ∀ j, W1.frozen? ⟨w.heap.size, j, none⟩ = false := fun j => by rw [hW1]; exact World.frozen?_alloc_at (w := w.drew) ROW _ w.heap.size j rfl
  have hOb : ∀ j v, w.cell? ⟨g, j, none⟩ = some v → W1.cell? ⟨g, j, none⟩ = some v := fun j v h => by rw [hW1, World.cell?_alloc_past (w := w.drew) _ g j hgw]; exact h
  have hOv : ∀ j v, w.cell? ⟨V, j, none⟩ = some v → W1.cell? ⟨V, j, none⟩ = some v := fun j v h => by rw [hW1, World.cell?_alloc_past (w := w.drew) _ V j hVw]; exact h
  have hcpA : ∀ (W : World), (∀ x, W.cell? x = W1.cell? x) → (∀ x, W.frozen? x = W1.frozen? x) → ∀ ty dc, (Builtin.copy_ #[64, 64] ty #[.slice (some ⟨w.heap.size, i * 4, none⟩) (l.length + 1 - i) dc, .slice (some ⟨V, 0, none⟩) 1 1]).run Try.prog W = .ok (goInt (1 : Nat)) (W.setCells w.heap.size (i * 4) m.cells) := fun W hWc hWf ty dc =>
    run_copy_many W _ _ ty 24 w.heap.size (i * 4) (l.length + 1 - i) dc ⟨V, 0, none⟩ 1 1 4 1 m.cells Try.underlying64 hsz (by simp only [Nat.min_def]; split <;> omega) rfl
      (fun j v hj => by
        rw [Addr.add_lit, hWc, Nat.zero_add]
        refine hOv _ _ ?_
        rw [h.right.cell]
        simpa [Mp.cells] using hj)
      (fun j hj => by rw [hWc]; exact hN _ (by omega)) (fun j hj => by rw [hWf]; exact hNf _) (oneMp m)
  have hdl : (mcells (l.drop i)).length = (l.length - i) * 4 := by rw [mcells_len, List.length_drop]
  have hde : mcells (l.drop i) = (mcells l).drop (i * 4) := (flat_drop mp_len l i).symm
  have hgN : g ≠ w.heap.size := by omega
  have hcpB : ∀ (W : World), (∀ x, W.cell? x = (W1.setCells w.heap.size (i * 4) m.cells).cell? x) → (∀ x, W.frozen? x = (W1.setCells w.heap.size (i * 4) m.cells).frozen? x) → ∀ ty dc sc, (Builtin.copy_ #[64, 64] ty #[.slice (some ⟨w.heap.size, (i + 1) * 4, none⟩) (l.length + 1 - (i + 1)) dc, .slice (some ⟨g, i * 4, none⟩) (l.length - i) sc]).run Try.prog W = .ok (goInt (l.length - i : Nat)) (W.setCells w.heap.size ((i + 1) * 4) (mcells (l.drop i))) := fun W hWc hWf ty dc sc =>
    run_copy_many W _ _ ty 24 w.heap.size ((i + 1) * 4) (l.length + 1 - (i + 1)) dc ⟨g, i * 4, none⟩ (l.length - i) sc 4 (l.length - i) (mcells (l.drop i)) Try.underlying64 hsz (by simp only [Nat.min_def]; split <;> omega) hdl
      (fun j v hj => by
        rw [Addr.add_lit, hWc, World.cell?_setCells_out _ _ _ _ _ (fun h _ => absurd h hgN)]
        refine hOb _ v (mrow_news h i j v ?_)
        rwa [← hde])
      (fun j hj => by rw [hWc]; exact Go.Proofs.isSome_setCells _ _ _ _ (fun t ht => hN _ (by omega)) _ (hN _ (by omega)))
      (fun j hj => by rw [hWf, World.frozen?_setCells]; exact hNf _) (fun v hv => mcells_one _ v hv)
  have hx : Ext w ((((w.alloc (.cells ROW 24)).drew.setCells w.heap.size (i * 4) m.cells).drew).setCells w.heap.size ((i + 1) * 4) (mcells (l.drop i))) :=
    Ext.cells _ _ _ (Ext.cells _ _ _ ((Ext.refl w).alloc _).drew).drew
  subst hW1
  have hE1 : ∀ x, ((w.alloc (.cells ROW 24)).drew).cell? x = (w.drew.alloc (.cells ROW 24)).cell? x := fun x => rfl
  have hE2 : ∀ x, ((w.alloc (.cells ROW 24)).drew).frozen? x = (w.drew.alloc (.cells ROW 24)).frozen? x := fun x => rfl
  have hF1 : ∀ x, (((w.alloc (.cells ROW 24)).drew.setCells w.heap.size (i * 4) m.cells).drew).cell? x = ((w.drew.alloc (.cells ROW 24)).setCells w.heap.size (i * 4) m.cells).cell? x := fun x => rfl
  have hF2 : ∀ x, (((w.alloc (.cells ROW 24)).drew.setCells w.heap.size (i * 4) m.cells).drew).frozen? x = ((w.drew.alloc (.cells ROW 24)).setCells w.heap.size (i * 4) m.cells).frozen? x := fun x => rfl
  have hz2 : ¬ ((i : Int) = (l.length : Int)) := by omega
  have hz3 : (c : Int) < (l.length : Int) + 1 := by omega
  have hG63 : G ≤ 9223372036854775807 := by unfold maxLen at hGm; omega
  have hGi : ¬ (G = i) := by omega
  have hGim : ¬ (G = i + 1) := by omega
  have hci : ¬ (c = i) := by omega
  have hw1 : IntKind.i64.wrap ((i : Int) + 1) = (i : Int) + 1 := by rw [IntKind.wrap_i64]; omega
  have hb0 : (0 : Int) ≤ (i : Int) + 1 := by omega
  have hil : i ≤ l.length := by omega
  have htn : ((i : Int) + 1).toNat = i + 1 := by omega
  have hb3 : (i : Int) ≤ (l.length : Int) := by omega
  have mixed : Try.prog.follows .mixedOrders = true := by kernel_rfl
  have HF := Lib.hid hfin
  have HX := Lib.hid hx
  clear hkk hik hzz hzl hold hROW hRs hRt H1 hfin hx hi0 hz0 hzs hzb hsz h hti hte hdl hde hN hNf hOb hOv hm4 hGm
  go_enter Try.func81, Try.ntmps81
  go_wp2_with (first
    | (at_builtin; refine Lib.wpList_append_run _ rfl _ _ _ _ rfl _ _ rfl rfl _ _ (hrz _) ?_)
    | (at_builtin; refine Go.Proofs.wpList_copy_runI _ rfl _ _ 64 64 rfl _ _ rfl rfl (hcpA _ hE1 hE2 _ _) ?_)
    | (at_builtin; refine Go.Proofs.wpList_copy_runI _ rfl _ _ 64 64 rfl _ _ rfl rfl (hcpB _ (fun _ => rfl) (fun _ => rfl) _ _ _) ?_))
  go_region_law_o (refine Go.Proofs.step_copy_runI rfl _ _ 64 64 rfl (.slice (some ⟨w.heap.size, (i + 1) * 4, none⟩) (l.length + 1 - (i + 1)) (G - (i + 1))) (.slice (some ⟨g, i * 4, none⟩) (l.length - i) (c - i)) (by simp [Act.eval, Act.put]) (by simp [Act.eval, Act.put]) (hcpB _ hF1 hF2 _ (G - (i + 1)) (c - i)) ?_)
  go_wp2_with fail
  go_ret
  have hlen : (l.take i ++ m :: l.drop i).length = l.length + 1 := by simp; omega
  refine ⟨some ⟨w.heap.size, 0, none⟩, G, by rw [hlen]; rfl, ?_, HX.out⟩
  unfold mrow
  rw [hlen]
  have e1 : mcells (l.take i) ++ (m.cells ++ mcells (l.drop i)) = mcells (l.take i ++ m :: l.drop i) := by
    rw [mcells_append]
    rfl
  rw [← e1]
  exact HF.out.p2.right.p2.right
theorem insert_mp (l : List Mp) (m : Mp) (n c V i : Nat) (A : Option Addr) (R : HProp) (w : World) (hbig : l.length ≤ 1000000) (hi : i ≤ l.length)
    (h : Has w (mrow (.slice A n c) l * (blk V #[(Value.int .i64) m.page, (Value.int .i64) m.size, (Value.int .i64) m.frame, (Value.int .i64) m.rights] 24 * R))) :
    Calls Try.prog 81 #[.slice A n c, .int .i64 i, .slice (some ⟨V, 0, none⟩) 1 1] w (Inserted (l.take i ++ m :: l.drop i) R w) := by
  rcases Nat.lt_or_ge i l.length with hlt | hge
  · obtain ⟨g, rfl, _⟩ := mrow_at h hlt
    rcases Nat.lt_or_ge c (l.length + 1) with hc | hc
    · exact insert_grow l m n c V i g R w hbig hlt hc h
    · exact insert_shift l m n c V i g R w hbig hlt hc h
  · obtain rfl : i = l.length := by omega
    rw [List.take_length, List.drop_length]
    exact insert_end l m n c V A R w hbig h
end Go.Proofs.Ytegkimecdonfgaa
namespace Go.Proofs.Ytegkimecdonfgaa
open Go.RowKit
set_option maxRecDepth 100000
set_option maxHeartbeats 2000000 in
theorem addB (p : Nat) (l : List Mp) (m : Mp) (R : HProp) (w : World) (hl : Bk.Ok l) (hm : i64 m.page) (h : Has w (bookAt p l * R)) :
    Calls Try.prog 35 #[.pointer (some ⟨p, 0, none⟩), .agg #[(Value.int .i64) m.page, (Value.int .i64) m.size, (Value.int .i64) m.frame, (Value.int .i64) m.rights]] w (Res ((Value.int .i64) (Bk.addC l m)) (bookAt p (Bk.add l m) * R) w) := by
  have H1 := h.new #[(Value.int .i64) m.page, (Value.int .i64) m.size, (Value.int .i64) m.frame, (Value.int .i64) m.rights] 24
  have x1 := (Ext.refl w).alloc (.cells #[(Value.int .i64) m.page, (Value.int .i64) m.size, (Value.int .i64) m.frame, (Value.int .i64) m.rights] 24)
  have HC := check_any m
  obtain ⟨c0, c1, c2, c3⟩ := H1.cells4
  by_cases hc : check m = 0
  · rw [hc] at HC
    have hmo := mapOk_of hc
    have hp0 := hmo.p0
    obtain ⟨hy1, hy2⟩ : (Bk.addC l m = if Bk.bad l m = true then 4 else 0) ∧ (Bk.add l m = if Bk.bad l m = true then l else l.take (Bk.pos l m.page) ++ m :: l.drop (Bk.pos l m.page)) := by
      cases hb : Bk.bad l m with
      | true => exact Bk.addC_bad hc hb
      | false => exact Bk.addC_ok hc hb
    rw [hy1, hy2]
    clear hy1 hy2 h
    have hle := hl.le
    have hfb : (Bk.find l m.page).isSome = true → Bk.bad l m = true := Bk.bad_find
    have hba := Bk.bad_at hl hmo
    have hli : ∀ x ∈ l, i64 x.page := fun x hx => by
      have := (hl.chk x hx).p0; have := (hl.chk x hx).p1; have := (hl.chk x hx).sp
      exact ⟨by omega, by omega⟩
    have HL := Lib.hid hl
    clear hl
    go_enter Try.func35, Try.ntmps35
    go_upto_region 4 with (go_at_call 59; refine (HC _).mono ?_; rintro e w2 ⟨rfl, b2⟩)
    have h2 := H1.below b2
    have x2 := x1.below b2
    clear H1 x1 b2 c0 c1 c2 c3 HC
    obtain ⟨c0, c1, c2, c3⟩ := h2.cells4
    have cl := h2.lt
    have hB := at_any l HL.out m.page hm p _ _ h2.p2
    go_upto_region 5 with (refine hB.mono ?_; rintro e w3 ⟨i, hil, rfl, hip, b3⟩)
    have hip := hip hp0
    have h3 := h2.below b3
    have x3 := x2.below b3
    clear h2 x2 b3 c0 c1 c2 c3 cl hB
    obtain ⟨A, c, h4⟩ := bookAt_open h3.p2
    obtain ⟨c0, c1, c2, c3⟩ := h3.cells4
    have e0 := h4.cell 0
    rw [← hip] at hba
    generalize Bk.bad l m = bd at *
    generalize Bk.pos l m.page = q at *
    subst hip
    generalize (Bk.find l m.page).isSome = fs at *
    go_cut [40] (fun b40 wx => b40 = Value.bool bd ∧ Below w3.heap.size w3 wx)
    case first =>
      have v0 := via_cell c0
      have v1 := via_cell c1
      have v2 := via_cell c2
      have v3 := via_cell c3
      have ve := via_cell e0
      clear c0 c1 c2 c3 e0
      cases fs with
      | true =>
        have hbt := hfb rfl
        subst hbt
        clear hba hfb
        refine wp_region_via (by kernel_rfl) (by kernel_rfl) ?_
        repeat (first | go_big_quiet_step (fail) | quiet_step (fail))
        refine wpQuiet_nil ?_
        intro _ hw'
        obtain ⟨uq, hw''⟩ := hw'
        subst hw''
        go_wp2_with fail
        go_meet
        case rel => exact ⟨rfl, via_below _ _⟩
      | false =>
        clear hfb
        by_cases hlt : i < l.length
        · rw [dif_pos hlt] at hba
          obtain ⟨g, rfl, gb, g0, g1, g2, g3⟩ := mrow_at h4.right hlt
          have HM := Lib.hid (fun W => meet_any m l[i] W hm (hli _ (List.getElem_mem hlt)))
          rw [← hba] at HM
          have hdg : decide (i < l.length) = true := decide_eq_true (by omega)
          have u0 := via_cell g0
          have u1 := via_cell g1
          have u2 := via_cell g2
          have u3 := via_cell g3
          clear g0 g1 g2 g3 hba hli hle
          generalize l[i] = x at *
          refine wp_region_via (by kernel_rfl) (by kernel_rfl) ?_
          repeat (first | go_big_quiet_step ((go_at_call 80; exact Pure.via (HM.out _))) | quiet_step ((go_at_call 80; exact Pure.via (HM.out _))))
          refine wpQuiet_nil ?_
          intro _ hw'
          obtain ⟨uq, hw''⟩ := hw'
          subst hw''
          go_wp2_with fail
          go_meet
          case rel => exact ⟨rfl, via_below _ _⟩
        · rw [dif_neg hlt] at hba
          subst hba
          have hdg : decide (i < l.length) = false := decide_eq_false (by omega)
          clear hli hle
          refine wp_region_via (by kernel_rfl) (by kernel_rfl) ?_
          repeat (first | go_big_quiet_step (fail) | quiet_step (fail))
          refine wpQuiet_nil ?_
          intro _ hw'
          obtain ⟨uq, hw''⟩ := hw'
          subst hw''
          go_wp2_with fail
          go_meet
          case rel => exact ⟨rfl, via_below _ _⟩
    case rest =>
      obtain ⟨rfl, b3⟩ := hcut
      have h5 := h3.below b3
      have x5 := x3.below b3
      clear hfb hba hli
      clear h3 x3 b3 h4 e0 c0 c1 c2 c3
      cases bd with
      | true =>
        go_wp2_with fail
        go_ret
        exact ⟨rfl, h5.right, x5⟩
      | false =>
        obtain ⟨A', c', h6⟩ := bookAt_open h5.p2
        have e0 := h6.cell 0
        have ef := h6.free 0
        have el := h6.lt
        obtain ⟨c0, c1, c2, c3⟩ := h5.cells4
        have cl := h5.lt
        have h7 : Has ((wc.alloc (.cells #[(Value.int .i64) m.page, (Value.int .i64) m.size, (Value.int .i64) m.frame, (Value.int .i64) m.rights] 24)).drew) (mrow (.slice A' l.length c') l * (blk wc.heap.size #[(Value.int .i64) m.page, (Value.int .i64) m.size, (Value.int .i64) m.frame, (Value.int .i64) m.rights] 24 * (blk p #[.slice A' l.length c'] 133 * (blk w.heap.size #[(Value.int .i64) m.page, (Value.int .i64) m.size, (Value.int .i64) m.frame, (Value.int .i64) m.rights] 24 * R)))) := (h6.new #[(Value.int .i64) m.page, (Value.int .i64) m.size, (Value.int .i64) m.frame, (Value.int .i64) m.rights] 24).drew.eq (by (simp only [star_assoc, star_left_comm, star_comm]))
        have x7 : Ext w ((wc.alloc (.cells #[(Value.int .i64) m.page, (Value.int .i64) m.size, (Value.int .i64) m.frame, (Value.int .i64) m.rights] 24)).drew) := (x5.alloc _).drew
        have HI := Lib.hid (insert_mp l m l.length c' wc.heap.size i A' _ _ (by omega) hil h7)
        clear h5 h6 x5 h7
        generalize l.take i ++ m :: l.drop i = l' at *
        go_wp2_with fail
        go_region_law (go_simp; go_at_call 81; refine HI.out.mono ?_; rintro e w6 ⟨A2, c2, rfl, h8, x8⟩; have k0 := h8.right.cell 0; have kf := h8.right.free 0; have kl := h8.right.lt)
        all_goals
          go_wp2_with fail
          go_ret
          exact ⟨rfl, bookAt_shut (h8.p2.set 0 (.slice A2 l'.length c2)).drop3, (x7.trans x8).set _ _⟩
  · have hn : (check m != 0) = true := by simpa using hc
    obtain ⟨hy1, hy2⟩ := Bk.addC_check (l := l) hc
    rw [hy1, hy2]
    clear hy1 hy2 hc
    generalize check m = c at *
    go_enter Try.func35, Try.ntmps35
    go_wp2_with (refine (HC _).mono ?_; rintro e w2 ⟨rfl, b2⟩)
    go_ret
    exact ⟨rfl, (H1.below b2).right, x1.below b2⟩
theorem mrow_rights {w : World} {R : HProp} {g c : Nat} {l : List Mp} (i : Nat) (r : Int) (h : Has w (mrow (.slice (some ⟨g, 0, none⟩) l.length c) l * R)) (hi : i < l.length) :
    Has (w.setCell ⟨g, i * 4 + 3, none⟩ ((Value.int .i64) r)) (mrow (.slice (some ⟨g, 0, none⟩) l.length c) (l.take i ++ { l[i] with rights := r } :: l.drop (i + 1)) * R) := by
  have h1 := Has.rowSet (e := 24) (size := 4) h (i := i * 4 + 3) (by omega) ((Value.int .i64) r)
  have hz : (l.take i ++ { l[i] with rights := r } :: l.drop (i + 1)).length = l.length := by simp; omega
  have he : (mcells l).set (i * 4 + 3) ((Value.int .i64) r) = mcells (l.take i ++ { l[i] with rights := r } :: l.drop (i + 1)) := by
    have hs : l = l.take i ++ l[i] :: l.drop (i + 1) := by rw [← List.drop_eq_getElem_cons hi, List.take_append_drop]
    have e1 : mcells l = mcells (l.take i) ++ (l[i].cells ++ mcells (l.drop (i + 1))) := by
      conv => lhs; rw [hs]
      rw [mcells_append]; rfl
    have e2 : (mcells (l.take i)).length = i * 4 := by rw [mcells_len, List.length_take]; omega
    rw [e1, mcells_append, List.set_append_right _ _ (by omega), e2, show i * 4 + 3 - i * 4 = 3 by omega]
    rfl
  unfold mrow
  rw [hz, ← he]
  exact h1
end Go.Proofs.Ytegkimecdonfgaa
