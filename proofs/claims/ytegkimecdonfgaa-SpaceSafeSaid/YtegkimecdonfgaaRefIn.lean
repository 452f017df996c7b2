/- Contract of wayleaveref.In. -/
import Derived.Test.YtegkimecdonfgaaSep
import Derived.Test.YtegkimecdonfgaaTblM3
import Derived.Lib.Hide
import Derived.WalkSpells
import Derived.Outline
import Derived.Test.YtegkimecdonfgaaSpcA
import Derived.Test.YtegkimecdonfgaaMpRow
import Derived.Test.YtegkimecdonfgaaWkr4
import Derived.Deep.DeepCutAuto
import Derived.Deep.CutBlock
import Derived.Test.YtegkimecdonfgaaScE
namespace Go.Proofs.Ytegkimecdonfgaa
open Go.RowKit
set_option maxRecDepth 100000
def inB (l : List Int) (q : Int) : Bool := l.any (· == q)
theorem inB_take {l : List Int} {k : Nat} {q : Int} (hk : k < l.length) (h : inB (l.take k) q = false) : inB (l.take (k + 1)) q = (l[k] == q) := by
  unfold inB at *
  rw [List.take_succ_eq_append_getElem hk, List.any_append, h]
  simp
theorem inB_yes {l : List Int} {k : Nat} {q : Int} (hk : k < l.length) (h : (l[k] == q) = true) : inB l q = true := by
  unfold inB
  exact List.any_eq_true.2 ⟨l[k], List.getElem_mem hk, h⟩
theorem in_any (A : Option Addr) (n c : Nat) (l : List Int) (q : Int) (w : World) (h : Rd w A n (l.map (Value.int .i64))) :
    Calls Try.prog 43 #[.slice A n c, .int .i64 q] w (Same (Value.bool (inB l q)) w) := by
  have hn : l.length = n := by simpa using h.1
  have hm := h.2.1
  have hnn := Lib.hid hn
  go_enter Try.func43, Try.ntmps43
  go_wp2
  go_loop [5, 6, 7, 8, 9, 10, 11, 12, 13, 14, 15, 16, 17] (fun t _ _ _ _ _ _ _ _ _ _ _ _ => ∃ k : Nat, k ≤ n ∧ t = (Value.int .i64) k ∧ inB (l.take k) q = false) (fun t _ _ _ _ _ _ _ _ _ _ _ _ => n - (intOf t).toNat)
  case atStart => exact ⟨0, Nat.zero_le _, rfl, rfl⟩
  case round =>
    obtain ⟨k, hk, rfl, hno⟩ := hrel
    by_cases hlt : k < n
    · have hkl : k < l.length := by omega
      obtain ⟨b, off, rfl, hb, hc⟩ := h.at_ (j := k) (u := (Value.int .i64) l[k]) (by simp [hkl])
      have ht := Lib.hid (inB_take (q := q) hkl hno)
      have hno' := Lib.hid hno
      clear hno hn h
      cases hq : (l[k] == q) with
      | true =>
        have hy := Lib.hid (inB_yes hkl hq)
        go_wp2
        go_ret
        exact ⟨by rw [hy.out]; rfl, rfl⟩
      | false =>
        go_wp2
        go_round
        case rel => exact ⟨k + 1, by omega, by go_num, by rw [ht.out, hq]⟩
        case measure => simp [intOf]; omega
    · obtain rfl : k = n := by omega
      have hall := Lib.hid (show inB l q = false by rw [← hno, List.take_of_length_le (by omega)])
      clear hno h hn
      go_wp2
      go_ret
      exact ⟨by rw [hall.out]; rfl, rfl⟩
end Go.Proofs.Ytegkimecdonfgaa
namespace Go.Proofs.Ytegkimecdonfgaa
open Go.RowKit
set_option maxRecDepth 100000
theorem in_irow (A : Option Addr) (n c : Nat) (l : List Int) (q : Int) (R : HProp) (w : World) (h : Has w (irow (.slice A n c) l * R)) :
    Calls Try.prog 43 #[.slice A n c, .int .i64 q] w (Same (Value.bool (inB l q)) w) := by
  have := irow_take h l.length (Nat.le_refl _)
  rw [List.take_length] at this
  have hn := irow_len h
  rw [← hn] at this
  exact in_any A n c l q w this
theorem addK_in {l : List Int} {q : Int} : addK l q = if inB l q = true then l else l ++ [q] := by
  unfold addK inB
  simp
theorem seenL_few (l : List Mp) : ∀ s : List Int, (l.foldl seenM s).length ≤ s.length + l.length * 3 ∨ ∃ m ∈ l, m.size < 0 := by
  induction l with
  | nil => intro s; exact .inl (by simp)
  | cons m l ih =>
    intro s
    by_cases hm : m.size < 0
    · exact .inr ⟨m, List.mem_cons_self .., hm⟩
    · have hd : ∀ n, (keysDown m.page n s).length ≤ s.length + n := by
        intro n
        induction n with
        | zero => exact Nat.le_refl _
        | succ n ihn =>
          show (addK _ _).length ≤ _
          unfold addK
          split
          · omega
          · rw [List.length_append, List.length_singleton]; omega
      have h1 : (seenM s m).length ≤ s.length + 3 := by
        have := hd (3 - m.size).toNat
        unfold seenM
        omega
      rcases ih (seenM s m) with h | ⟨x, hx, h⟩
      · left
        rw [List.foldl_cons, List.length_cons]
        omega
      · exact .inr ⟨x, List.mem_cons_of_mem _ hx, h⟩
theorem few12 {l : List Mp} (h : Bk.Ok l) : (seenL l).length ≤ 12288 := by
  have hsm := h.le
  rcases seenL_few l [] with h1 | ⟨m, hm, h1⟩
  · have e : (seenL l).length = (l.foldl seenM []).length := rfl
    rw [e]
    simp at h1
    omega
  · have := h.chk m hm
    rcases this.size with ⟨a, _⟩ | ⟨a, _⟩ | ⟨a, _⟩ <;> omega
theorem down_len (p : Int) (s : List Int) : ∀ n, (keysDown p n s).length ≤ s.length + n := by
  intro n
  induction n with
  | zero => exact Nat.le_refl _
  | succ n ihn =>
    show (addK _ _).length ≤ _
    unfold addK
    split
    · omega
    · rw [List.length_append, List.length_singleton]; omega
theorem wrap64_in {x : Int} (h0 : -9223372036854775808 ≤ x) (h1 : x ≤ 9223372036854775807) : wrap64 x = x := by
  unfold wrap64
  omega
set_option maxHeartbeats 4000000 in
theorem neededR (l : List Mp) (A : Option Addr) (n c : Nat) (hl : Bk.Ok l) (R : HProp) (w : World) (h : Has w (mrow (.slice A n c) l * R)) :
    Calls Try.prog 41 #[.slice A n c] w (Pure ((Value.int .i64) ((seenL l).length + 1 : Nat)) w) := by
  obtain rfl := mrow_len h
  have hsm := hl.le
  have HM := Lib.hid (fun k (hk : k < l.length) => mrow_at h hk)
  have HO := Lib.hid hl
  have h0 : Has w (irow (.slice none 0 0) (seenL (l.take 0)) * old w w.heap.size) := Has.rowNil (e := 3) (size := 1) (has_old w)
  have x0 := Ext.refl w
  clear h hl
  go_enter Try.func41, Try.ntmps41
  go_wp2_with fail
  go_loopw [3, 4] (fun s3 s4 wr => ∃ (i : Nat) (B : Option Addr) (n' c' : Nat), i ≤ l.length ∧ s4 = (Value.int .i64) i ∧ s3 = .slice B n' c' ∧ Has wr (irow (.slice B n' c') (seenL (l.take i)) * old w w.heap.size) ∧ Ext w wr) (fun _ t _ => l.length - (intOf t).toNat)
  case atStart => exact ⟨0, none, 0, 0, by omega, rfl, rfl, h0, x0⟩
  case round =>
    clear h0 x0
    obtain ⟨i, B, n', c', hi, rfl, rfl, hr, hx⟩ := hrel
    by_cases hlt : i < l.length
    · obtain ⟨b, hb, hbl, m0, m1, _, _⟩ := HM.out i hlt
      have hok := HO.out.chk _ (List.getElem_mem hlt)
      have est : seenL (l.take (i + 1)) = keysDown l[i].page (3 - l[i].size).toNat (seenL (l.take i)) := by
        rw [List.take_succ_eq_append_getElem hlt, seenL_snoc]; rfl
      have hp0 := hok.inP.1
      have hp1 := hok.inP.2
      have hz : l[i].size = 0 ∨ l[i].size = 1 ∨ l[i].size = 2 := by rcases hok.size with ⟨a, _⟩ | ⟨a, _⟩ | ⟨a, _⟩ <;> omega
      generalize l[i].page = p at *
      generalize l[i].size = z at *
      subst hb
      have HE := Lib.hid est
      have HC := Lib.hid (And.intro hbl (And.intro m0 m1))
      clear est hok m0 m1 hbl
      have hsn : (seenL (l.take i)).length ≤ 12288 := few12 (HO.out.sub (List.take_sublist _ _)) 
      generalize seenL (l.take i) = sn at *
      have HF := Lib.hid (fun (j : Nat) (hj : j ≤ 2) => (show (keysDown p j sn).length ≤ 12290 from Nat.le_trans (down_len p sn j) (by omega)))
      clear hsn
      have HCC := Lib.hid (fun (w' : World) (P : HProp) (h : Has w' (P * old w w.heap.size)) => (⟨(Has.swap h).oldCell' HC.out.2.1, (Has.swap h).oldCell' HC.out.2.2⟩ : w'.cell? ⟨b, i * 4, none⟩ = some ((Value.int .i64) p) ∧ w'.cell? ⟨b, i * 4 + 1, none⟩ = some ((Value.int .i64) z)))
      obtain ⟨m0, m1⟩ := HCC.out _ _ hr
      have hbl : b < wr.heap.size := Nat.lt_of_lt_of_le HC.out.1 hx.size
      go_wp2_with fail
      go_loopw [3, 6] (fun s3 s6 wz => ∃ (j : Nat) (B : Option Addr) (n' c' : Nat), j ≤ (3 - z).toNat ∧ s6 = (Value.int .i64) (3 - (j : Int)) ∧ s3 = .slice B n' c' ∧ Has wz (irow (.slice B n' c') (keysDown p j sn) * old w w.heap.size) ∧ Ext w wz) (fun _ t _ => 3 - (3 - (intOf t)).toNat)
      case atStart => exact ⟨0, B, n', c', by omega, rfl, rfl, hr, hx⟩
      case round =>
        clear hr hx m0 m1 hbl
        obtain ⟨j, B, n', c', hj, rfl, rfl, hr, hx⟩ := hrel
        obtain ⟨m0, m1⟩ := HCC.out _ _ hr
        have hbl : b < wr.heap.size := Nat.lt_of_lt_of_le HC.out.1 hx.size
        by_cases hjl : j < (3 - z).toNat
        · have hgt : z < 3 - (j : Int) := by omega
          have hj3 : j = 0 ∨ j = 1 ∨ j = 2 := by omega
          rcases hj3 with rfl | rfl | rfl
          · skip
            have hgt' : z < 3 := by omega
            clear hgt hjl hj hz
            go_wp2_with fail
            go_loopw [7, 8] (fun s7 s8 wz => ∃ (k : Nat), k ≤ 3 ∧ s7 = (Value.int .i64) (pow8 k) ∧ s8 = (Value.int .i64) k ∧ wz = wr) (fun _ t _ => 3 - (intOf t).toNat)
            case atStart => exact ⟨0, by omega, rfl, rfl, rfl⟩
            case round =>
              obtain ⟨k, hk, rfl, rfl, hwz⟩ := hrel
              subst hwz
              by_cases hkl : k < 3
              · have hp8 : IntKind.i64.wrap (pow8 k * 8) = pow8 (k + 1) := by
                  have : k = 0 ∨ k = 1 ∨ k = 2 := by omega
                  rcases this with rfl | rfl | rfl <;> rfl
                obtain ⟨q1, hq1⟩ : ∃ q1, pow8 (k + 1) = q1 := ⟨_, rfl⟩
                have Q1 := Lib.hid (show (Value.int .i64) q1 = (Value.int .i64) (pow8 (k + 1)) by rw [hq1])
                rw [hq1] at hp8
                clear hq1
                generalize pow8 k = q0 at hp8 ⊢
                go_wp2_with fail
                go_roundw
                case rel => exact ⟨k + 1, by omega, Q1.out, by go_num, trivial⟩
                case measure => simp [intOf]; omega
              · obtain rfl : k = 3 := by omega
                go_upto_region 15 with fail
                have hkey : wrap64 (wrap64 (wrap64 (p.tdiv (pow8 3)) * 4) + 3) = keyAt p 3 := by
                  unfold keyAt
                  rw [Int.tdiv_eq_ediv_of_nonneg hp0]
                  have e : pow8 3 = 512 := rfl
                  rw [e]
                  have h1 : wrap64 (p / 512) = p / 512 := wrap64_in (by omega) (by omega)
                  have h2 : wrap64 (p / 512 * 4) = p / 512 * 4 := wrap64_in (by omega) (by omega)
                  have h3 : wrap64 (p / 512 * 4 + 3) = p / 512 * 4 + 3 := wrap64_in (by omega) (by omega)
                  rw [h1, h2, h3]
                  rfl
                rw [hkey]
                have hD : keysDown p (0 + 1) sn = addK (keysDown p 0 sn) (keyAt p 3) := rfl
                rw [addK_in] at hD
                have HD := Lib.hid hD
                clear hkey hD
                have HIN := Lib.hid (fun R w h => in_irow B n' c' (keysDown p 0 sn) (keyAt p 3) R w h)
                have HLN := Lib.hid (And.intro (irow_len hr) (irow_cap hr))
                have hfew : (keysDown p 0 sn).length ≤ 12290 := HF.out 0 (by omega)
                generalize keyAt p 3 = ky at *
                generalize keysDown p 0 sn = L0 at *
                cases hib : inB L0 ky with
                | true =>
                  rw [hib] at HIN HD
                  have hD := HD.out
                  rw [if_pos rfl] at hD
                  have HD' := Lib.hid hD
                  clear hib hD HD
                  go_wp2_with fail
                  refine (HIN.out _ _ hr).mono ?_; rintro e w5 ⟨rfl, rfl⟩
                  go_wp2_with fail
                  go_roundw
                  case rel => exact ⟨0 + 1, B, n', c', by omega, by first | rfl | (simp; done) | go_num, rfl, by rw [HD'.out]; exact hr, hx⟩
                  case measure => first | (simp [intOf]; done) | (simp [intOf]; omega)
                | false =>
                  rw [hib] at HIN HD
                  have hD := HD.out
                  rw [if_neg (by simp)] at hD
                  have HD' := Lib.hid hD
                  clear hib hD HD
                  go_wp2_with fail
                  refine (HIN.out _ _ hr).mono ?_; rintro e w5 ⟨rfl, hwz⟩
                  subst hwz
                  have hrow := (hr.eq (show _ = row 3 1 (.slice B n' c') L0.length (L0.map (Value.int .i64)) * old w w.heap.size from rfl)).alloc (.cells #[(Value.int .i64) ky] 3)
                  go_wp2_with (first | (at_builtin; refine wpList_append_has rfl _ _ 36 rfl Try.underlying36 elemI _ _ _ rfl hrow ⟨_, 0, none⟩ 1 1 [(Value.int .i64) ky] rfl rfl (news_one _ ((Value.int .i64) ky) 3) ?c1 ?c2 ?c3 ?_))
                  case c1 => intro u hu; simp at hu; subst hu; rfl
                  case c2 => have := HLN.out; unfold maxLen at *; omega
                  case c3 => have := HLN.out; omega
                  intro v' w10 h10 x10
                  obtain ⟨G', gc', rfl⟩ := h10.rowForm
                  go_wp2_with fail
                  go_roundw
                  case rel => exact ⟨0 + 1, G', _, gc', by omega, by first | rfl | (simp; done) | go_num, rfl, by rw [HD'.out]; unfold irow; simp only [List.length_append, List.length_singleton, List.map_append, List.map_cons, List.map_nil]; exact h10, (hx.alloc _).trans x10⟩
                  case measure => first | (simp [intOf]; done) | (simp [intOf]; omega)
          · skip
            have hgt' : z < 2 := by omega
            clear hgt hjl hj hz
            go_wp2_with fail
            go_loopw [7, 8] (fun s7 s8 wz => ∃ (k : Nat), k ≤ 2 ∧ s7 = (Value.int .i64) (pow8 k) ∧ s8 = (Value.int .i64) k ∧ wz = wr) (fun _ t _ => 2 - (intOf t).toNat)
            case atStart => exact ⟨0, by omega, rfl, rfl, rfl⟩
            case round =>
              obtain ⟨k, hk, rfl, rfl, hwz⟩ := hrel
              subst hwz
              by_cases hkl : k < 2
              · have hp8 : IntKind.i64.wrap (pow8 k * 8) = pow8 (k + 1) := by
                  have : k = 0 ∨ k = 1 ∨ k = 2 := by omega
                  rcases this with rfl | rfl | rfl <;> rfl
                obtain ⟨q1, hq1⟩ : ∃ q1, pow8 (k + 1) = q1 := ⟨_, rfl⟩
                have Q1 := Lib.hid (show (Value.int .i64) q1 = (Value.int .i64) (pow8 (k + 1)) by rw [hq1])
                rw [hq1] at hp8
                clear hq1
                generalize pow8 k = q0 at hp8 ⊢
                go_wp2_with fail
                go_roundw
                case rel => exact ⟨k + 1, by omega, Q1.out, by go_num, trivial⟩
                case measure => simp [intOf]; omega
              · obtain rfl : k = 2 := by omega
                go_upto_region 15 with fail
                have hkey : wrap64 (wrap64 (wrap64 (p.tdiv (pow8 2)) * 4) + 2) = keyAt p 2 := by
                  unfold keyAt
                  rw [Int.tdiv_eq_ediv_of_nonneg hp0]
                  have e : pow8 2 = 64 := rfl
                  rw [e]
                  have h1 : wrap64 (p / 64) = p / 64 := wrap64_in (by omega) (by omega)
                  have h2 : wrap64 (p / 64 * 4) = p / 64 * 4 := wrap64_in (by omega) (by omega)
                  have h3 : wrap64 (p / 64 * 4 + 2) = p / 64 * 4 + 2 := wrap64_in (by omega) (by omega)
                  rw [h1, h2, h3]
                  rfl
                rw [hkey]
                have hD : keysDown p (1 + 1) sn = addK (keysDown p 1 sn) (keyAt p 2) := rfl
                rw [addK_in] at hD
                have HD := Lib.hid hD
                clear hkey hD
                have HIN := Lib.hid (fun R w h => in_irow B n' c' (keysDown p 1 sn) (keyAt p 2) R w h)
                have HLN := Lib.hid (And.intro (irow_len hr) (irow_cap hr))
                have hfew : (keysDown p 1 sn).length ≤ 12290 := HF.out 1 (by omega)
                generalize keyAt p 2 = ky at *
                generalize keysDown p 1 sn = L0 at *
                cases hib : inB L0 ky with
                | true =>
                  rw [hib] at HIN HD
                  have hD := HD.out
                  rw [if_pos rfl] at hD
                  have HD' := Lib.hid hD
                  clear hib hD HD
                  go_wp2_with fail
                  refine (HIN.out _ _ hr).mono ?_; rintro e w5 ⟨rfl, rfl⟩
                  go_wp2_with fail
                  go_roundw
                  case rel => exact ⟨1 + 1, B, n', c', by omega, by first | rfl | (simp; done) | go_num, rfl, by rw [HD'.out]; exact hr, hx⟩
                  case measure => first | (simp [intOf]; done) | (simp [intOf]; omega)
                | false =>
                  rw [hib] at HIN HD
                  have hD := HD.out
                  rw [if_neg (by simp)] at hD
                  have HD' := Lib.hid hD
                  clear hib hD HD
                  go_wp2_with fail
                  refine (HIN.out _ _ hr).mono ?_; rintro e w5 ⟨rfl, hwz⟩
                  subst hwz
                  have hrow := (hr.eq (show _ = row 3 1 (.slice B n' c') L0.length (L0.map (Value.int .i64)) * old w w.heap.size from rfl)).alloc (.cells #[(Value.int .i64) ky] 3)
                  go_wp2_with (first | (at_builtin; refine wpList_append_has rfl _ _ 36 rfl Try.underlying36 elemI _ _ _ rfl hrow ⟨_, 0, none⟩ 1 1 [(Value.int .i64) ky] rfl rfl (news_one _ ((Value.int .i64) ky) 3) ?c1 ?c2 ?c3 ?_))
                  case c1 => intro u hu; simp at hu; subst hu; rfl
                  case c2 => have := HLN.out; unfold maxLen at *; omega
                  case c3 => have := HLN.out; omega
                  intro v' w10 h10 x10
                  obtain ⟨G', gc', rfl⟩ := h10.rowForm
                  go_wp2_with fail
                  go_roundw
                  case rel => exact ⟨1 + 1, G', _, gc', by omega, by first | rfl | (simp; done) | go_num, rfl, by rw [HD'.out]; unfold irow; simp only [List.length_append, List.length_singleton, List.map_append, List.map_cons, List.map_nil]; exact h10, (hx.alloc _).trans x10⟩
                  case measure => first | (simp [intOf]; done) | (simp [intOf]; omega)
          · skip
            have hgt' : z < 1 := by omega
            clear hgt hjl hj hz
            go_wp2_with fail
            go_loopw [7, 8] (fun s7 s8 wz => ∃ (k : Nat), k ≤ 1 ∧ s7 = (Value.int .i64) (pow8 k) ∧ s8 = (Value.int .i64) k ∧ wz = wr) (fun _ t _ => 1 - (intOf t).toNat)
            case atStart => exact ⟨0, by omega, rfl, rfl, rfl⟩
            case round =>
              obtain ⟨k, hk, rfl, rfl, hwz⟩ := hrel
              subst hwz
              by_cases hkl : k < 1
              · have hp8 : IntKind.i64.wrap (pow8 k * 8) = pow8 (k + 1) := by
                  have : k = 0 ∨ k = 1 ∨ k = 2 := by omega
                  rcases this with rfl | rfl | rfl <;> rfl
                obtain ⟨q1, hq1⟩ : ∃ q1, pow8 (k + 1) = q1 := ⟨_, rfl⟩
                have Q1 := Lib.hid (show (Value.int .i64) q1 = (Value.int .i64) (pow8 (k + 1)) by rw [hq1])
                rw [hq1] at hp8
                clear hq1
                generalize pow8 k = q0 at hp8 ⊢
                go_wp2_with fail
                go_roundw
                case rel => exact ⟨k + 1, by omega, Q1.out, by go_num, trivial⟩
                case measure => simp [intOf]; omega
              · obtain rfl : k = 1 := by omega
                go_upto_region 15 with fail
                have hkey : wrap64 (wrap64 (wrap64 (p.tdiv (pow8 1)) * 4) + 1) = keyAt p 1 := by
                  unfold keyAt
                  rw [Int.tdiv_eq_ediv_of_nonneg hp0]
                  have e : pow8 1 = 8 := rfl
                  rw [e]
                  have h1 : wrap64 (p / 8) = p / 8 := wrap64_in (by omega) (by omega)
                  have h2 : wrap64 (p / 8 * 4) = p / 8 * 4 := wrap64_in (by omega) (by omega)
                  have h3 : wrap64 (p / 8 * 4 + 1) = p / 8 * 4 + 1 := wrap64_in (by omega) (by omega)
                  rw [h1, h2, h3]
                  rfl
                rw [hkey]
                have hD : keysDown p (2 + 1) sn = addK (keysDown p 2 sn) (keyAt p 1) := rfl
                rw [addK_in] at hD
                have HD := Lib.hid hD
                clear hkey hD
                have HIN := Lib.hid (fun R w h => in_irow B n' c' (keysDown p 2 sn) (keyAt p 1) R w h)
                have HLN := Lib.hid (And.intro (irow_len hr) (irow_cap hr))
                have hfew : (keysDown p 2 sn).length ≤ 12290 := HF.out 2 (by omega)
                generalize keyAt p 1 = ky at *
                generalize keysDown p 2 sn = L0 at *
                cases hib : inB L0 ky with
                | true =>
                  rw [hib] at HIN HD
                  have hD := HD.out
                  rw [if_pos rfl] at hD
                  have HD' := Lib.hid hD
                  clear hib hD HD
                  go_wp2_with fail
                  refine (HIN.out _ _ hr).mono ?_; rintro e w5 ⟨rfl, rfl⟩
                  go_wp2_with fail
                  go_roundw
                  case rel => exact ⟨2 + 1, B, n', c', by omega, by first | rfl | (simp; done) | go_num, rfl, by rw [HD'.out]; exact hr, hx⟩
                  case measure => first | (simp [intOf]; done) | (simp [intOf]; omega)
                | false =>
                  rw [hib] at HIN HD
                  have hD := HD.out
                  rw [if_neg (by simp)] at hD
                  have HD' := Lib.hid hD
                  clear hib hD HD
                  go_wp2_with fail
                  refine (HIN.out _ _ hr).mono ?_; rintro e w5 ⟨rfl, hwz⟩
                  subst hwz
                  have hrow := (hr.eq (show _ = row 3 1 (.slice B n' c') L0.length (L0.map (Value.int .i64)) * old w w.heap.size from rfl)).alloc (.cells #[(Value.int .i64) ky] 3)
                  go_wp2_with (first | (at_builtin; refine wpList_append_has rfl _ _ 36 rfl Try.underlying36 elemI _ _ _ rfl hrow ⟨_, 0, none⟩ 1 1 [(Value.int .i64) ky] rfl rfl (news_one _ ((Value.int .i64) ky) 3) ?c1 ?c2 ?c3 ?_))
                  case c1 => intro u hu; simp at hu; subst hu; rfl
                  case c2 => have := HLN.out; unfold maxLen at *; omega
                  case c3 => have := HLN.out; omega
                  intro v' w10 h10 x10
                  obtain ⟨G', gc', rfl⟩ := h10.rowForm
                  go_wp2_with fail
                  go_roundw
                  case rel => exact ⟨2 + 1, G', _, gc', by omega, by first | rfl | (simp; done) | go_num, rfl, by rw [HD'.out]; unfold irow; simp only [List.length_append, List.length_singleton, List.map_append, List.map_cons, List.map_nil]; exact h10, (hx.alloc _).trans x10⟩
                  case measure => first | (simp [intOf]; done) | (simp [intOf]; omega)
        · obtain rfl : j = (3 - z).toNat := by omega
          have hgt : ¬ z < 3 - (((3 - z).toNat : Nat) : Int) := by omega
          go_wp2_with fail
          go_roundw
          case rel => exact ⟨i + 1, B, n', c', by omega, by go_num, rfl, by rw [HE.out]; exact hr, hx⟩
          case measure => simp [intOf]; omega
    · obtain rfl : i = l.length := by omega
      rw [List.take_length] at hr
      have hn := irow_len hr
      have hcap := irow_cap hr
      have hlen := few12 HO.out
      generalize (seenL l).length = k at *
      subst hn
      go_wp2_with fail
      go_ret
      exact ⟨by simp, below_of1 hr.right hx⟩
end Go.Proofs.Ytegkimecdonfgaa
namespace Go.Proofs.Ytegkimecdonfgaa
open Go.RowKit
set_option maxRecDepth 100000
theorem nodup_inS {l : List Int} (h : l.Nodup) {k : Nat} (hk : k < l.length) : inB (l.take k) l[k] = false := by
  cases hb : inB (l.take k) l[k] with
  | false => rfl
  | true =>
    unfold inB at hb
    obtain ⟨x, hx, he⟩ := List.any_eq_true.1 hb
    obtain ⟨j, hj, hje⟩ := List.getElem_of_mem hx
    rw [List.getElem_take] at hje
    rw [List.length_take] at hj
    have := (List.pairwise_iff_getElem.1 h) j k (by omega) hk (by omega)
    have he : x = l[k] := by simpa using he
    rw [← hje] at he
    exact absurd he this
set_option maxHeartbeats 8000000 in
theorem spaceSafe_walk (C N : Int) (B : Option Addr) (m d : Nat) (L : List Stp) (w : World) (_ : i64 C) (_ : i64 N) (h2 : Arr w B m 9 (L.map Stp.cells)) (hLo : ∀ x ∈ L, x.ok) :
    Calls Try.prog 8 #[(Value.int .i64) C, (Value.int .i64) N, .slice B m d] w (Pure (Value.bool true) w) := by
  have hm2 := h2.2.1
  have hB := Lib.hid h2
  have hL := Lib.hid (show L.length = m by simpa using h2.1)
  have hLO := Lib.hid hLo
  clear h2 hLo
  have h0 := has_old w
  have x0 := Ext.refl w
  have HB := Lib.hid (fun w => spaceBegun_any w)
  have HG := Lib.hid (fun w => greatSteps_any B m d 300 w)
  by_cases hbig : (300 : Int) < m
  · rw [decide_eq_true hbig] at HG
    go_enter Try.func8, Try.ntmps8
    go_wp2_with fail
    refine (HB.out _).mono ?_; rintro e w1 ⟨rfl, hb⟩
    go_wp2_with fail
    refine (HG.out _).mono ?_; rintro e w2 ⟨rfl, hw⟩
    subst hw
    go_wp2_with fail
    go_ret
    exact ⟨rfl, below_of1 (h0.below hb) (x0.below hb)⟩
  rw [decide_eq_false hbig] at HG
  by_cases hbad : C < 1 ∨ 4 < C ∨ N < 1 ∨ 128 < N
  · have HN := Lib.hid (fun w => newS_no C N hbad w)
    clear hbad
    go_enter Try.func8, Try.ntmps8
    go_wp2_with fail
    refine (HB.out _).mono ?_; rintro e w1 ⟨rfl, hb⟩
    go_wp2_with fail
    refine (HG.out _).mono ?_; rintro e w2 ⟨rfl, hw⟩
    subst hw
    have h1 := h0.below hb
    have x1 := x0.below hb
    clear h0 x0 hb
    go_wp2_with fail
    refine (HN.out _).mono ?_; rintro e w3 ⟨rfl, hb⟩
    have h3 := (h1.below hb).new #[(Value.int .i64) 1, (Value.int .i64) (-1)] 83
    have x3 := (x1.below hb).alloc (.cells #[(Value.int .i64) 1, (Value.int .i64) (-1)] 83)
    have c0 := h3.cell 0
    have cl := h3.lt
    go_wp2_with fail
    go_ret
    exact ⟨rfl, below_of1 h3.right x3⟩
  obtain ⟨K, rfl⟩ := Int.eq_ofNat_of_zero_le (show 0 ≤ C by omega)
  obtain ⟨n, rfl⟩ := Int.eq_ofNat_of_zero_le (show 0 ≤ N by omega)
  have HN := Lib.hid (fun R w h => newS K n (by omega) (by omega) (by omega) (by omega) R w h)
  have HS0 := Lib.hid (Safe.new (cores := K) (n := n) (by omega) (by omega) (by omega) (by omega))
  have hn128 : n ≤ 128 := by omega
  clear hbad hbig
  go_enter Try.func8, Try.ntmps8
  go_wp2_with fail
  refine (HB.out _).mono ?_; rintro e w1 ⟨rfl, hb⟩
  have h1 := h0.below hb
  have x1 := x0.below hb
  clear h0 x0 hb HB
  go_wp2_with fail
  refine (HG.out _).mono ?_; rintro e w2 ⟨rfl, hw⟩
  subst hw
  clear HG
  go_wp2_with fail
  refine (HN.out _ _ h1).mono ?_; rintro e w3 ⟨p, rfl, h3, x3⟩
  have h4 : Has _ (spaceAt p (Sc.new K n) * (blk w3.heap.size #[(Value.int .i64) 0, (Value.int .i64) 0] 83 * old w w.heap.size)) := (h3.new #[(Value.int .i64) 0, (Value.int .i64) 0] 83).eq (by ac_rfl)
  have x4 := (x1.trans x3).alloc (.cells #[(Value.int .i64) 0, (Value.int .i64) 0] 83)
  have c0 := h4.right.cell 0
  have cl := h4.right.lt
  clear h1 x1 h3 x3 HN
  go_wp2_with fail
  generalize w3.alloc (.cells #[(Value.int .i64) 0, (Value.int .i64) 0] 83) = w4 at *
  generalize w3.heap.size = X at *
  clear c0 cl
  generalize Sc.new K n = σ0 at *
  go_loopw [9] (fun t wr => ∃ (i : Nat) (σ : Sc) (P : List Mp), i ≤ m ∧ t = (Value.int .i64) i ∧ Hid (Safe σ P ∧ σ.s.n = n ∧ σ.cs.length = K) ∧ Has wr (spaceAt p σ * (blk X #[(Value.int .i64) 0, (Value.int .i64) 0] 83 * old w w.heap.size)) ∧ Ext w wr) (fun t _ => m - (intOf t).toNat)
  case atStart => exact ⟨0, σ0, [], by omega, rfl, HS0, h4, x4⟩
  case round =>
    clear h4 x4 HS0
    obtain ⟨i, σ1, P1, hi, rfl, hS1, hr, hx⟩ := hrel
    by_cases hlt : i < m
    · have hil : i < L.length := by have := hL.out; omega
      obtain ⟨b', off, hb, -⟩ := (hB.out.old1 hr.right.right hx).stp hil
      subst hb
      obtain ⟨y, hy⟩ : ∃ y, L[i] = y := ⟨_, rfl⟩
      have hyo : y.ok := by rw [← hy]; exact hLO.out _ (List.getElem_mem hil)
      have HD := Lib.hid (fun (w' : World) (P Q : HProp) (h : Has w' (P * (Q * old w w.heap.size))) (e : Ext w w') => (hB.out.old1 h.right.right e).stpAt hil hy)
      clear hy
      obtain ⟨dl, d0, d1, d2, d3, d4, d5, d6, d7, d8⟩ := HD.out _ _ _ hr hx
      have HA := Lib.hid (fun R w h => doS p σ1 y hS1.out.1.ok hS1.out.1.calm hyo R w h)
      have HNF := Lib.hid (hS1.out.1.no_fault y)
      have HN2 := hS1.out.1.n_act y
      have HS2 : Hid (Safe (σ1.act y).1 (Safe.prevOf σ1 P1 y) ∧ (σ1.act y).1.s.n = n ∧ (σ1.act y).1.cs.length = K) := Lib.hid ⟨hS1.out.1.act y, HN2.1.trans hS1.out.2.1, HN2.2.trans hS1.out.2.2⟩
      unfold Ev.val at HA
      clear HN2 hS1
      generalize σ1.act y = q at *
      generalize Safe.prevOf σ1 P1 y = P2 at *
      obtain ⟨σ2, ⟨ec, ef, ⟨ea, eb, er⟩, ek⟩⟩ := q
      dsimp only at *
      go_wp2_with fail
      refine (HA.out _ _ hr).mono ?_; rintro e w5 ⟨rfl, h5, x5⟩
      have h6 : Has _ ((spaceAt p σ2 * blk w5.heap.size #[(Value.int .i64) ec, Value.bool ef, (Value.int .i64) ea, (Value.int .i64) eb, (Value.int .i64) er, Value.bool ek] 89) * (blk X #[(Value.int .i64) 0, (Value.int .i64) 0] 83 * old w w.heap.size)) := (h5.new #[(Value.int .i64) ec, Value.bool ef, (Value.int .i64) ea, (Value.int .i64) eb, (Value.int .i64) er, Value.bool ek] 89).eq (by ac_rfl)
      have x6 := (hx.trans x5).alloc (.cells #[(Value.int .i64) ec, Value.bool ef, (Value.int .i64) ea, (Value.int .i64) eb, (Value.int .i64) er, Value.bool ek] 89)
      clear dl d0 d1 d2 d3 d4 d5 d6 d7 d8 hr hx h5 x5 HA
      go_upto_region 12 with fail
      generalize w5.alloc (.cells #[(Value.int .i64) ec, Value.bool ef, (Value.int .i64) ea, (Value.int .i64) eb, (Value.int .i64) er, Value.bool ek] 89) = w6 at *
      generalize w5.heap.size = Y at *
      obtain ⟨dl, d0, -, -, -, -, -, -, -, -⟩ := HD.out _ _ _ h6 x6
      clear HD
      obtain ⟨yk, yc, ym, ya⟩ := y
      dsimp only at *
      have h7 : Has _ (blk Y #[(Value.int .i64) ec, Value.bool ef, (Value.int .i64) ea, (Value.int .i64) eb, (Value.int .i64) er, Value.bool ek] 89 * (spaceAt p σ2 * (blk X #[(Value.int .i64) 0, (Value.int .i64) 0] 83 * old w w.heap.size))) := h6.eq (by ac_rfl)
      have e0 := h7.cell 0
      have el := h7.lt
      have hec : (ec == 12) = false := by have := HNF.out.1; simpa using this
      go_cut [63] from 38 to 63 (fun s63 wx => s63 = Value.bool false ∧ wx = w6)
      case first =>
        by_cases o5 : yk = 5
        · subst o5
          rcases HNF.out.2 rfl with he | he | he
          · subst he
            go_wp2_with fail
            go_meet
            case rel => exact ⟨rfl, rfl⟩
          · subst he
            go_wp2_with fail
            go_meet
            case rel => exact ⟨rfl, rfl⟩
          · subst he
            go_wp2_with fail
            go_meet
            case rel => exact ⟨rfl, rfl⟩
        · go_wp2_with fail
          go_meet
          case rel => exact ⟨rfl, rfl⟩
      case rest =>
        obtain ⟨rfl, hwr⟩ := hcut
        replace hwr := hwr.symm
        subst hwr
        clear e0 el dl d0 hec HNF hyo h6
        have h8 := h7.right
        clear h7
        have HTs := Lib.hid (fun R w h => tablesS p σ2 HS2.out.1.wf R w h)
        have HLs := Lib.hid (fun R w h => listS p σ2 HS2.out.1.wf R w h)
        have HGn := Lib.hid (fun R w h => goneS p σ2 R w h)
        have HFr := Lib.hid (fun R w h => freeS p σ2 R w h)
        obtain ⟨a1, a2, a3⟩ := HS2.out.1.counts
        have HND := Lib.hid (fun A n c R w h => neededR (allM σ2.s 0) A n c HS2.out.1.lk.ok R w h)
        rw [← a2] at HND
        rw [HS2.out.2.1] at a1
        have HAL := Lib.hid a3
        clear a2 a3
        generalize (allT σ2.s 0) = TT at *
        generalize (allM σ2.s 0) = L2 at *
        generalize σ2.s.frees.length = nf at *
        generalize σ2.gone.length = ng at *
        go_wp2_with fail
        refine (HTs.out _ _ h8).mono ?_; rintro e w8 ⟨A, c, rfl, h9, x9⟩
        have x10 := x6.trans x9
        have h10 : Has w8 (spaceAt p σ2 * (irow (.slice A TT.length c) TT * (blk X #[(Value.int .i64) 0, (Value.int .i64) 0] 83 * old w w.heap.size))) := h9.eq (by ac_rfl)
        have hs6 := irow_small h9
        have hcap6 := irow_cap h9
        clear h8 x6 h9 x9 HTs
        go_wp2_with fail
        refine (HGn.out _ _ h10).mono ?_; rintro e w9 ⟨rfl, hw⟩
        subst hw
        go_wp2_with fail
        refine (HFr.out _ _ h10).mono ?_; rintro e w9 ⟨rfl, hw⟩
        subst hw
        clear HGn HFr
        have hsum : ((TT.length : Int) + ng + nf != (n : Int)) = false := by simp; omega
        go_wp2_with fail
        refine (HLs.out _ _ h10).mono ?_; rintro e w9 ⟨A1, c1, rfl, h11, x11⟩
        clear h10 HLs
        go_wp2_with fail
        refine (HND.out A1 _ c1 _ _ h11).mono ?_; rintro e w10 ⟨rfl, b10⟩
        have h12 : Has w10 (spaceAt p σ2 * (irow (.slice A TT.length c) TT * (mrow (.slice A1 L2.length c1) L2 * (blk X #[(Value.int .i64) 0, (Value.int .i64) 0] 83 * old w w.heap.size)))) := (h11.below b10).eq (by ac_rfl)
        have x12 := (x10.trans x11).below b10
        clear h11 x10 x11 b10 HND hsum a1
        go_wp2_with fail
        go_loopw [12] (fun t wz => ∃ (k : Nat), k ≤ TT.length ∧ t = (Value.int .i64) k ∧ Has wz (spaceAt p σ2 * (irow (.slice A TT.length c) TT * (mrow (.slice A1 L2.length c1) L2 * (blk X #[(Value.int .i64) 0, (Value.int .i64) 0] 83 * old w w.heap.size)))) ∧ Ext w wz) (fun t _ => TT.length - (intOf t).toNat)
        case atStart => exact ⟨0, by omega, rfl, h12, x12⟩
        case round =>
          clear h12 x12
          obtain ⟨k, hk, rfl, hz, hxz⟩ := hrel
          by_cases hkl : k < TT.length
          · obtain ⟨bG, hG, hbG, cG⟩ := irow_at hz.right (k := k) hkl
            subst hG
            have HIN := Lib.hid (fun w' (h : Has w' (spaceAt p σ2 * (irow (.slice (some ⟨bG, 0, none⟩) TT.length c) TT * (mrow (.slice A1 L2.length c1) L2 * (blk X #[(Value.int .i64) 0, (Value.int .i64) 0] 83 * old w w.heap.size))))) => in_any (some ⟨bG, 0, none⟩) k c (TT.take k) TT[k] w' (irow_take h.right k (by omega)))
            rw [nodup_inS HAL.out hkl] at HIN
            have vc := via_cell cG
            have hkc : (k : Int) ≤ c := by omega
            have hkc' : k ≤ c := by omega
            generalize TT[k] = v at *
            go_upto_region 20 with fail
            refine wp_region_via (by kernel_rfl) (by kernel_rfl) ?_
            repeat (first | go_big_quiet_step ((go_at_call 43; exact Same.via (HIN.out _ (hz.via _)))) | quiet_step ((go_at_call 43; exact Same.via (HIN.out _ (hz.via _)))))
            refine wpQuiet_nil ?_
            intro _ hw'
            obtain ⟨uq, hw''⟩ := hw'
            subst hw''
            have hz' := hz.via uq
            have xz' := hxz.below (via_below _ uq)
            clear hz hxz vc cG hbG
            go_wp2_with fail
            go_roundw
            case rel => exact ⟨k + 1, by omega, by go_num, hz', xz'⟩
            case measure => simp [intOf]; omega
          · obtain rfl : k = TT.length := by omega
            have hf := (hz.eq (show _ = irow (.slice A TT.length c) TT * (mrow (.slice A1 L2.length c1) L2 * (spaceAt p σ2 * (blk X #[(Value.int .i64) 0, (Value.int .i64) 0] 83 * old w w.heap.size))) by ac_rfl)).right.right
            go_wp2_with fail
            go_roundw
            case rel => exact ⟨i + 1, σ2, P2, by omega, by go_num, HS2, hf, hxz⟩
            case measure => simp [intOf]; omega
    · obtain rfl : i = m := by omega
      go_wp2_with fail
      go_ret
      exact ⟨rfl, below_of1 hr.right.right hx⟩
end Go.Proofs.Ytegkimecdonfgaa
