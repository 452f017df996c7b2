/- The memories that the laws on walks begin with: frames, of which some are taken, with words in them. -/
import Derived.Test.YtndhgomikpokpaaFrm
import Derived.Test.YtndhgomikpokpaaRows3
import Derived.Test.YtndhgomikpokpaaFrame
import Derived.Deep.RegionHeld3
import Derived.Deep.LoopGhost
import Derived.Deep.DeepCutAuto
import Derived.Deep.CutBlock
namespace Go.Proofs.Ytndhgomikpokpaa
open Go.RowKit
set_option maxRecDepth 100000

def takeN (s : Ms) : Nat → Ms | 0 => s | k + 1 => (takeN s k).takeS
/-- Words from the i-th place on. -/
def putWords (s : Ms) : Nat → List Int → Ms | _, [] => s | i, w :: ws => putWords (storeS s ((i : Int) / 8) ((i : Int) % 8) w) (i + 1) ws
def memS (n taken : Int) (words : List Int) : Ms := putWords (takeN (Ms.new n.toNat) (min taken.toNat n.toNat)) 0 words
theorem takeN_ok {s : Ms} (h : s.Ok) : ∀ k, (takeN s k).Ok | 0 => h | k + 1 => (takeN_ok h k).takeS
theorem takeN_n (s : Ms) : ∀ k, (takeN s k).n = s.n | 0 => rfl | k + 1 => by unfold takeN; rw [Ms.takeS_n, takeN_n s k]
theorem putWords_ok : ∀ (ws : List Int) {s : Ms} (i : Nat), s.Ok → (∀ x ∈ ws, u64 x) → (putWords s i ws).Ok
  | [], _, _, h, _ => h
  | w :: ws, _, i, h, hw => putWords_ok ws (i + 1) (h.storeS _ _ (hw w (by simp))) fun x hx => hw x (by simp [hx])
theorem putWords_n : ∀ (ws : List Int) (s : Ms) (i : Nat), (putWords s i ws).n = s.n
  | [], _, _ => rfl
  | w :: ws, s, i => by unfold putWords; rw [putWords_n ws, storeS_n]
theorem putWords_take (s : Ms) (ws : List Int) {i : Nat} (hi : i < ws.length) : putWords s 0 (ws.take (i + 1)) = storeS (putWords s 0 (ws.take i)) ((i : Int) / 8) ((i : Int) % 8) ws[i] := by
  have key : ∀ (vs : List Int) (s : Ms) (j : Nat) (x : Int), putWords s j (vs ++ [x]) = storeS (putWords s j vs) (((j + vs.length : Nat) : Int) / 8) (((j + vs.length : Nat) : Int) % 8) x := by
    intro vs
    induction vs with
    | nil => intro s j x; rfl
    | cons v vs ih =>
      intro s j x
      show putWords (storeS s _ _ v) (j + 1) (vs ++ [x]) = _
      rw [ih, show j + 1 + vs.length = j + (v :: vs).length by simp; omega]
      rfl
  rw [List.take_succ_eq_append_getElem hi, key]
  rw [List.length_take, Nat.min_eq_left (by omega), Nat.zero_add]
theorem memS_ok {n taken : Int} {ws : List Int} (_ : 0 ≤ n) (h1 : n ≤ 128) (hw : ∀ x ∈ ws, u64 x) : (memS n taken ws).Ok := putWords_ok ws 0 (takeN_ok (Ms.Ok.new (by omega)) _) hw
theorem memS_n {n taken : Int} {ws : List Int} : (memS n taken ws).n = n.toNat := by unfold memS; rw [putWords_n, takeN_n]; rfl
theorem Has.onto' {w w' : World} {P Q : HProp} (h : Has w P) (h' : Has w' (Q * old w w.heap.size)) : Has w' (Q * P) := by
  obtain ⟨x, s, px⟩ := h
  obtain ⟨_, s', h1, h2, d, rfl, q, rfl⟩ := h'
  have sub : ∀ b o, x b = some o → (fun b => if b < w.heap.size then w.heap[b]? else none) b = some o := fun b o e => by
    have h0 : w.heap[b]? = some o := s b o e
    have hlt : b < w.heap.size := (Array.getElem?_eq_some_iff.1 h0).1
    show (if b < w.heap.size then w.heap[b]? else none) = some o
    rw [if_pos hlt]
    exact h0
  refine ⟨Hpm.union h1 x, ?_, h1, x, ?_, rfl, q, px⟩
  · refine Hpm.sub_union (Hpm.sub_union_left s') fun b o e => ?_
    exact Hpm.sub_union_right d s' b o (sub b o e)
  · intro b
    rcases d b with e | e
    · exact .inl e
    · right
      cases hx : x b with
      | none => rfl
      | some o => rw [sub b o hx] at e; cases e

/-- Two memories alike, of one's own, behind all that was there. -/
def TwoMem (s : Ms) (w : World) (e : Ending) (w' : World) : Prop := ∃ p q, e = .returned (.tuple #[.pointer (some ⟨p, 0, none⟩), .pointer (some ⟨q, 0, none⟩)]) ∧ Has w' (framesAt p s * (memAt q s * old w w.heap.size)) ∧ Ext w w'
set_option maxHeartbeats 2000000 in
theorem memory_any (N T : Int) (A : Option Addr) (n c : Nat) (l : List Int) (w : World) (h0 : 0 ≤ N) (h1 : N ≤ 128) (h : Arr w A n 1 (l.map cellsU)) (hok : ∀ x ∈ l, u64 x) :
    Calls Try.prog 22 #[(Value.int .i64) N, (Value.int .i64) T, .slice A n c] w (TwoMem (memS N T l) w) := by
  have hm := h.2.1
  have hn : l.length = n := by simpa using h.1
  subst hn
  have hA := Lib.hid h
  clear h
  go_enter Try.func22, Try.ntmps22
  go_wp2_with fail
  refine (newF _ _ N (has_old w) h0 h1).mono ?_; rintro e w2 ⟨p, rfl, h2, x2⟩
  have h3 := h2.alloc (.cells #[(Value.int .i64) 0, (Value.int .i64) 0] 162)
  have x3 := x2.alloc (.cells #[(Value.int .i64) 0, (Value.int .i64) 0] 162)
  go_wp2_with fail
  refine (newM _ _ N h3 h0 h1).mono ?_; rintro e w3 ⟨q, rfl, h4, x4⟩
  have h5 := h4.p2
  have x5 := x3.trans x4
  have hs : memS N T l = putWords (takeN (Ms.new N.toNat) (min T.toNat N.toNat)) 0 l := rfl
  have HSM := Lib.hid hs
  have ok5 := Ms.Ok.new (n := N.toNat) (by omega)
  generalize Ms.new N.toNat = s5 at *
  clear h2 h3 h4 x2 x3 x4 hs
  go_wp2_with fail
  go_loopw [11] (fun t wr => ∃ (i : Nat), i ≤ min T.toNat N.toNat ∧ t = (Value.int .i64) i ∧ Has wr (framesAt p (takeN s5 i) * (memAt q (takeN s5 i) * old w w.heap.size)) ∧ Ext w wr) (fun t _ => N.toNat - (intOf t).toNat)
  case atStart => exact ⟨0, by omega, rfl, h5, x5⟩
  case round =>
    clear h5 x5
    obtain ⟨i, hi, rfl, hr, hx⟩ := hrel
    have oki := takeN_ok ok5 i
    by_cases hlt : i < min T.toNat N.toNat
    · have l1 : (i : Int) < T := by omega
      have l2 : (i : Int) < N := by omega
      have HS := Lib.hid (show (takeN s5 i).takeS = takeN s5 (i + 1) from rfl)
      generalize takeN s5 i = s at *
      go_wp2_with fail
      refine (takeF p s _ _ hr oki).mono ?_; rintro e w5 ⟨rfl, h5, x5⟩
      go_wp2_with fail
      refine (takeM q s _ _ h5.p2 oki).mono ?_; rintro e w6 ⟨rfl, h6, x6⟩
      rw [HS.out] at h6
      go_wp2_with fail
      go_roundw
      case rel => exact ⟨i + 1, by omega, by go_num, h6.p2, (hx.trans x5).trans x6⟩
      case measure => simp [intOf]; omega
    · have hie := Lib.hid (show i = min T.toNat N.toNat by omega)
      have l12 : ¬ ((i : Int) < T ∧ (i : Int) < N) := by omega
      have L12 := Lib.hid l12
      clear l12
      go_upto_region 6 with fail
      go_cut [31] (fun b wx => b = Value.bool false ∧ wr = wx)
      case first =>
        by_cases l1 : (i : Int) < T
        · have l2 : ¬ (i : Int) < N := fun h => L12.out ⟨l1, h⟩
          go_wp2_with fail
          go_meet
          case rel => exact ⟨rfl, rfl⟩
        · go_wp2_with fail
          go_meet
          case rel => exact ⟨rfl, rfl⟩
      case rest =>
        obtain ⟨rfl, rfl⟩ := hcut
        have HS := Lib.hid (show takeN s5 (min T.toNat N.toNat) = takeN s5 i by rw [hie.out])
        clear hie hi hlt
        generalize takeN s5 i = s at *
        go_wp2_with fail
        go_loopw [12] (fun t wz => ∃ (j : Nat), j ≤ l.length ∧ t = (Value.int .i64) j ∧ Has wz (framesAt p (putWords s 0 (l.take j)) * (memAt q (putWords s 0 (l.take j)) * old w w.heap.size)) ∧ Ext w wz) (fun t _ => l.length - (intOf t).toNat)
        case atStart => exact ⟨0, by omega, rfl, hr, hx⟩
        case round =>
          clear hr hx
          obtain ⟨j, hj, rfl, hz, hxz⟩ := hrel
          by_cases hjl : j < l.length
          · have HN := Lib.hid (putWords_take s l hjl)
            have okj := putWords_ok (l.take j) 0 oki fun x hx => hok x (List.mem_of_mem_take hx)
            obtain ⟨b, off, hb, hbl, hcc⟩ := (hA.out.old1 hz.right.right hxz).at_ (i := j) (xs := cellsU l[j]) (by simp [hjl])
            have d0 : wr.cell? ⟨b, off + j, none⟩ = some ((Value.int .u64) l[j]) := by
              have := hcc 0 _ rfl
              rw [Nat.mul_one] at this
              exact this
            clear hcc
            subst hb
            have hu := hok _ (List.getElem_mem hjl)
            generalize putWords s 0 (l.take j) = sj at *
            generalize hv : l[j] = v at *
            have HV := Lib.hid hv
            clear hv
            go_wp2_with fail
            refine (takenM q sj _ _ _ hz.p2).mono ?_; rintro e w' ⟨rfl, rfl⟩
            cases hk : sj.has ((j : Int) / 8) with
            | false =>
              have he : storeS sj ((j : Int) / 8) ((j : Int) % 8) v = sj := by
                unfold storeS
                rw [if_neg]
                intro hw
                rw [(hasW_iff.1 hw).1] at hk
                cases hk
              rw [he] at HN
              clear he
              go_wp2_with fail
              go_roundw
              case rel => exact ⟨j + 1, by omega, by go_num, by rw [HN.out]; exact hz, hxz⟩
              case measure => simp [intOf]; omega
            | true =>
              have hw : sj.hasW ((j : Int) / 8) ((j : Int) % 8) = true := hasW_iff.2 ⟨hk, by omega, by omega⟩
              have he : storeS sj ((j : Int) / 8) ((j : Int) % 8) v = sj.setW ((j : Int) / 8).toNat ((j : Int) % 8).toNat v := by unfold storeS; rw [if_pos hw]
              rw [he] at HN
              have hst := Lib.hid (fun R w h => storeF p sj ((j : Int) / 8) ((j : Int) % 8) v R w h)
              rw [he, hw] at hst
              obtain ⟨k0, k1, _⟩ := Ms.has_iff.1 hk
              have hq0 : 0 ≤ (j : Int) % 8 := by omega
              have hq8 : (j : Int) % 8 < 8 := by omega
              clear he hw hk
              obtain ⟨k, hke⟩ := Int.eq_ofNat_of_zero_le k0
              obtain ⟨t, hte⟩ := Int.eq_ofNat_of_zero_le hq0
              rw [hke, hte] at HN hst
              rw [hke] at k0 k1
              rw [hte] at hq0 hq8
              simp only [Int.toNat_natCast] at HN hst
              have hmod : (j : Int).tmod 8 = (t : Int) := by rw [Int.tmod_eq_emod_of_nonneg (by omega)]; exact hte
              go_wp2_with fail
              refine (hst.out _ _ hz).mono ?_; rintro e w5 ⟨rfl, h5, x5⟩
              have x5 := hxz.trans x5
              obtain ⟨b', off', hb', hbl', hcc⟩ := (hA.out.old1 h5.right.right x5).at_ (i := j) (xs := cellsU v) (by rw [List.getElem?_map, List.getElem?_eq_getElem hjl, HV.out]; rfl)
              injection hb' with hb'
              injection hb' with hb1 hb2
              subst hb1; subst hb2
              have d1 : w5.cell? ⟨b, off + j, none⟩ = some ((Value.int .u64) v) := by
                have := hcc 0 _ rfl
                rw [Nat.mul_one] at this
                exact this
              obtain ⟨gw, gi, vk, hq⟩ := memAt_open h5.p2
              obtain ⟨q0, q1, q2, q3⟩ := hq.cells4
              have gl := hq.right.lt
              have gf := hq.right.free (k * 8 + t)
              have gc := mem_word hq (k := k) (i := t) (by omega) (by omega)
              have hqs := mem_setW hq (k := k) (i := t) (by omega) v
              obtain ⟨e0, _⟩ := hqs.cells4
              have h6 := (memAt_shut hqs).p2
              clear hqs
              obtain ⟨b', off', hb', _, hcc⟩ := (hA.out.old1 h6.right.right (x5.set _ _)).at_ (i := j) (xs := cellsU v) (by rw [List.getElem?_map, List.getElem?_eq_getElem hjl, HV.out]; rfl)
              injection hb' with hb'
              injection hb' with hb1 hb2
              subst hb1; subst hb2
              have d2 : (w5.setCell ⟨gw, k * 8 + t, none⟩ ((Value.int .u64) v)).cell? ⟨b, off + j, none⟩ = some ((Value.int .u64) v) := by
                have := hcc 0 _ rfl
                rw [Nat.mul_one] at this
                exact this
              clear hq hcc hst d0 hz hxz hbl hbl'
              go_wp2_with fail
              go_region_held3 (fun w' => w'.cell? ⟨q, 0, none⟩ = some (.slice (some ⟨gw, 0, none⟩) sj.n sj.n) ∧ w'.cell? ⟨b, off + j, none⟩ = some ((Value.int .u64) v)) (first | exact ⟨q0, d1⟩ | exact ⟨e0, d2⟩) (fail)
              all_goals
                go_wp2_with fail
                go_roundw
                case rel => exact ⟨j + 1, by omega, by go_num, by rw [HN.out]; exact h6.drew, (x5.set _ _).drew⟩
                case measure => simp [intOf]; omega
          · have hje := Lib.hid (show putWords s 0 l = putWords s 0 (l.take j) by rw [List.take_of_length_le (by omega)])
            go_wp2_with fail
            exact bodyPost_ret (v := .tuple #[.pointer (some ⟨p, 0, none⟩), .pointer (some ⟨q, 0, none⟩)]) (by simp [results, Try.results22]) rfl ⟨p, q, rfl, by rw [HSM.out, HS.out, hje.out]; exact hz, hxz⟩
end Go.Proofs.Ytndhgomikpokpaa
