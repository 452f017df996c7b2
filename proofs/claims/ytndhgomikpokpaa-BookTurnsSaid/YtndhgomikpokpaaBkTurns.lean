/- The law BookTurns: the walk. -/
import Derived.Test.YtndhgomikpokpaaBkBegun
import Derived.Test.YtndhgomikpokpaaStp
namespace Go.Proofs.Ytndhgomikpokpaa
open Go.RowKit
set_option maxRecDepth 100000

/-- The int of an int as a uint, by a length. -/
def turnOf (by_ : Int) (n : Nat) : Nat := ((IntKind.u64.wrap by_).toNat) % n
theorem turn_eq (by_ : Int) {i n : Nat} (h0 : 0 < n) (hn : n ≤ 4096) (hi : i < n) : (wrap64 ((i : Int) + wrap64 ((IntKind.u64.wrap by_).tmod (n : Int)))).tmod (n : Int) = (((i + turnOf by_ n) % n : Nat) : Int) := by
  have hw : IntKind.u64.wrap by_ = by_ % 18446744073709551616 := IntKind.wrap_u64 by_
  obtain ⟨u, hu⟩ : ∃ u : Nat, IntKind.u64.wrap by_ = u := Int.eq_ofNat_of_zero_le (by rw [hw]; omega)
  unfold turnOf
  have e0 : ((u : Int)).tmod (n : Int) = ((u % n : Nat) : Int) := by rw [Int.tmod_eq_emod_of_nonneg (by omega), ← Int.natCast_emod]
  rw [hu, Int.toNat_natCast, e0]
  have hlt := Nat.mod_lt u h0
  have e1 : wrap64 (((u % n : Nat) : Int)) = ((u % n : Nat) : Int) := by unfold wrap64; omega
  rw [e1]
  have e2 : wrap64 ((i : Int) + ((u % n : Nat) : Int)) = ((i + u % n : Nat) : Int) := by unfold wrap64; omega
  rw [e2, Int.tmod_eq_emod_of_nonneg (by omega), ← Int.natCast_emod]
set_option maxHeartbeats 8000000 in
theorem bookTurns_walk (A : Option Addr) (n c : Nat) (l : List Stp) (by_ : Int) (w : World) (h : Arr w A n 9 (l.map Stp.cells)) (hok : ∀ x ∈ l, x.ok) (_ : i64 by_) :
    Calls Try.prog 3 #[.slice A n c, (Value.int .i64) by_] w (Pure (Value.bool true) w) := by
  have hm := h.2.1
  have hn : l.length = n := by simpa using h.1
  have hN := Lib.hid hn
  have hA := Lib.hid h
  clear h hn
  by_cases hbig : 200 < n
  · go_enter Try.func3, Try.ntmps3
    go_wp2_with fail
    refine (bookBegun_any _).mono ?_; rintro e w1 ⟨rfl, hb⟩
    go_wp2_with fail
    go_ret
    exact ⟨rfl, hb⟩
  have h0 := has_old w
  go_enter Try.func3, Try.ntmps3
  go_wp2_with fail
  refine (bookBegun_any _).mono ?_; rintro e w1 ⟨rfl, hb⟩
  have h1 := h0.below hb
  have x1 := (Ext.refl w).below hb
  clear h0 hb
  go_wp2_with fail
  refine (newB _ _ h1).mono ?_; rintro e w2 ⟨p, rfl, h2, x2⟩
  have x3 := x1.trans x2
  go_wp2_with fail
  refine (newB _ _ h2).mono ?_; rintro e w3 ⟨q, rfl, h3, x4⟩
  have x5 := x3.trans x4
  have h4 : Has w3 (bookAt p [] * (bookAt q [] * old w w.heap.size)) := h3.p2
  clear h1 h2 h3 x1 x2 x3 x4
  go_wp2_with fail
  go_loopw [7] (fun t wr => ∃ (i : Nat) (k : List Mp), i ≤ n ∧ t = (Value.int .i64) i ∧ Bk.Ok k ∧ Has wr (bookAt p k * (bookAt q [] * old w w.heap.size)) ∧ Ext w wr) (fun t _ => n - (intOf t).toNat)
  case atStart => exact ⟨0, [], by omega, rfl, Bk.Ok.nil, h4, x5⟩
  case round =>
    clear h4 x5
    obtain ⟨i, k, hi, rfl, hk, hr, hx⟩ := hrel
    by_cases hlt : i < n
    · have hil : i < l.length := by have := hN.out; omega
      obtain ⟨b, off, hbe, hb, c0, c1, c2, c3, c4, c5, c6, c7, c8⟩ := (hA.out.old1 hr.right.right hx).stp hil
      have hxo := hok _ (List.getElem_mem hil)
      generalize l[i] = x at c0 c1 c2 c3 c4 c5 c6 c7 c8 hxo
      clear c1 c6 c7 c8
      subst hbe
      have P1 := Lib.hid (fun R W h => dropB p k x.m.page R W hk hxo.2.2.1.1 h)
      have P2 := Lib.hid (fun R W h => addB p k x.m R W hk hxo.2.2.1.1 h)
      by_cases ho : x.kind = 2
      · have hod : (x.kind == 2) = true := by simp [ho]
        clear ho
        go_wp2_with (refine (P1.out _ _ hr).mono ?_; rintro e w5 ⟨rfl, h5, x5⟩)
        go_roundw
        case rel => exact ⟨i + 1, Bk.dropL k x.m.page, by omega, by go_num, hk.dropL _, h5, hx.trans x5⟩
        case measure => simp [intOf]; omega
      · have hod : (x.kind == 2) = false := by simpa using ho
        clear ho
        go_wp2_with (refine (P2.out _ _ hr).mono ?_; rintro e w5 ⟨rfl, h5, x5⟩)
        go_roundw
        case rel => exact ⟨i + 1, Bk.add k x.m, by omega, by go_num, hk.add _, h5, hx.trans x5⟩
        case measure => simp [intOf]; omega
    · have hle := hk.le
      have L1 := Lib.hid (fun R W h => listB p k R W (by omega) h)
      go_wp2_with fail
      refine (L1.out _ _ hr).mono ?_; rintro e w5 ⟨A', n', c', rfl, h5, x5⟩
      obtain rfl := mrow_len h5
      have h6 := (hr.onto' h5)
      have h7 : Has w5 (bookAt q [] * (mrow (.slice A' k.length c') k * (bookAt p k * old w w.heap.size))) := h6.eq (by ac_rfl)
      have x7 := hx.trans x5
      clear hr hx h5 h6 x5 L1
      go_wp2_with fail
      go_loopw [9, 10] (fun t t10 wr => ∃ (i : Nat) (d : List Mp), i ≤ k.length ∧ t = (Value.int .i64) i ∧ Hid (Bk.Turned k d (turnOf by_ k.length) i) ∧ Has wr (bookAt q d * (mrow (.slice A' k.length c') k * (bookAt p k * old w w.heap.size))) ∧ Ext w wr) (fun t _ _ => k.length - (intOf t).toNat)
      case atStart => exact ⟨0, [], by omega, rfl, Lib.hid (Bk.Turned.zero _ _), h7, x7⟩
      case round =>
        clear h7 x7
        obtain ⟨i, d, hi, rfl, HT, hr, hx⟩ := hrel
        by_cases hlt : i < k.length
        · have hpos : 0 < k.length := by omega
          have hte := turn_eq by_ hpos hle hlt
          have hjl := Nat.mod_lt (i + turnOf by_ k.length) hpos
          obtain ⟨ht1, ht2⟩ := HT.out.next hk hlt hjl
          have HT2 := Lib.hid ht2
          have hdo := HT.out.ok
          have hyi := (hk.chk _ (List.getElem_mem hjl)).pageI
          have HA := Lib.hid (fun R W h => addB q d k[(i + turnOf by_ k.length) % k.length] R W hdo hyi h)
          rw [ht1] at HA
          obtain ⟨b, rfl, hb, d0, d1, d2, d3⟩ := mrow_at hr.right hjl
          clear ht1 ht2 HT hdo hyi
          generalize Bk.add d k[(i + turnOf by_ k.length) % k.length] = d' at *
          generalize k[(i + turnOf by_ k.length) % k.length] = y at *
          generalize (i + turnOf by_ k.length) % k.length = j at *
          go_wp2_with (refine (HA.out _ _ hr).mono ?_; rintro e w6 ⟨rfl, h6, x6⟩)
          go_roundw
          case rel => exact ⟨i + 1, d', by omega, by go_num, HT2, h6, hx.trans x6⟩
          case measure => simp [intOf]; omega
        · have hil : i = k.length := by omega
          subst hil
          have hdk : d = k := HT.out.all hk
          subst hdk
          have L2 := Lib.hid (fun R W h => listB q d R W (by omega) h)
          clear HT
          go_wp2_with fail
          refine (L2.out _ _ hr).mono ?_; rintro e w6 ⟨A2, n2, c2, rfl, h6, x6⟩
          have h7 : Has w6 (mrow (.slice A2 n2 c2) d * (mrow (.slice A' d.length c') d * (bookAt q d * (bookAt p d * old w w.heap.size)))) := (hr.onto' h6).eq (by ac_rfl)
          go_wp2_with (refine (sameMaps_any d A2 A' n2 c2 _ c' _ _ h7).mono ?_; rintro e w7 ⟨rfl, b7⟩)
          go_ret
          have h8 := h7.below b7
          exact ⟨rfl, below_of1 h8.right.right.right.right ((hx.trans x6).below b7)⟩
end Go.Proofs.Ytndhgomikpokpaa
