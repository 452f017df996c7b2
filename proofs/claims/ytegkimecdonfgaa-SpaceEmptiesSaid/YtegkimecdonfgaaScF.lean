/- A space's end: acks clear what is waited for; unmaps empty the book; plain law, with no program in sight. -/
import Derived.Test.YtegkimecdonfgaaScE
import Derived.Test.YtegkimecdonfgaaMpRow
namespace Go.Proofs.Ytegkimecdonfgaa
open Go.RowKit
def ackStp (k : Int) : Stp := ⟨6, k, ⟨0, 0, 0, 0⟩, ⟨0, 0, false⟩⟩
def unStp (p : Int) : Stp := ⟨2, 0, ⟨p, 0, 0, 0⟩, ⟨0, 0, false⟩⟩
theorem act_ack {σ : Sc} {k : Nat} (hk : k < σ.cs.length) : σ.act (ackStp k) = σ.ack k := by
  unfold Sc.act ackStp
  dsimp only
  rw [if_neg (by omega), if_neg (by omega), if_neg (by omega), if_neg (by omega), if_neg (by omega), if_pos rfl]
  rfl
theorem ack_wait {σ : Sc} {k i : Nat} (h : (σ.ack k).1.wait i = true) : σ.wait i = true ∧ i ≠ k := by
  unfold Sc.ack at h
  by_cases hk : σ.wait k = false
  · rw [if_pos hk] at h
    refine ⟨h, fun e => ?_⟩
    subst e
    rw [hk] at h
    cases h
  · rw [if_neg hk] at h
    have h2 : ackW σ.wait k i = true := by
      split at h
      · exact h
      · exact h
    by_cases hik : i = k
    · subst hik
      rw [Safe.ack_off] at h2
      cases h2
    · rw [Safe.ack_ne _ hik] at h2
      exact ⟨h2, hik⟩
namespace Safe
variable {σ : Sc} {P : List Mp}
theorem idle (h : Safe σ P) (hw : ∀ i, i < σ.cs.length → σ.wait i = false) : σ.busy = false := by
  cases hb : σ.busy with
  | false => rfl
  | true =>
    obtain ⟨i, hi, hi2⟩ := h.busy hb
    rw [hw i hi] at hi2
    cases hi2
/-- Behind the acks of the cores below k. -/
structure Acked (σ : Sc) (k : Nat) : Prop where
  w : ∀ i, i < k → σ.wait i = false
theorem Acked.next {k : Nat} (h : Acked σ k) : Acked (σ.act (ackStp k)).1 (k + 1) ∨ σ.cs.length ≤ k := by
  by_cases hk : k < σ.cs.length
  · left
    rw [act_ack hk]
    refine ⟨fun i hi => ?_⟩
    cases hw : (σ.ack k).1.wait i with
    | false => rfl
    | true =>
      obtain ⟨h1, h2⟩ := ack_wait hw
      rw [h.w i (by omega)] at h1
      cases h1
  · right; omega
/-- A change is looked after by the cores from k on. -/
structure Due (σ : Sc) (K k : Nat) (L : List Mp) : Prop where
  w : ∀ i, σ.wait i = decide (k ≤ i ∧ i < K)
  book : allM σ.s 0 = L
theorem Due.next (h : Safe σ P) {K k : Nat} {L : List Mp} (d : Due σ K k L) (hK : σ.cs.length = K) (hk : k < K) :
    (σ.act (ackStp k)).2 = ⟨0, false, An.zero, decide (k + 1 = K)⟩ ∧ Due (σ.act (ackStp k)).1 K (k + 1) L := by
  have hk2 : k < σ.cs.length := by omega
  have hb := h.book_ack k
  rw [act_ack hk2]
  have h4 := h.ok.few
  have hw : σ.wait k = true := by rw [d.w]; simp [hk]
  have hw2 : ∀ i, (σ.heed k).wait i = decide (k + 1 ≤ i ∧ i < K) := by
    intro i
    show ackW σ.wait k i = _
    by_cases hik : i = k
    · subst hik
      rw [ack_off]
      symm
      rw [decide_eq_false_iff_not]
      omega
    · rw [ack_ne _ hik, d.w]
      apply decide_eq_decide.2
      omega
  have ho : overB (σ.heed k).wait = decide (k + 1 = K) := by
    unfold overB
    rw [hw2, hw2, hw2, hw2]
    have : K ≤ 4 := by omega
    have hc : (k = 0 ∨ k = 1 ∨ k = 2 ∨ k = 3) ∧ (K = 1 ∨ K = 2 ∨ K = 3 ∨ K = 4) := by omega
    obtain ⟨h1 | h1 | h1 | h1, h2 | h2 | h2 | h2⟩ := hc <;> subst h1 <;> subst h2 <;> first | rfl | omega
  unfold Sc.ack at hb ⊢
  rw [if_neg (by rw [hw]; simp)] at hb ⊢
  by_cases hkk : k + 1 = K
  · rw [if_pos (by rw [ho]; exact decide_eq_true hkk)] at hb ⊢
    exact ⟨by rw [decide_eq_true hkk], hw2, hb.trans d.book⟩
  · rw [if_neg (by rw [ho]; simpa using hkk)] at hb ⊢
    exact ⟨by rw [decide_eq_false hkk]; rfl, hw2, hb.trans d.book⟩
/-- An unmap of the book's first mapping. -/
theorem unmap (h : Safe σ P) {K : Nat} {x : Mp} {L : List Mp} (hb : σ.busy = false) (hL : allM σ.s 0 = x :: L) (hK : σ.cs.length = K) :
    (σ.act (unStp x.page)).2 = ⟨0, false, An.zero, false⟩ ∧ Due (σ.act (unStp x.page)).1 K 0 L := by
  have hlk := h.lk
  rw [hL] at hlk
  obtain ⟨k1, k2⟩ := drop_head hlk.ok
  have hf : findC σ.s 0 x.page = 0 := by rw [(lk_code h.wf hlk x.page).1]; exact k2
  have hbk := h.book_act (unStp x.page)
  have e : σ.act (unStp x.page) = (σ.post (remS σ.s 0 x.page) (findM σ.s 0 x.page) (remG σ.s 0 x.page), .no 0) := by
    unfold Sc.act unStp
    dsimp only
    rw [if_pos (by omega)]
    unfold Sc.change
    dsimp only
    rw [if_neg (by rw [hb]; simp), if_neg (by omega), if_pos rfl, if_pos hf]
  rw [e] at hbk ⊢
  refine ⟨rfl, fun i => ?_, ?_⟩
  · show postW σ.cs.length i = _
    unfold postW
    rw [hK]
    apply decide_eq_decide.2
    omega
  · rw [hbk, hL]
    unfold bookN unStp
    dsimp only [Ev.no]
    simp [k1]
/-- The end: nothing is mapped, and no change is begun. -/
theorem empty (h : Safe σ P) (hb : σ.busy = false) (hL : allM σ.s 0 = []) : (σ.s.frees.length : Int) = (σ.s.n : Int) - 1 ∧ (allT σ.s 0).length = 1 := by
  have hlk := h.lk
  rw [hL] at hlk
  have hw := h.wf
  rw [(h.quiet hb).1] at hw
  obtain ⟨k1, k2⟩ := lk_empty hw h.ok.s.inv hlk
  exact ⟨by omega, by rw [k1]; rfl⟩
end Safe
end Go.Proofs.Ytegkimecdonfgaa
namespace Go.Proofs.Ytegkimecdonfgaa
open Go.RowKit
set_option maxRecDepth 100000
set_option maxHeartbeats 8000000 in
theorem spaceEmpties_walk (C N : Int) (B : Option Addr) (m d : Nat) (L : List Stp) (w : World) (_ : i64 C) (_ : i64 N) (h2 : Arr w B m 9 (L.map Stp.cells)) (hLo : ∀ x ∈ L, x.ok) :
    Calls Try.prog 10 #[(Value.int .i64) C, (Value.int .i64) N, .slice B m d] w (Pure (Value.bool true) w) := by
  have hm2 := h2.2.1
  have hB := Lib.hid h2
  have hL := Lib.hid (show L.length = m by simpa using h2.1)
  have hLO := Lib.hid hLo
  clear h2 hLo
  have h0 := has_old w
  have x0 := Ext.refl w
  have HB := Lib.hid (fun w => spaceBegun_any w)
  have HG := Lib.hid (fun w => greatSteps_any B m d 300 w)
  by_cases hbig : (300 : Int) < m
  · rw [decide_eq_true hbig] at HG
    go_enter Try.func10, Try.ntmps10
    go_wp2_with fail
    refine (HB.out _).mono ?_; rintro e w1 ⟨rfl, hb⟩
    go_wp2_with fail
    refine (HG.out _).mono ?_; rintro e w2 ⟨rfl, hw⟩
    subst hw
    go_wp2_with fail
    go_ret
    exact ⟨rfl, below_of1 (h0.below hb) (x0.below hb)⟩
  rw [decide_eq_false hbig] at HG
  by_cases hbad : C < 1 ∨ 4 < C ∨ N < 1 ∨ 128 < N
  · have HN := Lib.hid (fun w => newS_no C N hbad w)
    clear hbad
    go_enter Try.func10, Try.ntmps10
    go_wp2_with fail
    refine (HB.out _).mono ?_; rintro e w1 ⟨rfl, hb⟩
    go_wp2_with fail
    refine (HG.out _).mono ?_; rintro e w2 ⟨rfl, hw⟩
    subst hw
    have h1 := h0.below hb
    have x1 := x0.below hb
    clear h0 x0 hb
    go_wp2_with fail
    refine (HN.out _).mono ?_; rintro e w3 ⟨rfl, hb⟩
    have h3 := (h1.below hb).new #[(Value.int .i64) 1, (Value.int .i64) (-1)] 83
    have x3 := (x1.below hb).alloc (.cells #[(Value.int .i64) 1, (Value.int .i64) (-1)] 83)
    have c0 := h3.cell 0
    have cl := h3.lt
    go_wp2_with fail
    go_ret
    exact ⟨rfl, below_of1 h3.right x3⟩
  obtain ⟨K, rfl⟩ := Int.eq_ofNat_of_zero_le (show 0 ≤ C by omega)
  obtain ⟨n, rfl⟩ := Int.eq_ofNat_of_zero_le (show 0 ≤ N by omega)
  have HN := Lib.hid (fun R w h => newS K n (by omega) (by omega) (by omega) (by omega) R w h)
  have HS0 := Lib.hid (Safe.new (cores := K) (n := n) (by omega) (by omega) (by omega) (by omega))
  have hn128 : n ≤ 128 := by omega
  have hK4 : K ≤ 4 := by omega
  have hK1 : 1 ≤ K := by omega
  have hn1 : 1 ≤ n := by omega
  clear hbad hbig
  go_enter Try.func10, Try.ntmps10
  go_wp2_with fail
  refine (HB.out _).mono ?_; rintro e w1 ⟨rfl, hb⟩
  have h1 := h0.below hb
  have x1 := x0.below hb
  clear h0 x0 hb HB
  go_wp2_with fail
  refine (HG.out _).mono ?_; rintro e w2 ⟨rfl, hw⟩
  subst hw
  clear HG
  go_wp2_with fail
  refine (HN.out _ _ h1).mono ?_; rintro e w3 ⟨p, rfl, h3, x3⟩
  have h4 : Has _ (spaceAt p (Sc.new K n) * (blk w3.heap.size #[(Value.int .i64) 0, (Value.int .i64) 0] 83 * old w w.heap.size)) := (h3.new #[(Value.int .i64) 0, (Value.int .i64) 0] 83).eq (by ac_rfl)
  have x4 := (x1.trans x3).alloc (.cells #[(Value.int .i64) 0, (Value.int .i64) 0] 83)
  have c0 := h4.right.cell 0
  have cl := h4.right.lt
  clear h1 x1 h3 x3 HN
  go_wp2_with fail
  generalize w3.alloc (.cells #[(Value.int .i64) 0, (Value.int .i64) 0] 83) = w4 at *
  generalize w3.heap.size = X at *
  clear c0 cl
  generalize Sc.new K n = σ0 at *
  go_loopw [9] (fun t wr => ∃ (i : Nat) (σ : Sc) (P : List Mp), i ≤ m ∧ t = (Value.int .i64) i ∧ Hid (Safe σ P ∧ σ.s.n = n ∧ σ.cs.length = K) ∧ Has wr (spaceAt p σ * (blk X #[(Value.int .i64) 0, (Value.int .i64) 0] 83 * old w w.heap.size)) ∧ Ext w wr) (fun t _ => m - (intOf t).toNat)
  case atStart => exact ⟨0, σ0, [], by omega, rfl, HS0, h4, x4⟩
  case round =>
    clear h4 x4 HS0
    obtain ⟨i, σ1, P1, hi, rfl, hS1, hr, hx⟩ := hrel
    by_cases hlt : i < m
    · as_aux_lemma =>
      --[A
      have hil : i < L.length := by have := hL.out; omega
      obtain ⟨b', off, hb, -⟩ := (hB.out.old1 hr.right.right hx).stp hil
      subst hb
      obtain ⟨y, hy⟩ : ∃ y, L[i] = y := ⟨_, rfl⟩
      have hyo : y.ok := by rw [← hy]; exact hLO.out _ (List.getElem_mem hil)
      obtain ⟨dl, d0, d1, d2, d3, d4, d5, d6, d7, d8⟩ := (hB.out.old1 hr.right.right hx).stpAt hil hy
      clear hy
      have HA := Lib.hid (fun R w h => doS p σ1 y hS1.out.1.ok hS1.out.1.calm hyo R w h)
      have HN2 := hS1.out.1.n_act y
      have HS2 : Hid (Safe (σ1.act y).1 (Safe.prevOf σ1 P1 y) ∧ (σ1.act y).1.s.n = n ∧ (σ1.act y).1.cs.length = K) := Lib.hid ⟨hS1.out.1.act y, HN2.1.trans hS1.out.2.1, HN2.2.trans hS1.out.2.2⟩
      unfold Ev.val at HA
      clear HN2 hS1
      generalize σ1.act y = q at *
      generalize Safe.prevOf σ1 P1 y = P2 at *
      obtain ⟨σ2, ⟨ec, ef, ⟨ea, eb, er⟩, ek⟩⟩ := q
      dsimp only at *
      go_wp2_with fail
      refine (HA.out _ _ hr).mono ?_; rintro e w5 ⟨rfl, h5, x5⟩
      have x6 := hx.trans x5
      clear dl d0 d1 d2 d3 d4 d5 d6 d7 d8 hr hx x5 HA
      go_wp2_with fail
      go_roundw
      case rel => exact ⟨i + 1, σ2, P2, by omega, by go_num, HS2, h5, x6⟩
      case measure => simp [intOf]; omega
      --A]
    obtain rfl : i = m := by omega
    have HA0 : Hid (Safe.Acked σ1 0) := Lib.hid ⟨fun i hi => absurd hi (by omega)⟩
    clear hlt hi hB hL hLO
    go_wp2_with fail
    go_loopw [10] (fun t wr => ∃ (k : Nat) (σ : Sc) (P : List Mp), k ≤ K ∧ t = (Value.int .i64) k ∧ Hid (Safe σ P ∧ σ.s.n = n ∧ σ.cs.length = K) ∧ Hid (Safe.Acked σ k) ∧ Has wr (spaceAt p σ * (blk X #[(Value.int .i64) 0, (Value.int .i64) 0] 83 * old w w.heap.size)) ∧ Ext w wr) (fun t _ => K - (intOf t).toNat)
    case atStart => exact ⟨0, σ1, P1, by omega, rfl, hS1, HA0, hr, hx⟩
    case round =>
      clear hr hx hS1 HA0
      obtain ⟨k, σ1, P1, hk, rfl, hS1, hA1, hr, hx⟩ := hrel
      by_cases hkK : k < K
      · as_aux_lemma =>
        --[B
        have hyo : (ackStp k).ok := by unfold ackStp Stp.ok Mp.ok Ac.ok i64; dsimp only; omega
        have HA := Lib.hid (fun R w h => doS p σ1 (ackStp k) hS1.out.1.ok hS1.out.1.calm hyo R w h)
        have HN2 := hS1.out.1.n_act (ackStp k)
        have HS2 : Hid (Safe (σ1.act (ackStp k)).1 (Safe.prevOf σ1 P1 (ackStp k)) ∧ (σ1.act (ackStp k)).1.s.n = n ∧ (σ1.act (ackStp k)).1.cs.length = K) := Lib.hid ⟨hS1.out.1.act (ackStp k), HN2.1.trans hS1.out.2.1, HN2.2.trans hS1.out.2.2⟩
        have HA2 : Hid (Safe.Acked (σ1.act (ackStp k)).1 (k + 1)) := Lib.hid ((hA1.out.next).resolve_right (by rw [hS1.out.2.2]; omega))
        unfold Ev.val at HA
        clear HN2 hS1 hA1
        generalize σ1.act (ackStp k) = q at *
        generalize Safe.prevOf σ1 P1 (ackStp k) = P2 at *
        obtain ⟨σ2, ⟨ec, ef, ⟨ea, eb, er⟩, ek⟩⟩ := q
        unfold ackStp at HA
        dsimp only at *
        clear hyo
        go_wp2_with fail
        refine (HA.out _ _ hr).mono ?_; rintro e w5 ⟨rfl, h5, x5⟩
        have x6 := hx.trans x5
        clear hr hx x5 HA
        go_wp2_with fail
        go_roundw
        case rel => exact ⟨k + 1, σ2, P2, by omega, by go_num, HS2, HA2, h5, x6⟩
        case measure => simp [intOf]; omega
        --B]
      obtain rfl : k = K := by omega
      clear hkK hk
      have HL := Lib.hid (fun R w h => listS p σ1 hS1.out.1.wf R w h)
      have HQ : ∀ L1, allM σ1.s 0 = L1 → Hid (σ1.busy = false ∧ allM σ1.s 0 = L1.drop 0) := fun L1 h1 => Lib.hid ⟨hS1.out.1.idle fun i hi => hA1.out.w i (by rw [hS1.out.2.2] at hi; exact hi), h1⟩
      clear hA1
      obtain ⟨L1, hL1⟩ : ∃ L1, allM σ1.s 0 = L1 := ⟨_, rfl⟩
      have HQ := HQ L1 hL1
      rw [hL1] at HL
      clear hL1
      go_wp2_with fail
      refine (HL.out _ _ hr).mono ?_; rintro e w5 ⟨A, c, rfl, h5, x5⟩
      have h6 : Has w5 (spaceAt p σ1 * (mrow (.slice A L1.length c) L1 * (blk X #[(Value.int .i64) 0, (Value.int .i64) 0] 83 * old w w.heap.size))) := h5.eq (by ac_rfl)
      have x6 := hx.trans x5
      have hs5 := mrow_small h5
      clear hr hx h5 x5 HL
      go_wp2_with fail
      go_loopw [12] (fun t wr => ∃ (j : Nat) (σ : Sc) (P : List Mp), j ≤ L1.length ∧ t = (Value.int .i64) j ∧ Hid (Safe σ P ∧ σ.s.n = n ∧ σ.cs.length = k) ∧ Hid (σ.busy = false ∧ allM σ.s 0 = L1.drop j) ∧ Has wr (spaceAt p σ * (mrow (.slice A L1.length c) L1 * (blk X #[(Value.int .i64) 0, (Value.int .i64) 0] 83 * old w w.heap.size))) ∧ Ext w wr) (fun t _ => L1.length - (intOf t).toNat)
      case atStart => exact ⟨0, σ1, P1, by omega, rfl, hS1, HQ, h6, x6⟩
      case round =>
        clear h6 x6 hS1 HQ
        obtain ⟨j, σ1, P1, hj, rfl, hS1, HQ, hr, hx⟩ := hrel
        by_cases hjl : j < L1.length
        · obtain ⟨bG, rfl, hbG, cG, -⟩ := mrow_at hr.right hjl
          have hmp : (L1[j]).page = (L1[j]).page := rfl
          have hdrop : L1.drop j = L1[j] :: L1.drop (j + 1) := List.drop_eq_getElem_cons hjl
          rw [hdrop] at HQ
          have hpo : i64 (L1[j]).page := by
            have := hS1.out.1.lk.ok
            rw [HQ.out.2] at this
            have h1 := (this.chk _ (List.mem_cons_self ..)).inP
            unfold InP at h1
            unfold i64
            omega
          clear hdrop hmp
          obtain ⟨x, hx'⟩ : ∃ x, L1[j] = x := ⟨_, rfl⟩
          rw [hx'] at HQ cG hpo
          clear hx'
          have hyo : (unStp x.page).ok := by unfold unStp Stp.ok Mp.ok Ac.ok; unfold i64 at *; dsimp only; omega
          have HA := Lib.hid (fun R w h => doS p σ1 (unStp x.page) hS1.out.1.ok hS1.out.1.calm hyo R w h)
          have HN2 := hS1.out.1.n_act (unStp x.page)
          have HS2 : Hid (Safe (σ1.act (unStp x.page)).1 (Safe.prevOf σ1 P1 (unStp x.page)) ∧ (σ1.act (unStp x.page)).1.s.n = n ∧ (σ1.act (unStp x.page)).1.cs.length = k) := Lib.hid ⟨hS1.out.1.act (unStp x.page), HN2.1.trans hS1.out.2.1, HN2.2.trans hS1.out.2.2⟩
          obtain ⟨hu1, hu2⟩ := hS1.out.1.unmap HQ.out.1 HQ.out.2 hS1.out.2.2
          have HU := Lib.hid hu2
          unfold Ev.val at HA
          rw [hu1] at HA
          clear HN2 hS1 hu1 hu2 HQ
          generalize (σ1.act (unStp x.page)).1 = σ2 at *
          generalize Safe.prevOf σ1 P1 (unStp x.page) = P2 at *
          unfold unStp at HA
          dsimp only [An.zero] at *
          clear hyo hpo
          go_wp2_with fail
          refine (HA.out _ _ hr).mono ?_; rintro e w7 ⟨rfl, h7, x7⟩
          have h8 : Has _ (blk w7.heap.size #[(Value.int .i64) 0, Value.bool false, (Value.int .i64) 0, (Value.int .i64) 0, (Value.int .i64) 0, Value.bool false] 89 * (spaceAt p σ2 * (mrow (.slice (some ⟨bG, 0, none⟩) L1.length c) L1 * (blk X #[(Value.int .i64) 0, (Value.int .i64) 0] 83 * old w w.heap.size)))) := (h7.new #[(Value.int .i64) 0, Value.bool false, (Value.int .i64) 0, (Value.int .i64) 0, (Value.int .i64) 0, Value.bool false] 89).eq (by ac_rfl)
          have x8 := (hx.trans x7).alloc (.cells #[(Value.int .i64) 0, Value.bool false, (Value.int .i64) 0, (Value.int .i64) 0, (Value.int .i64) 0, Value.bool false] 89)
          clear hr hx h7 x7 HA cG hbG
          obtain ⟨e0, e1, e2, e3, e4, e5⟩ := h8.cells6
          have el := h8.lt
          have h9 := h8.right
          go_wp2_with fail
          generalize w7.alloc (.cells #[(Value.int .i64) 0, Value.bool false, (Value.int .i64) 0, (Value.int .i64) 0, (Value.int .i64) 0, Value.bool false] 89) = w8 at *
          clear e0 e1 e2 e3 e4 e5 el h8
          go_loopw [14] (fun t wr => ∃ (i : Nat) (σ : Sc) (P : List Mp), i ≤ k ∧ t = (Value.int .i64) i ∧ Hid (Safe σ P ∧ σ.s.n = n ∧ σ.cs.length = k) ∧ Hid (Safe.Due σ k i (L1.drop (j + 1))) ∧ Has wr (spaceAt p σ * (mrow (.slice (some ⟨bG, 0, none⟩) L1.length c) L1 * (blk X #[(Value.int .i64) 0, (Value.int .i64) 0] 83 * old w w.heap.size))) ∧ Ext w wr) (fun t _ => k - (intOf t).toNat)
          case atStart => exact ⟨0, σ2, P2, by omega, rfl, HS2, HU, h9, x8⟩
          case round =>
            clear h9 x8 HS2 HU
            obtain ⟨i2, σ2, P2, hi2, rfl, hS1, HU, hr, hx⟩ := hrel
            by_cases hik : i2 < k
            · have hyo : (ackStp i2).ok := by unfold ackStp Stp.ok Mp.ok Ac.ok i64; dsimp only; omega
              have HA := Lib.hid (fun R w h => doS p σ2 (ackStp i2) hS1.out.1.ok hS1.out.1.calm hyo R w h)
              have HN2 := hS1.out.1.n_act (ackStp i2)
              have HS2 : Hid (Safe (σ2.act (ackStp i2)).1 (Safe.prevOf σ2 P2 (ackStp i2)) ∧ (σ2.act (ackStp i2)).1.s.n = n ∧ (σ2.act (ackStp i2)).1.cs.length = k) := Lib.hid ⟨hS1.out.1.act (ackStp i2), HN2.1.trans hS1.out.2.1, HN2.2.trans hS1.out.2.2⟩
              obtain ⟨hu1, hu2⟩ := Safe.Due.next hS1.out.1 HU.out hS1.out.2.2 hik
              have HU2 := Lib.hid hu2
              unfold Ev.val at HA
              rw [hu1] at HA
              clear HN2 hS1 hu1 hu2 HU
              generalize (σ2.act (ackStp i2)).1 = σ3 at *
              generalize Safe.prevOf σ2 P2 (ackStp i2) = P3 at *
              unfold ackStp at HA
              dsimp only [An.zero] at *
              clear hyo
              go_wp2_with fail
              refine (HA.out _ _ hr).mono ?_; rintro e w7 ⟨rfl, h7, x7⟩
              have h8 : Has _ (blk w7.heap.size #[(Value.int .i64) 0, Value.bool false, (Value.int .i64) 0, (Value.int .i64) 0, (Value.int .i64) 0, Value.bool (decide (i2 + 1 = k))] 89 * (spaceAt p σ3 * (mrow (.slice (some ⟨bG, 0, none⟩) L1.length c) L1 * (blk X #[(Value.int .i64) 0, (Value.int .i64) 0] 83 * old w w.heap.size)))) := (h7.new #[(Value.int .i64) 0, Value.bool false, (Value.int .i64) 0, (Value.int .i64) 0, (Value.int .i64) 0, Value.bool (decide (i2 + 1 = k))] 89).eq (by ac_rfl)
              have x8 := (hx.trans x7).alloc (.cells #[(Value.int .i64) 0, Value.bool false, (Value.int .i64) 0, (Value.int .i64) 0, (Value.int .i64) 0, Value.bool (decide (i2 + 1 = k))] 89)
              clear hr hx h7 x7 HA
              obtain ⟨e0, e1, e2, e3, e4, e5⟩ := h8.cells6
              have el := h8.lt
              have h9 := h8.right
              have hbb : ((i2 : Int) == (k : Int) - 1) = decide (i2 + 1 = k) := by
                by_cases hh : i2 + 1 = k
                · rw [decide_eq_true hh]; simp; omega
                · rw [decide_eq_false hh]; simp; omega
              go_wp2_with fail
              go_roundw
              case rel => exact ⟨i2 + 1, σ3, P3, by omega, by go_num, HS2, HU2, h9, x8⟩
              case measure => simp [intOf]; omega
            · obtain rfl : i2 = k := by omega
              have HQ2 : Hid (σ2.busy = false ∧ allM σ2.s 0 = L1.drop (j + 1)) := Lib.hid ⟨hS1.out.1.idle fun i hi => by rw [HU.out.w, decide_eq_false_iff_not]; rw [hS1.out.2.2] at hi; omega, HU.out.book⟩
              go_wp2_with fail
              go_roundw
              case rel => exact ⟨j + 1, σ2, P2, by omega, by go_num, hS1, HQ2, hr, hx⟩
              case measure => simp [intOf]; omega
        · obtain rfl : j = L1.length := by omega
          have HE := Lib.hid (hS1.out.1.empty HQ.out.1 (by rw [HQ.out.2, List.drop_length]))
          have HF := Lib.hid (fun R w h => freeS p σ1 R w h)
          have HT := Lib.hid (fun R w h => tablesS p σ1 hS1.out.1.wf R w h)
          have HBZ := Lib.hid (fun R w h => busyS p σ1 R w h)
          rw [HQ.out.1] at HBZ
          rw [HE.out.1, hS1.out.2.1] at HF
          rw [HE.out.2] at HT
          clear HE HQ hS1
          go_wp2_with fail
          refine (HF.out _ _ hr).mono ?_; rintro e w7 ⟨rfl, hw⟩
          subst hw
          go_wp2_with fail
          refine (HT.out _ _ hr).mono ?_; rintro e w7 ⟨A7, c7, rfl, h7, x7⟩
          have h8 : Has _ (spaceAt p σ1 * (irow (.slice A7 1 c7) (allT σ1.s 0) * (mrow (.slice A L1.length c) L1 * (blk X #[(Value.int .i64) 0, (Value.int .i64) 0] 83 * old w w.heap.size)))) := h7.eq (by ac_rfl)
          have x8 := hx.trans x7
          clear hr hx h7 x7
          go_wp2_with fail
          refine (HBZ.out _ _ h8).mono ?_; rintro e w9 ⟨rfl, hw⟩
          subst hw
          go_wp2_with fail
          go_ret
          exact ⟨rfl, below_of1 h8.right.right.right.right x8⟩
end Go.Proofs.Ytegkimecdonfgaa
