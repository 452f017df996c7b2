/- The contract of the document's WayTo. -/
import Derived.Test.YtndhgomikpokpaaWkFind
import Derived.Test.YtndhgomikpokpaaRefEnt4
import Derived.Test.YtndhgomikpokpaaMem
namespace Go.Proofs.Ytndhgomikpokpaa
open Go.RowKit
set_option maxRecDepth 100000

theorem Has.set8 {w : World} {R : HProp} {b : Nat} {v0 v1 v2 v3 v4 v5 v6 v7 : Value} {t : TypeId} (h : Has w (blk b #[v0, v1, v2, v3, v4, v5, v6, v7] t * R)) (u0 u1 u2 u3 u4 u5 u6 u7 : Value) :
    Has (((((((((w.setCell ⟨b, 0, none⟩ u0).setCell ⟨b, 1, none⟩ u1).setCell ⟨b, 2, none⟩ u2).setCell ⟨b, 3, none⟩ u3).setCell ⟨b, 4, none⟩ u4).setCell ⟨b, 5, none⟩ u5).setCell ⟨b, 6, none⟩ u6).setCell ⟨b, 7, none⟩ u7)) (blk b #[u0, u1, u2, u3, u4, u5, u6, u7] t * R) := by
  have h0 : Has _ (blk b #[u0, v1, v2, v3, v4, v5, v6, v7] t * R) := h.set 0 u0
  have h1 : Has _ (blk b #[u0, u1, v2, v3, v4, v5, v6, v7] t * R) := h0.set 1 u1
  have h2 : Has _ (blk b #[u0, u1, u2, v3, v4, v5, v6, v7] t * R) := h1.set 2 u2
  have h3 : Has _ (blk b #[u0, u1, u2, u3, v4, v5, v6, v7] t * R) := h2.set 3 u3
  have h4 : Has _ (blk b #[u0, u1, u2, u3, u4, v5, v6, v7] t * R) := h3.set 4 u4
  have h5 : Has _ (blk b #[u0, u1, u2, u3, u4, u5, v6, v7] t * R) := h4.set 5 u5
  have h6 : Has _ (blk b #[u0, u1, u2, u3, u4, u5, u6, v7] t * R) := h5.set 6 u6
  have h7 : Has _ (blk b #[u0, u1, u2, u3, u4, u5, u6, u7] t * R) := h6.set 7 u7
  exact h7
theorem Has.cells8 {w : World} {R : HProp} {b : Nat} {v0 v1 v2 v3 v4 v5 v6 v7 : Value} {t : TypeId} (h : Has w (blk b #[v0, v1, v2, v3, v4, v5, v6, v7] t * R)) :
    w.cell? ⟨b, 0, none⟩ = some v0 ∧ w.cell? ⟨b, 1, none⟩ = some v1 ∧ w.cell? ⟨b, 2, none⟩ = some v2 ∧ w.cell? ⟨b, 3, none⟩ = some v3 ∧ w.cell? ⟨b, 4, none⟩ = some v4 ∧ w.cell? ⟨b, 5, none⟩ = some v5 ∧ w.cell? ⟨b, 6, none⟩ = some v6 ∧ w.cell? ⟨b, 7, none⟩ = some v7 :=
  ⟨h.cell 0, h.cell 1, h.cell 2, h.cell 3, h.cell 4, h.cell 5, h.cell 6, h.cell 7⟩
theorem Has.frees8 {w : World} {R : HProp} {b : Nat} {v0 v1 v2 v3 v4 v5 v6 v7 : Value} {t : TypeId} (h : Has w (blk b #[v0, v1, v2, v3, v4, v5, v6, v7] t * R)) :
    w.frozen? ⟨b, 0, none⟩ = false ∧ w.frozen? ⟨b, 1, none⟩ = false ∧ w.frozen? ⟨b, 2, none⟩ = false ∧ w.frozen? ⟨b, 3, none⟩ = false ∧ w.frozen? ⟨b, 4, none⟩ = false ∧ w.frozen? ⟨b, 5, none⟩ = false ∧ w.frozen? ⟨b, 6, none⟩ = false ∧ w.frozen? ⟨b, 7, none⟩ = false :=
  ⟨h.free 0, h.free 1, h.free 2, h.free 3, h.free 4, h.free 5, h.free 6, h.free 7⟩
theorem Ext.set8 {w0 w : World} (h : Ext w0 w) (b : Nat) (u0 u1 u2 u3 u4 u5 u6 u7 : Value) : Ext w0 (((((((((w.setCell ⟨b, 0, none⟩ u0).setCell ⟨b, 1, none⟩ u1).setCell ⟨b, 2, none⟩ u2).setCell ⟨b, 3, none⟩ u3).setCell ⟨b, 4, none⟩ u4).setCell ⟨b, 5, none⟩ u5).setCell ⟨b, 6, none⟩ u6).setCell ⟨b, 7, none⟩ u7)) :=
  ((((((((h.set _ _).set _ _).set _ _).set _ _).set _ _).set _ _).set _ _).set _ _)
theorem way_copy {w : World} {A X O : HProp} {b r : Nat} {v0 v1 v2 v3 v4 v5 v6 v7 z0 z1 z2 z3 z4 z5 z6 z7 : Value} {t : TypeId} (h : Has w (A * (blk b #[v0, v1, v2, v3, v4, v5, v6, v7] t * (X * (blk r #[z0, z1, z2, z3, z4, z5, z6, z7] t * O))))) (u1 u2 u3 u4 u5 u6 : Value) :
    Has ((((((((((((((w.setCell ⟨b, 1, none⟩ u1).setCell ⟨b, 2, none⟩ u2).setCell ⟨b, 3, none⟩ u3).setCell ⟨b, 4, none⟩ u4).setCell ⟨b, 5, none⟩ u5).setCell ⟨b, 6, none⟩ u6).setCell ⟨r, 0, none⟩ v0).setCell ⟨r, 1, none⟩ u1).setCell ⟨r, 2, none⟩ u2).setCell ⟨r, 3, none⟩ u3).setCell ⟨r, 4, none⟩ u4).setCell ⟨r, 5, none⟩ u5).setCell ⟨r, 6, none⟩ u6).setCell ⟨r, 7, none⟩ v7) (blk r #[v0, u1, u2, u3, u4, u5, u6, v7] t * (A * O)) := by
  have h1 := h.drop3
  rw [star_left_comm A] at h1
  have s1 : Has _ (blk b #[v0, u1, v2, v3, v4, v5, v6, v7] t * _) := h1.set 1 u1
  have s2 : Has _ (blk b #[v0, u1, u2, v3, v4, v5, v6, v7] t * _) := s1.set 2 u2
  have s3 : Has _ (blk b #[v0, u1, u2, u3, v4, v5, v6, v7] t * _) := s2.set 3 u3
  have s4 : Has _ (blk b #[v0, u1, u2, u3, u4, v5, v6, v7] t * _) := s3.set 4 u4
  have s5 : Has _ (blk b #[v0, u1, u2, u3, u4, u5, v6, v7] t * _) := s4.set 5 u5
  have s6 : Has _ (blk b #[v0, u1, u2, u3, u4, u5, u6, v7] t * _) := s5.set 6 u6
  have h2 := s6.right
  rw [star_left_comm A] at h2
  exact h2.set8 _ _ _ _ _ _ _ _
theorem load_way {w : World} {R : HProp} {b : Nat} {v0 v1 v2 v3 v4 v5 v6 v7 : Value} (h : Has w (blk b #[v0, v1, v2, v3, v4, v5, v6, v7] 60 * R)) : (loadVar 60 ⟨b, 0, none⟩).run Try.prog w = .ok (.agg #[v0, v1, v2, v3, v4, v5, v6, v7]) w :=
  run_loadVar_row w b 60 60 _ _ _ h.heap Try.underlying60 rfl (by kernel_rfl)
theorem way_set0 {w : World} {A C : HProp} {b : Nat} {v0 v1 v2 v3 v4 v5 v6 v7 : Value} {t : TypeId} (h : Has w (A * (blk b #[v0, v1, v2, v3, v4, v5, v6, v7] t * C))) (u : Value) :
    Has (w.setCell ⟨b, 0, none⟩ u) (A * (blk b #[u, v1, v2, v3, v4, v5, v6, v7] t * C)) := by
  rw [star_left_comm A] at h
  have h1 : Has _ (blk b #[u, v1, v2, v3, v4, v5, v6, v7] t * _) := h.set 0 u
  rw [star_left_comm A]
  exact h1
theorem way_set7 {w : World} {A C : HProp} {b : Nat} {v0 v1 v2 v3 v4 v5 v6 v7 : Value} {t : TypeId} (h : Has w (A * (blk b #[v0, v1, v2, v3, v4, v5, v6, v7] t * C))) (u : Value) :
    Has (w.setCell ⟨b, 7, none⟩ u) (A * (blk b #[v0, v1, v2, v3, v4, v5, v6, u] t * C)) := by
  rw [star_left_comm A] at h
  have h1 : Has _ (blk b #[v0, v1, v2, v3, v4, v5, v6, u] t * _) := h.set 7 u
  rw [star_left_comm A]
  exact h1
theorem way_snoc {w : World} {u : Value} {l : List Int} {x : Int} {C : HProp} (h : Has w (row 3 1 u (l.length + 1) (l.map (Value.int .i64) ++ [(Value.int .i64) x]) * C)) : Has w (irow u (l ++ [x]) * C) := by
  unfold irow
  rw [List.length_append, List.length_singleton, List.map_append]
  exact h
theorem ent_set {w : World} {A B C : HProp} {b : Nat} {z0 z1 z2 z3 z4 z5 : Value} {t : TypeId} (h : Has w (A * (B * (blk b #[z0, z1, z2, z3, z4, z5] t * C)))) (u0 u1 u2 u3 u4 u5 : Value) :
    Has ((((((w.setCell ⟨b, 0, none⟩ u0).setCell ⟨b, 1, none⟩ u1).setCell ⟨b, 2, none⟩ u2).setCell ⟨b, 3, none⟩ u3).setCell ⟨b, 4, none⟩ u4).setCell ⟨b, 5, none⟩ u5) (A * (B * (blk b #[u0, u1, u2, u3, u4, u5] t * C))) := by
  rw [star_left_comm B, star_left_comm A] at h
  have h1 := h.set6 u0 u1 u2 u3 u4 u5
  rw [star_left_comm B, star_left_comm A]
  exact h1
def wayV (y : Wy) (A : Option Addr) (n c : Nat) : Value := .tuple #[.agg #[.slice A n c, Value.bool y.e.there, Value.bool y.e.leaf, (Value.int .i64) y.e.rights, Value.bool y.e.used, Value.bool y.e.dirty, (Value.int .i64) y.e.frame, (Value.int .i64) y.lev], (Value.int .i64) y.code]
def FoundRef (y : Wy) (w : World) (e : Ending) (w' : World) : Prop :=
  ∃ A c, e = .returned (wayV y A y.tabs.length c) ∧ Has w' (irow (.slice A y.tabs.length c) y.tabs * old w w.heap.size) ∧ Ext w w'
/-- The level that stands in a way. -/
def levR (w : World) (b : Nat) : Nat := match w.cell? ⟨b, 7, none⟩ with | some (.int _ n) => n.toNat | _ => 0
set_option maxHeartbeats 4000000 in
theorem wayTo_any (q : Nat) (s : Ms) (root p : Int) (R : HProp) (w : World) (hs : s.Ok) (h : Has w (memAt q s * R)) :
    Calls Try.prog 26 #[.pointer (some ⟨q, 0, none⟩), .int .i64 root, .int .i64 p] w (FoundRef (way s root p) w) := by
  have h1 := (has_old w).new #[.slice none 0 0, Value.bool false, Value.bool false, (Value.int .i64) 0, Value.bool false, Value.bool false, (Value.int .i64) 0, (Value.int .i64) 0] 60
  have x1 := (Ext.refl w).alloc (.cells #[.slice none 0 0, Value.bool false, Value.bool false, (Value.int .i64) 0, Value.bool false, Value.bool false, (Value.int .i64) 0, (Value.int .i64) 0] 60)
  cases hp : hasB p with
  | false =>
    have hy := Lib.hid (show way s root p = .err 1 by unfold way; rw [hp]; rfl)
    by_cases p0 : p < 0
    · go_enter Try.func26, Try.ntmps26
      go_wp2_with fail
      refine ret_via (fun wz => Has wz (blk w.heap.size #[.slice none 0 0, Value.bool false, Value.bool false, (Value.int .i64) 0, Value.bool false, Value.bool false, (Value.int .i64) 0, (Value.int .i64) 0] 60 * old w w.heap.size) ∧ Ext w wz) ⟨h1, x1⟩ ?_
      rintro wz ⟨hz, xz⟩
      exact bodyPost_ret (results_ct Try.results26 rfl rfl (load_way hz)) rfl ⟨none, 0, by rw [hy.out]; rfl, by rw [hy.out]; exact Has.rowNil hz.right, xz⟩
    · have p4 : 4096 ≤ p := by unfold hasB at hp; simp at hp; omega
      go_enter Try.func26, Try.ntmps26
      go_wp2_with fail
      refine ret_via (fun wz => Has wz (blk w.heap.size #[.slice none 0 0, Value.bool false, Value.bool false, (Value.int .i64) 0, Value.bool false, Value.bool false, (Value.int .i64) 0, (Value.int .i64) 0] 60 * old w w.heap.size) ∧ Ext w wz) ⟨h1, x1⟩ ?_
      rintro wz ⟨hz, xz⟩
      exact bodyPost_ret (results_ct Try.results26 rfl rfl (load_way hz)) rfl ⟨none, 0, by rw [hy.out]; rfl, by rw [hy.out]; exact Has.rowNil hz.right, xz⟩
  | true =>
    have hp' : 0 ≤ p ∧ p < 4096 := by unfold hasB at hp; simpa using hp
    obtain ⟨p0, p4⟩ := hp'
    have hwy := Lib.hid (show way s root p = wayA s p 3 root [] by unfold way; rw [if_pos hp])
    have h2 := h1.new #[.slice none 0 0, Value.bool false, Value.bool false, (Value.int .i64) 0, Value.bool false, Value.bool false, (Value.int .i64) 0, (Value.int .i64) 3] 60
    have x2 := x1.alloc (.cells #[.slice none 0 0, Value.bool false, Value.bool false, (Value.int .i64) 0, Value.bool false, Value.bool false, (Value.int .i64) 0, (Value.int .i64) 3] 60)
    simp only [World.size_alloc] at h2
    have h3 : Has ((w.alloc (.cells #[.slice none 0 0, Value.bool false, Value.bool false, (Value.int .i64) 0, Value.bool false, Value.bool false, (Value.int .i64) 0, (Value.int .i64) 0] 60)).alloc (.cells #[.slice none 0 0, Value.bool false, Value.bool false, (Value.int .i64) 0, Value.bool false, Value.bool false, (Value.int .i64) 0, (Value.int .i64) 3] 60))
        (irow (.slice none 0 0) [] * (blk (w.heap.size + 1) #[.slice none 0 0, Value.bool false, Value.bool false, (Value.int .i64) 0, Value.bool false, Value.bool false, (Value.int .i64) 0, (Value.int .i64) 3] 60 * (blk w.heap.size #[.slice none 0 0, Value.bool false, Value.bool false, (Value.int .i64) 0, Value.bool false, Value.bool false, (Value.int .i64) 0, (Value.int .i64) 0] 60 * old w w.heap.size))) := Has.rowNil h2
    clear h1 x1 h2
    go_enter Try.func26, Try.ntmps26
    go_wp2_with fail
    go_loopw [9] (fun s9 wr => ∃ (L : Nat) (t : Int) (acc : List Int) (A : Option Addr) (c : Nat), s9 = (Value.int .i64) t ∧ acc.length + L = 3 ∧ Hid (wayA s p 3 root [] = wayA s p L t acc) ∧
        Has wr (irow (.slice A acc.length c) acc * (blk (w.heap.size + 1) #[.slice A acc.length c, Value.bool false, Value.bool false, (Value.int .i64) 0, Value.bool false, Value.bool false, (Value.int .i64) 0, (Value.int .i64) L] 60 * (blk w.heap.size #[.slice none 0 0, Value.bool false, Value.bool false, (Value.int .i64) 0, Value.bool false, Value.bool false, (Value.int .i64) 0, (Value.int .i64) 0] 60 * old w w.heap.size))) ∧ Ext w wr)
      (fun _ wr => levR wr (w.heap.size + 1))
    case atStart => exact ⟨3, root, [], none, 0, rfl, rfl, Lib.hid rfl, h3, x2⟩
    case round =>
      clear h3 x2
      obtain ⟨L, t, acc, A, c, rfl, hL, HW, hr, hx⟩ := hrel
      have hlev := Lib.hid (show levR wr (w.heap.size + 1) = L by unfold levR; rw [hr.right.cell 7]; rfl)
      have hL3 : (L : Int) ≤ 3 := by omega
      have hL0 : (0 : Int) ≤ L := by omega
      have hM : Has wr (memAt q s * R) := (h.onto' (hr.eq (show _ = (irow (.slice A acc.length c) acc * (blk (w.heap.size + 1) #[.slice A acc.length c, Value.bool false, Value.bool false, (Value.int .i64) 0, Value.bool false, Value.bool false, (Value.int .i64) 0, (Value.int .i64) L] 60 * blk w.heap.size #[.slice none 0 0, Value.bool false, Value.bool false, (Value.int .i64) 0, Value.bool false, Value.bool false, (Value.int .i64) 0, (Value.int .i64) 0] 60)) * old w w.heap.size by simp only [star_assoc]))).right
      have hTK := takenM q s t R wr hM
      cases ht : s.has t with
      | false =>
        rw [ht] at hTK
        have hy := Lib.hid (show way s root p = .err 12 by rw [hwy.out, HW.out]; exact wayA_free ht)
        clear ht
        obtain ⟨r0, r1, r2, r3, r4, r5, r6, r7⟩ := hr.right.right.cells8
        obtain ⟨g0, g1, g2, g3, g4, g5, g6, g7⟩ := hr.right.right.frees8
        have rl := hr.right.right.lt
        go_wp2_with fail
        refine hTK.mono ?_; rintro e w2 ⟨rfl, rfl⟩
        go_wp2_with fail
        refine ret_via (fun wz => Has wz (blk w.heap.size #[.slice none 0 0, Value.bool false, Value.bool false, (Value.int .i64) 0, Value.bool false, Value.bool false, (Value.int .i64) 0, (Value.int .i64) 0] 60 * old w w.heap.size) ∧ Ext w wz) ⟨hr.right.right.set8 _ _ _ _ _ _ _ _, hx.set8 _ _ _ _ _ _ _ _ _⟩ ?_
        rintro wz ⟨hz, xz⟩
        exact bodyPost_ret (results_ct Try.results26 rfl rfl (load_way hz)) rfl ⟨none, 0, by rw [hy.out]; rfl, by rw [hy.out]; exact Has.rowNil hz.right, xz⟩
      | true =>
        rw [ht] at hTK
        obtain ⟨i0, i8⟩ := index_le hp hL0 hL3
        obtain ⟨k0, k1, _⟩ := Ms.has_iff.1 ht
        obtain ⟨gw, gi, vk, hq⟩ := memAt_open hM
        have hb := hs.inv.wok t.toNat (index p L).toNat
        have HD := Lib.hid (fun W => entryOf_any (wordV s t (index p L)) L W hb.1 hb.2)
        have HI := Lib.hid (indexOf_any p L)
        have hq0 := hq.cell 0
        have hword : wr.cell? ⟨gw, t.toNat * 8 + (index p L).toNat, none⟩ = some ((Value.int .u64) (wordV s t (index p L))) := mem_word hq (k := t.toNat) (i := (index p L).toNat) (by omega) (by omega)
        have ql := hq.lt
        have gl := hq.right.lt
        have cl := hr.right.lt
        clear hb hM
        have c7 : wr.cell? ⟨w.heap.size + 1, 7, none⟩ = some ((Value.int .i64) L) := hr.right.cell 7
        have hy := Lib.hid (show way s root p = wayA s p L t acc by rw [hwy.out, HW.out])
        have hbad := Lib.hid (fun he => wayA_bad (acc := acc) (L := L) (p := p) ht he)
        have hend := Lib.hid (fun hc he => wayA_end (acc := acc) (L := L) (p := p) ht hc he)
        have hon := Lib.hid (fun hc he => wayA_on (acc := acc) (L := L) (p := p) ht hc he)
        have hzero := Lib.hid (fun hc => decE_fault (w := wordV s t (index p L)) (l := L) hc)
        unfold decV at HD
        clear HW ht
        generalize decC (wordV s t (index p L)) L = code at *
        generalize decE (wordV s t (index p L)) L = e at *
        generalize wordV s t (index p L) = v at *
        generalize index p L = ix at *
        obtain ⟨t, rfl⟩ := Int.eq_ofNat_of_zero_le k0
        obtain ⟨ix, rfl⟩ := Int.eq_ofNat_of_zero_le i0
        simp only [Int.toNat_natCast] at hword
        have hSB : ∀ (w1 w2 : World), Below w1.heap.size w1 w2 → (w1.cell? ⟨q, 0, none⟩ = some (.slice (some ⟨gw, 0, none⟩) s.n s.n) ∧ w1.cell? ⟨gw, t * 8 + ix, none⟩ = some ((Value.int .u64) v) ∧ w1.cell? ⟨w.heap.size + 1, 7, none⟩ = some ((Value.int .i64) L)) → w2.cell? ⟨q, 0, none⟩ = some (.slice (some ⟨gw, 0, none⟩) s.n s.n) ∧ w2.cell? ⟨gw, t * 8 + ix, none⟩ = some ((Value.int .u64) v) ∧ w2.cell? ⟨w.heap.size + 1, 7, none⟩ = some ((Value.int .i64) L) := fun w1 w2 b h =>
          ⟨(b.cell (World.block_lt_of_cell? _ _ h.1)).trans h.1, (b.cell (World.block_lt_of_cell? _ _ h.2.1)).trans h.2.1, (b.cell (World.block_lt_of_cell? _ _ h.2.2)).trans h.2.2⟩
        have HSB := Lib.hid hSB
        have hSA : ∀ (w1 : World) (o : Obj), (w1.cell? ⟨q, 0, none⟩ = some (.slice (some ⟨gw, 0, none⟩) s.n s.n) ∧ w1.cell? ⟨gw, t * 8 + ix, none⟩ = some ((Value.int .u64) v) ∧ w1.cell? ⟨w.heap.size + 1, 7, none⟩ = some ((Value.int .i64) L)) → (w1.alloc o).cell? ⟨q, 0, none⟩ = some (.slice (some ⟨gw, 0, none⟩) s.n s.n) ∧ (w1.alloc o).cell? ⟨gw, t * 8 + ix, none⟩ = some ((Value.int .u64) v) ∧ (w1.alloc o).cell? ⟨w.heap.size + 1, 7, none⟩ = some ((Value.int .i64) L) := fun w1 o h =>
          hSB w1 (w1.alloc o) ((Below.refl _ _).alloc (Nat.le_refl _) _) h
        have HSA := Lib.hid hSA
        have hS6 : ∀ (w1 : World) (E : Nat) (u0 u1 u2 u3 u4 u5 : Value), E ≠ q → E ≠ gw → E ≠ w.heap.size + 1 → (w1.cell? ⟨q, 0, none⟩ = some (.slice (some ⟨gw, 0, none⟩) s.n s.n) ∧ w1.cell? ⟨gw, t * 8 + ix, none⟩ = some ((Value.int .u64) v) ∧ w1.cell? ⟨w.heap.size + 1, 7, none⟩ = some ((Value.int .i64) L)) → ((((((w1.setCell ⟨E, 0, none⟩ u0).setCell ⟨E, 1, none⟩ u1).setCell ⟨E, 2, none⟩ u2).setCell ⟨E, 3, none⟩ u3).setCell ⟨E, 4, none⟩ u4).setCell ⟨E, 5, none⟩ u5).cell? ⟨q, 0, none⟩ = some (.slice (some ⟨gw, 0, none⟩) s.n s.n) ∧ ((((((w1.setCell ⟨E, 0, none⟩ u0).setCell ⟨E, 1, none⟩ u1).setCell ⟨E, 2, none⟩ u2).setCell ⟨E, 3, none⟩ u3).setCell ⟨E, 4, none⟩ u4).setCell ⟨E, 5, none⟩ u5).cell? ⟨gw, t * 8 + ix, none⟩ = some ((Value.int .u64) v) ∧ ((((((w1.setCell ⟨E, 0, none⟩ u0).setCell ⟨E, 1, none⟩ u1).setCell ⟨E, 2, none⟩ u2).setCell ⟨E, 3, none⟩ u3).setCell ⟨E, 4, none⟩ u4).setCell ⟨E, 5, none⟩ u5).cell? ⟨w.heap.size + 1, 7, none⟩ = some ((Value.int .i64) L) := fun w1 E u0 u1 u2 u3 u4 u5 e1 e2 e3 h => by
          refine ⟨?_, ?_, ?_⟩
          · iterate 6 rw [World.cell?_setCell_far _ _ _ _ e1]
            exact h.1
          · iterate 6 rw [World.cell?_setCell_far _ _ _ _ e2]
            exact h.2.1
          · iterate 6 rw [World.cell?_setCell_far _ _ _ _ e3]
            exact h.2.2
        have HS6 := Lib.hid hS6
        clear hSB hSA hS6
        go_wp2_with fail
        refine hTK.mono ?_; rintro e2 w2 ⟨rfl, rfl⟩
        go_upto_region 7 with fail
        go_cut [10, 11] (fun s10 s11 wx => ∃ E : Nat, s10 = .pointer (some ⟨E, 0, none⟩) ∧ s11 = (Value.int .i64) code ∧ Has wx (irow (.slice A acc.length c) acc * (blk (w.heap.size + 1) #[.slice A acc.length c, Value.bool false, Value.bool false, (Value.int .i64) 0, Value.bool false, Value.bool false, (Value.int .i64) 0, (Value.int .i64) L] 60 * (blk E #[Value.bool e.there, Value.bool e.leaf, (Value.int .i64) e.rights, Value.bool e.used, Value.bool e.dirty, (Value.int .i64) e.frame] 58 * (blk w.heap.size #[.slice none 0 0, Value.bool false, Value.bool false, (Value.int .i64) 0, Value.bool false, Value.bool false, (Value.int .i64) 0, (Value.int .i64) 0] 60 * old w w.heap.size)))) ∧ Ext w wx)
        case first =>
          have n1 := World.new_ne wr _ hq0
          have n2 := World.new_ne wr _ hword
          have n3 := World.new_ne wr _ c7
          go_wp2_with fail
          go_region_held3 (fun w' => w'.cell? ⟨q, 0, none⟩ = some (.slice (some ⟨gw, 0, none⟩) s.n s.n) ∧ w'.cell? ⟨gw, t * 8 + ix, none⟩ = some ((Value.int .u64) v) ∧ w'.cell? ⟨w.heap.size + 1, 7, none⟩ = some ((Value.int .i64) L)) (first | with_reducible exact ⟨hq0, hword, c7⟩ | with_reducible exact s6 | with_reducible exact s5 | (with_reducible exact HSA.out _ _ ⟨hq0, hword, c7⟩) | (with_reducible exact HSA.out _ _ s5) | (with_reducible exact HSA.out _ _ s6) | (with_reducible refine HS6.out _ _ _ _ _ _ _ _ ?_ ?_ ?_ s6; (first | exact n1 | exact World.new_ne w5 _ s5.1); (first | exact n2 | exact World.new_ne w5 _ s5.2.1); (first | exact n3 | exact World.new_ne w5 _ s5.2.2)) | exact HSA.out wr (.cells #[Value.bool false, Value.bool false, (Value.int .i64) 0, Value.bool false, Value.bool false, (Value.int .i64) 0] 58) ⟨hq0, hword, c7⟩ | exact ⟨hq0, hword, c7⟩) (first | (go_at_call 31; refine (HI.out _).mono ?_; rintro e2 w5 ⟨rfl, b5⟩; have s5 := HSB.out _ _ b5 (by first | with_reducible exact ⟨hq0, hword, c7⟩ | exact HSA.out wr (.cells #[Value.bool false, Value.bool false, (Value.int .i64) 0, Value.bool false, Value.bool false, (Value.int .i64) 0] 58) ⟨hq0, hword, c7⟩ | exact ⟨hq0, hword, c7⟩); first | (have z5 := Has.below (Has.drew (Has.new (has_old wr) #[Value.bool false, Value.bool false, (Value.int .i64) 0, Value.bool false, Value.bool false, (Value.int .i64) 0] 58)) b5) | skip) | (go_at_call 107; refine (HD.out _).mono ?_; rintro e2 w6 ⟨rfl, b6⟩; have s6 := HSB.out _ _ b6 (by first | exact s5 | exact HSA.out _ _ s5); first | (have z6 := z5.below b6; obtain ⟨q0, q1, q2, q3, q4, q5⟩ := z6.cells6; obtain ⟨y0, y1, y2, y3, y4, y5⟩ := z6.frees6; have zl := z6.lt) | (have z6 := Has.below (Has.new (has_old w5) #[Value.bool false, Value.bool false, (Value.int .i64) 0, Value.bool false, Value.bool false, (Value.int .i64) 0] 58) b6; obtain ⟨q0, q1, q2, q3, q4, q5⟩ := z6.cells6; obtain ⟨y0, y1, y2, y3, y4, y5⟩ := z6.frees6; have zl := z6.lt) | skip))
          all_goals
            go_wp2_with fail
            go_meet
            case rel => first
              | with_reducible exact ⟨w6.heap.size, rfl, rfl, ((hr.drew.below b5).below b6).build #[Value.bool e.there, Value.bool e.leaf, (Value.int .i64) e.rights, Value.bool e.used, Value.bool e.dirty, (Value.int .i64) e.frame] 58, ((hx.drew.below b5).below b6).alloc _⟩
              | with_reducible exact ⟨w5.heap.size, rfl, rfl, ent_set (((hr.drew.below b5).build #[Value.bool false, Value.bool false, (Value.int .i64) 0, Value.bool false, Value.bool false, (Value.int .i64) 0] 58).below b6) _ _ _ _ _ _, ((((((((hx.drew.below b5).alloc _).below b6).set _ _).set _ _).set _ _).set _ _).set _ _).set _ _⟩
              | with_reducible exact ⟨wr.heap.size, rfl, rfl, ent_set (((hr.build #[Value.bool false, Value.bool false, (Value.int .i64) 0, Value.bool false, Value.bool false, (Value.int .i64) 0] 58).drew.below b5).below b6) _ _ _ _ _ _, ((((((((hx.alloc _).drew.below b5).below b6).set _ _).set _ _).set _ _).set _ _).set _ _).set _ _⟩
              | trace_state
        case rest =>
          obtain ⟨E, rfl, rfl, hr2, hx2⟩ := hcut
          clear hr hx hq hq0 hword ql gl cl c7 hTK HI HD HSB HSA HS6
          obtain ⟨c0, c1, c2, c3, c4, c5, c6, c7⟩ := hr2.right.cells8
          obtain ⟨f0, f1, f2, f3, f4, f5, f6, f7⟩ := hr2.right.frees8
          have cl := hr2.right.lt
          obtain ⟨e0, e1, e2, e3, e4, e5⟩ := hr2.right.right.cells6
          have el := hr2.right.right.lt
          have hE := hr2.right.right.right
          obtain ⟨r0, r1, r2, r3, r4, r5, r6, r7⟩ := hE.cells8
          obtain ⟨g0, g1, g2, g3, g4, g5, g6, g7⟩ := hE.frees8
          have rl := hE.lt
          have hne : w.heap.size + 1 ≠ w.heap.size := by omega
          by_cases hc : code = 0
          case neg =>
            have hyy := Lib.hid (hy.out.trans (hbad.out hc))
            clear hy
            have hy := hyy
            have hn : (code != 0) = true := by simpa using hc
            go_wp2_with fail
            refine ret_via (fun wz => Has wz (blk w.heap.size #[.slice none 0 0, Value.bool false, Value.bool false, (Value.int .i64) 0, Value.bool false, Value.bool false, (Value.int .i64) 0, (Value.int .i64) 0] 60 * old w w.heap.size) ∧ Ext w wz) ⟨hE.set8 _ _ _ _ _ _ _ _, hx2.set8 _ _ _ _ _ _ _ _ _⟩ ?_
            rintro wz ⟨hz, xz⟩
            exact bodyPost_ret (results_ct Try.results26 rfl rfl (load_way hz)) rfl ⟨none, 0, by rw [hy.out]; rfl, by rw [hy.out]; exact Has.rowNil hz.right, xz⟩
          subst hc
          have hrow := hr2.alloc (.cells #[(Value.int .i64) (t : Int)] 3)
          clear r0 r1 r2 r3 r4 r5 r6 r7 g0 g1 g2 g3 g4 g5 g6 g7
          go_upto_region 10 with fail
          go_cut [] (fun wx => ∃ (A' : Option Addr) (c' : Nat), Has wx (irow (.slice A' (acc.length + 1) c') (acc ++ [(t : Int)]) * (blk (w.heap.size + 1) #[.slice A' (acc.length + 1) c', Value.bool false, Value.bool false, (Value.int .i64) 0, Value.bool false, Value.bool false, (Value.int .i64) 0, (Value.int .i64) L] 60 * (blk E #[Value.bool e.there, Value.bool e.leaf, (Value.int .i64) e.rights, Value.bool e.used, Value.bool e.dirty, (Value.int .i64) e.frame] 58 * (blk w.heap.size #[.slice none 0 0, Value.bool false, Value.bool false, (Value.int .i64) 0, Value.bool false, Value.bool false, (Value.int .i64) 0, (Value.int .i64) 0] 60 * old w w.heap.size)))) ∧ Ext w wx)
          case first =>
            go_wp2_with (at_builtin; refine wpList_append_has rfl _ _ 56 rfl Try.underlying56 elemI _ _ _ rfl hrow ⟨wc.heap.size, 0, none⟩ 1 1 [(Value.int .i64) (t : Int)] rfl rfl (news_one _ _ _) ?k1 ?k2 ?k3 ?_)
            case k1 => rfl
            case k2 => unfold maxLen; omega
            case k3 => omega
            intro v' w7 h7 x7
            obtain ⟨A', c', rfl⟩ := h7.rowForm
            have y0 := h7.right.cell 0
            have y1 := h7.right.free 0
            have yl := h7.right.lt
            go_wp2_with fail
            go_meet
            case rel => exact ⟨A', c', way_snoc (way_set0 h7 _), ((hx2.alloc _).trans x7).set _ _⟩
          case rest =>
            obtain ⟨A', c', hr, hx⟩ := hcut
            clear hr2 hx2 hrow c0 c1 c2 c3 c4 c5 c6 c7 f0 f1 f2 f3 f4 f5 f6 f7 cl e0 e1 e2 e3 e4 e5 el hE rl
            obtain ⟨c0, c1, c2, c3, c4, c5, c6, c7⟩ := hr.right.cells8
            obtain ⟨f0, f1, f2, f3, f4, f5, f6, f7⟩ := hr.right.frees8
            have cl := hr.right.lt
            obtain ⟨e0, e1, e2, e3, e4, e5⟩ := hr.right.right.cells6
            have el := hr.right.right.lt
            have hE := hr.right.right.right
            obtain ⟨r0, r1, r2, r3, r4, r5, r6, r7⟩ := hE.cells8
            obtain ⟨g0, g1, g2, g3, g4, g5, g6, g7⟩ := hE.frees8
            have rl := hE.lt
            by_cases hend1 : e.there = false ∨ e.leaf = true
            · have hyy := Lib.hid (hy.out.trans (hend.out rfl hend1))
              obtain ⟨th, lf, rg, us, di, fr⟩ := e
              dsimp only at *
              cases th with
              | false =>
                go_wp2_with fail
                refine ret_via (fun wz => Has wz (blk w.heap.size #[.slice A' (acc.length + 1) c', Value.bool false, Value.bool lf, (Value.int .i64) rg, Value.bool us, Value.bool di, (Value.int .i64) fr, (Value.int .i64) L] 60 * (irow (.slice A' (acc.length + 1) c') (acc ++ [(t : Int)]) * old w w.heap.size)) ∧ Ext w wz) ⟨way_copy hr _ _ _ _ _ _, Ext.set8 ((((((hx.set _ _).set _ _).set _ _).set _ _).set _ _).set _ _) _ _ _ _ _ _ _ _ _⟩ ?_
                rintro wz ⟨hz, xz⟩
                have hlen : (acc ++ [(t : Int)]).length = acc.length + 1 := by rw [List.length_append, List.length_singleton]
                refine bodyPost_ret (results_ct Try.results26 rfl rfl (load_way hz)) rfl ?_
                rw [hyy.out]
                refine ⟨A', c', ?_, ?_, xz⟩
                · show _ = Ending.returned (wayV _ A' (acc ++ [(t : Int)]).length c')
                  rw [hlen]
                  rfl
                · show Has wz (irow (.slice A' (acc ++ [(t : Int)]).length c') (acc ++ [(t : Int)]) * old w w.heap.size)
                  rw [hlen]
                  exact hz.right
              | true =>
                cases lf with
                | true =>
                  go_wp2_with fail
                  refine ret_via (fun wz => Has wz (blk w.heap.size #[.slice A' (acc.length + 1) c', Value.bool true, Value.bool true, (Value.int .i64) rg, Value.bool us, Value.bool di, (Value.int .i64) fr, (Value.int .i64) L] 60 * (irow (.slice A' (acc.length + 1) c') (acc ++ [(t : Int)]) * old w w.heap.size)) ∧ Ext w wz) ⟨way_copy hr _ _ _ _ _ _, Ext.set8 ((((((hx.set _ _).set _ _).set _ _).set _ _).set _ _).set _ _) _ _ _ _ _ _ _ _ _⟩ ?_
                  rintro wz ⟨hz, xz⟩
                  have hlen : (acc ++ [(t : Int)]).length = acc.length + 1 := by rw [List.length_append, List.length_singleton]
                  refine bodyPost_ret (results_ct Try.results26 rfl rfl (load_way hz)) rfl ?_
                  rw [hyy.out]
                  refine ⟨A', c', ?_, ?_, xz⟩
                  · show _ = Ending.returned (wayV _ A' (acc ++ [(t : Int)]).length c')
                    rw [hlen]
                    rfl
                  · show Has wz (irow (.slice A' (acc ++ [(t : Int)]).length c') (acc ++ [(t : Int)]) * old w w.heap.size)
                    rw [hlen]
                    exact hz.right
                | false => rcases hend1 with h | h <;> cases h
            · have h12 : e.there = true ∧ e.leaf = false := by
                cases h1 : e.there <;> cases h2 : e.leaf <;> simp_all
              obtain ⟨h1, h2⟩ := h12
              obtain ⟨K, rfl, hK⟩ := hon.out rfl hend1
              have hwr : IntKind.i64.wrap (((K + 1 : Nat) : Int) - 1) = (K : Int) := by rw [IntKind.wrap_i64]; omega
              go_wp2_with fail
              go_roundw
              case rel =>
                refine ⟨K, e.frame, acc ++ [(t : Int)], A', c', rfl, by rw [List.length_append, List.length_singleton]; omega, Lib.hid ?_, ?_, hx.set _ _⟩
                · rw [← hK, ← hy.out, ← hwy.out]
                · rw [List.length_append, List.length_singleton]
                  exact (way_set7 hr _).drop3
              case measure =>
                rw [hlev.out]
                unfold levR
                rw [World.cell?_setCell_same _ _ _ c7]
                simp
end Go.Proofs.Ytndhgomikpokpaa
