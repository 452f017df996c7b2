/- The contract of walk.Find. -/
import Derived.Test.YtmfheghbgihdmaaFrames2
import Derived.Test.YtmfheghbgihdmaaWalkM2
import Derived.Test.YtmfheghbgihdmaaEntry2
import Derived.Test.YtmfheghbgihdmaaTblM3
import Derived.Deep.Cut
namespace Go.Proofs.Ytmfheghbgihdmaa
open Go.RowKit
set_option maxRecDepth 100000
/-- A row of ints at value v. -/
def irow (v : Value) (l : List Int) : HProp := row 3 1 v l.length (l.map (Value.int .i64))
theorem index_le {p L : Int} (hp : hasB p = true) (h0 : 0 ≤ L) (h3 : L ≤ 3) : 0 ≤ index p L ∧ index p L < 8 := by
  have hp' : 0 ≤ p ∧ p < 4096 := by unfold hasB at hp; simpa using hp
  obtain ⟨L, rfl⟩ := Int.eq_ofNat_of_zero_le h0
  rw [index_eq hp'.1 hp'.2 (by omega)]
  omega
theorem hasW_index {s : Ms} {t p L : Int} (hp : hasB p = true) (h0 : 0 ≤ L) (h3 : L ≤ 3) : s.hasW t (index p L) = s.has t := by
  obtain ⟨i0, i8⟩ := index_le hp h0 h3
  unfold Ms.hasW
  simp [i0, i8]
/-- Places on a way. -/
def placesOf (p : Int) (n : Nat) : List Int := (List.range n).map fun (i : Nat) => index p (3 - (i : Int))
theorem placesOf_succ (p : Int) (n : Nat) : placesOf p (n + 1) = placesOf p n ++ [index p (3 - (n : Int))] := by simp [placesOf, List.range_succ]
theorem placesOf_len (p : Int) (n : Nat) : (placesOf p n).length = n := by simp [placesOf]
theorem Has.set9 {w : World} {R : HProp} {b : Nat} {v0 v1 v2 v3 v4 v5 v6 v7 v8 : Value} {t : TypeId} (h : Has w (blk b #[v0, v1, v2, v3, v4, v5, v6, v7, v8] t * R)) (u0 u1 u2 u3 u4 u5 u6 u7 u8 : Value) :
    Has ((((((((((w.setCell ⟨b, 0, none⟩ u0).setCell ⟨b, 1, none⟩ u1).setCell ⟨b, 2, none⟩ u2).setCell ⟨b, 3, none⟩ u3).setCell ⟨b, 4, none⟩ u4).setCell ⟨b, 5, none⟩ u5).setCell ⟨b, 6, none⟩ u6).setCell ⟨b, 7, none⟩ u7).setCell ⟨b, 8, none⟩ u8)) (blk b #[u0, u1, u2, u3, u4, u5, u6, u7, u8] t * R) := by
  have h0 : Has _ (blk b #[u0, v1, v2, v3, v4, v5, v6, v7, v8] t * R) := h.set 0 u0
  have h1 : Has _ (blk b #[u0, u1, v2, v3, v4, v5, v6, v7, v8] t * R) := h0.set 1 u1
  have h2 : Has _ (blk b #[u0, u1, u2, v3, v4, v5, v6, v7, v8] t * R) := h1.set 2 u2
  have h3 : Has _ (blk b #[u0, u1, u2, u3, v4, v5, v6, v7, v8] t * R) := h2.set 3 u3
  have h4 : Has _ (blk b #[u0, u1, u2, u3, u4, v5, v6, v7, v8] t * R) := h3.set 4 u4
  have h5 : Has _ (blk b #[u0, u1, u2, u3, u4, u5, v6, v7, v8] t * R) := h4.set 5 u5
  have h6 : Has _ (blk b #[u0, u1, u2, u3, u4, u5, u6, v7, v8] t * R) := h5.set 6 u6
  have h7 : Has _ (blk b #[u0, u1, u2, u3, u4, u5, u6, u7, v8] t * R) := h6.set 7 u7
  have h8 : Has _ (blk b #[u0, u1, u2, u3, u4, u5, u6, u7, u8] t * R) := h7.set 8 u8
  exact h8
theorem Has.frees9 {w : World} {R : HProp} {b : Nat} {v0 v1 v2 v3 v4 v5 v6 v7 v8 : Value} {t : TypeId} (h : Has w (blk b #[v0, v1, v2, v3, v4, v5, v6, v7, v8] t * R)) :
    w.frozen? ⟨b, 0, none⟩ = false ∧ w.frozen? ⟨b, 1, none⟩ = false ∧ w.frozen? ⟨b, 2, none⟩ = false ∧ w.frozen? ⟨b, 3, none⟩ = false ∧ w.frozen? ⟨b, 4, none⟩ = false ∧ w.frozen? ⟨b, 5, none⟩ = false ∧ w.frozen? ⟨b, 6, none⟩ = false ∧ w.frozen? ⟨b, 7, none⟩ = false ∧ w.frozen? ⟨b, 8, none⟩ = false :=
  ⟨h.free 0, h.free 1, h.free 2, h.free 3, h.free 4, h.free 5, h.free 6, h.free 7, h.free 8⟩
theorem Ext.set9 {w0 w : World} (h : Ext w0 w) (b : Nat) (u0 u1 u2 u3 u4 u5 u6 u7 u8 : Value) : Ext w0 ((((((((((w.setCell ⟨b, 0, none⟩ u0).setCell ⟨b, 1, none⟩ u1).setCell ⟨b, 2, none⟩ u2).setCell ⟨b, 3, none⟩ u3).setCell ⟨b, 4, none⟩ u4).setCell ⟨b, 5, none⟩ u5).setCell ⟨b, 6, none⟩ u6).setCell ⟨b, 7, none⟩ u7).setCell ⟨b, 8, none⟩ u8)) :=
  (((((((((h.set _ _).set _ _).set _ _).set _ _).set _ _).set _ _).set _ _).set _ _).set _ _)
theorem load_spot {w : World} {R : HProp} {b : Nat} {v0 v1 v2 v3 v4 v5 v6 v7 v8 : Value} (h : Has w (blk b #[v0, v1, v2, v3, v4, v5, v6, v7, v8] 122 * R)) : (loadVar 122 ⟨b, 0, none⟩).run Try.prog w = .ok (.agg #[v0, v1, v2, v3, v4, v5, v6, v7, v8]) w :=
  run_loadVar_row w b 122 122 _ _ _ h.heap Try.underlying122 rfl (by kernel_rfl)
/-- What a look for a way hands back. -/
def spotV (y : Wy) (A B : Option Addr) (n c d : Nat) : Value := .tuple #[.agg #[(Value.int .i64) y.lev, Value.bool y.e.there, Value.bool y.e.leaf, (Value.int .i64) y.e.rights, Value.bool y.e.used, Value.bool y.e.dirty, (Value.int .i64) y.e.frame, .slice A n c, .slice B n d], (Value.int .i64) y.code]
def FoundWay (y : Wy) (p : Int) (w : World) (e : Ending) (w' : World) : Prop :=
  ∃ A B c d, e = .returned (spotV y A B y.tabs.length c d) ∧ Has w' (irow (.slice A y.tabs.length c) y.tabs * (irow (.slice B y.tabs.length d) (placesOf p y.tabs.length) * old w w.heap.size)) ∧ Ext w w'
/-- The level that stands in a spot. -/
def lev (w : World) (b : Nat) : Nat := match w.cell? ⟨b, 0, none⟩ with | some (.int _ n) => n.toNat | _ => 0
theorem Has.build {w : World} {A B C : HProp} (h : Has w (A * (B * C))) (cs : Array Value) (t : TypeId) : Has (w.alloc (.cells cs t)) (A * (B * (blk w.heap.size cs t * C))) := by
  have h1 := h.new cs t
  rw [star_left_comm, star_left_comm (blk w.heap.size cs t) B C] at h1
  exact h1
theorem news_cell {w : World} {b : Nat} {v : Value} (h : w.cell? ⟨b, 0, none⟩ = some v) : ∀ j u, ([v] : List Value)[j]? = some u → w.cell? ((⟨b, 0, none⟩ : Addr).add j) = some u := by
  intro j u hj
  match j, hj with
  | 0, hj => simp at hj; subst hj; exact h
theorem irow_row {w : World} {A : Option Addr} {c : Nat} {l : List Int} {P : HProp} (h : Has w (irow (.slice A l.length c) l * P)) : Has w (row 3 1 (.slice A l.length c) l.length (l.map (Value.int .i64)) * P) := h
theorem prow_row {w : World} {v : Value} {p : Int} {n : Nat} {P : HProp} (h : Has w (irow v (placesOf p n) * P)) : Has w (row 3 1 v n ((placesOf p n).map (Value.int .i64)) * P) := by
  unfold irow at h
  rw [placesOf_len] at h
  exact h
theorem spot_end {w : World} {A B J1 J2 C : HProp} (h : Has w (A * (B * (J1 * (J2 * C))))) : Has w (A * (B * C)) := h.drop3.drop3
theorem spot_set {w : World} {A B C : HProp} {b : Nat} {v0 v1 v2 v3 v4 v5 v6 v7 v8 : Value} {t : TypeId} (h : Has w (A * (B * (blk b #[v0, v1, v2, v3, v4, v5, v6, v7, v8] t * C)))) (u7 u8 : Value) :
    Has ((w.setCell ⟨b, 7, none⟩ u7).setCell ⟨b, 8, none⟩ u8) (A * (B * (blk b #[v0, v1, v2, v3, v4, v5, v6, u7, u8] t * C))) := by
  rw [star_left_comm B, star_left_comm A] at h
  have h1 : Has _ (blk b #[v0, v1, v2, v3, v4, v5, v6, u7, v8] t * _) := h.set 7 u7
  have h2 : Has _ (blk b #[v0, v1, v2, v3, v4, v5, v6, u7, u8] t * _) := h1.set 8 u8
  rw [star_left_comm B, star_left_comm A]
  exact h2
theorem spot_set0 {w : World} {A B C : HProp} {b : Nat} {v0 v1 v2 v3 v4 v5 v6 v7 v8 : Value} {t : TypeId} (h : Has w (A * (B * (blk b #[v0, v1, v2, v3, v4, v5, v6, v7, v8] t * C)))) (u0 : Value) :
    Has (w.setCell ⟨b, 0, none⟩ u0) (A * (B * (blk b #[u0, v1, v2, v3, v4, v5, v6, v7, v8] t * C))) := by
  rw [star_left_comm B, star_left_comm A] at h
  have h1 : Has _ (blk b #[u0, v1, v2, v3, v4, v5, v6, v7, v8] t * _) := h.set 0 u0
  rw [star_left_comm B, star_left_comm A]
  exact h1
theorem spot_copy {w : World} {A B X O : HProp} {b r : Nat} {v0 v1 v2 v3 v4 v5 v6 v7 v8 z0 z1 z2 z3 z4 z5 z6 z7 z8 : Value} {t : TypeId} (h : Has w (A * (B * (blk b #[v0, v1, v2, v3, v4, v5, v6, v7, v8] t * (X * (blk r #[z0, z1, z2, z3, z4, z5, z6, z7, z8] t * O)))))) (u1 u2 u3 u4 u5 u6 : Value) :
    Has (((((((((((((((w.setCell ⟨b, 1, none⟩ u1).setCell ⟨b, 2, none⟩ u2).setCell ⟨b, 3, none⟩ u3).setCell ⟨b, 4, none⟩ u4).setCell ⟨b, 5, none⟩ u5).setCell ⟨b, 6, none⟩ u6).setCell ⟨r, 0, none⟩ v0).setCell ⟨r, 1, none⟩ u1).setCell ⟨r, 2, none⟩ u2).setCell ⟨r, 3, none⟩ u3).setCell ⟨r, 4, none⟩ u4).setCell ⟨r, 5, none⟩ u5).setCell ⟨r, 6, none⟩ u6).setCell ⟨r, 7, none⟩ v7).setCell ⟨r, 8, none⟩ v8) (blk r #[v0, u1, u2, u3, u4, u5, u6, v7, v8] t * (A * (B * O))) := by
  have h1 := h.drop4
  rw [star_left_comm B, star_left_comm A] at h1
  have s1 : Has _ (blk b #[v0, u1, v2, v3, v4, v5, v6, v7, v8] t * _) := h1.set 1 u1
  have s2 : Has _ (blk b #[v0, u1, u2, v3, v4, v5, v6, v7, v8] t * _) := s1.set 2 u2
  have s3 : Has _ (blk b #[v0, u1, u2, u3, v4, v5, v6, v7, v8] t * _) := s2.set 3 u3
  have s4 : Has _ (blk b #[v0, u1, u2, u3, u4, v5, v6, v7, v8] t * _) := s3.set 4 u4
  have s5 : Has _ (blk b #[v0, u1, u2, u3, u4, u5, v6, v7, v8] t * _) := s4.set 5 u5
  have s6 : Has _ (blk b #[v0, u1, u2, u3, u4, u5, u6, v7, v8] t * _) := s5.set 6 u6
  have h2 := s6.right
  rw [star_left_comm B, star_left_comm A] at h2
  exact h2.set9 _ _ _ _ _ _ _ _ _
theorem spot_fin {w : World} {u v : Value} {l : List Int} {x ix p : Int} {C : HProp} (hp : placesOf p (l.length + 1) = placesOf p l.length ++ [ix])
    (h : Has w (row 3 1 u (l.length + 1) (l.map (Value.int .i64) ++ [(Value.int .i64) x]) * (row 3 1 v (l.length + 1) ((placesOf p l.length).map (Value.int .i64) ++ [(Value.int .i64) ix]) * C))) : Has w (irow u (l ++ [x]) * (irow v (placesOf p (l.length + 1)) * C)) := by
  unfold irow
  rw [hp, List.length_append, List.length_append, List.length_singleton, List.length_singleton, placesOf_len, List.map_append, List.map_append]
  exact h
theorem one_int (n : Int) : ∀ u ∈ ([(Value.int .i64) n] : List Value), u.oneCell' = true := by
  intro u hu
  simp at hu
  subst hu
  rfl
set_option maxHeartbeats 4000000 in
theorem find_way (f : Nat) (s : Ms) (root p : Int) (R : HProp) (w : World) (hs : s.Ok) (h : Has w (framesAt f s * R)) :
    Calls Try.prog 59 #[.pointer (some ⟨f, 0, none⟩), .int .i64 root, .int .i64 p] w (FoundWay (way s root p) p w) := by
  have h1 := (has_old w).new #[(Value.int .i64) 0, Value.bool false, Value.bool false, (Value.int .i64) 0, Value.bool false, Value.bool false, (Value.int .i64) 0, .slice none 0 0, .slice none 0 0] 122
  have x1 := (Ext.refl w).alloc (.cells #[(Value.int .i64) 0, Value.bool false, Value.bool false, (Value.int .i64) 0, Value.bool false, Value.bool false, (Value.int .i64) 0, .slice none 0 0, .slice none 0 0] 122)
  have HH := Lib.hid (has_any p)
  cases hp : hasB p with
  | false =>
    have hy := Lib.hid (show way s root p = .err 1 by unfold way; rw [hp]; rfl)
    rw [hp] at HH
    go_enter Try.func59, Try.ntmps59
    go_wp2_with (refine (HH.out _).mono ?_; rintro e w2 ⟨rfl, rfl⟩)
    refine ret_via (fun wz => Has wz (blk w.heap.size #[(Value.int .i64) 0, Value.bool false, Value.bool false, (Value.int .i64) 0, Value.bool false, Value.bool false, (Value.int .i64) 0, .slice none 0 0, .slice none 0 0] 122 * old w w.heap.size) ∧ Ext w wz) ⟨h1, by (repeat (first | with_reducible assumption | with_reducible exact Ext.refl _ | with_reducible refine Ext.set ?_ _ _ | with_reducible refine Ext.alloc ?_ _ | with_reducible refine Ext.drew ?_ | with_reducible refine Ext.drewN ?_ _ | assumption | exact Ext.refl _ | refine Ext.alloc ?_ _ | refine Ext.set ?_ _ _ | refine Ext.drew ?_ | refine Ext.drewN ?_ _ | refine Ext.below ?_ (by assumption) | refine Ext.trans ?_ (by assumption)))⟩ ?_
    rintro wz ⟨hz, xz⟩
    exact bodyPost_ret (results_ct Try.results59 rfl rfl (load_spot hz)) rfl ⟨none, none, 0, 0, by rw [hy.out]; rfl, by rw [hy.out]; exact Has.rowNil (Has.rowNil hz.right), xz⟩
  | true =>
    have hwy := Lib.hid (show way s root p = wayA s p 3 root [] by unfold way; rw [if_pos hp])
    rw [hp] at HH
    have h2 := h1.new #[(Value.int .i64) 3, Value.bool false, Value.bool false, (Value.int .i64) 0, Value.bool false, Value.bool false, (Value.int .i64) 0, .slice none 0 0, .slice none 0 0] 122
    have x2 := x1.alloc (.cells #[(Value.int .i64) 3, Value.bool false, Value.bool false, (Value.int .i64) 0, Value.bool false, Value.bool false, (Value.int .i64) 0, .slice none 0 0, .slice none 0 0] 122)
    simp only [World.size_alloc] at h2
    have h3 : Has ((w.alloc (.cells #[(Value.int .i64) 0, Value.bool false, Value.bool false, (Value.int .i64) 0, Value.bool false, Value.bool false, (Value.int .i64) 0, .slice none 0 0, .slice none 0 0] 122)).alloc (.cells #[(Value.int .i64) 3, Value.bool false, Value.bool false, (Value.int .i64) 0, Value.bool false, Value.bool false, (Value.int .i64) 0, .slice none 0 0, .slice none 0 0] 122))
        (irow (.slice none 0 0) [] * (irow (.slice none 0 0) [] * (blk (w.heap.size + 1) #[(Value.int .i64) 3, Value.bool false, Value.bool false, (Value.int .i64) 0, Value.bool false, Value.bool false, (Value.int .i64) 0, .slice none 0 0, .slice none 0 0] 122 * (blk w.heap.size #[(Value.int .i64) 0, Value.bool false, Value.bool false, (Value.int .i64) 0, Value.bool false, Value.bool false, (Value.int .i64) 0, .slice none 0 0, .slice none 0 0] 122 * old w w.heap.size)))) := Has.rowNil (Has.rowNil h2)
    clear h1 x1 h2
    go_enter Try.func59, Try.ntmps59
    go_wp2_with (refine (HH.out _).mono ?_; rintro e w2 ⟨rfl, rfl⟩)
    go_loopw [9] (fun s9 wr => ∃ (L : Nat) (t : Int) (acc : List Int) (A B : Option Addr) (c d : Nat), s9 = (Value.int .i64) t ∧ acc.length + L = 3 ∧ Hid (wayA s p 3 root [] = wayA s p L t acc) ∧
        Has wr (irow (.slice A acc.length c) acc * (irow (.slice B acc.length d) (placesOf p acc.length) * (blk (w.heap.size + 1) #[(Value.int .i64) L, Value.bool false, Value.bool false, (Value.int .i64) 0, Value.bool false, Value.bool false, (Value.int .i64) 0, .slice A acc.length c, .slice B acc.length d] 122 * (blk w.heap.size #[(Value.int .i64) 0, Value.bool false, Value.bool false, (Value.int .i64) 0, Value.bool false, Value.bool false, (Value.int .i64) 0, .slice none 0 0, .slice none 0 0] 122 * old w w.heap.size)))) ∧ Ext w wr)
      (fun _ wr => lev wr (w.heap.size + 1))
    case atStart => exact ⟨3, root, [], none, none, 0, 0, rfl, rfl, Lib.hid rfl, h3, x2⟩
    case round =>
      clear h3 x2
      obtain ⟨L, t, acc, A, B, c, d, rfl, hL, HW, hr, hx⟩ := hrel
      have hlev := Lib.hid (show lev wr (w.heap.size + 1) = L by unfold lev; rw [hr.right.right.cell 0]; rfl)
      have hL3 : (L : Int) ≤ 3 := by omega
      have hL0 : (0 : Int) ≤ L := by omega
      obtain ⟨c0, c1, c2, c3, c4, c5, c6, c7, c8⟩ := hr.right.right.cells9
      have cl := hr.right.right.lt
      obtain ⟨r0, r1, r2, r3, r4, r5, r6, r7, r8⟩ := hr.right.right.right.cells9
      obtain ⟨g0, g1, g2, g3, g4, g5, g6, g7, g8⟩ := hr.right.right.right.frees9
      have rl := hr.right.right.right.lt
      have hF : Has wr (framesAt f s * R) := (h.onto' (hr.eq (show _ = (irow (.slice A acc.length c) acc * (irow (.slice B acc.length d) (placesOf p acc.length) * (blk (w.heap.size + 1) #[(Value.int .i64) L, Value.bool false, Value.bool false, (Value.int .i64) 0, Value.bool false, Value.bool false, (Value.int .i64) 0, .slice A acc.length c, .slice B acc.length d] 122 * blk w.heap.size #[(Value.int .i64) 0, Value.bool false, Value.bool false, (Value.int .i64) 0, Value.bool false, Value.bool false, (Value.int .i64) 0, .slice none 0 0, .slice none 0 0] 122))) * old w w.heap.size by simp only [star_assoc]))).right
      have hLD := loadF f s t (index p L) R wr hF
      rw [hasW_index hp hL0 hL3] at hLD
      have hIX := index_any p L wr
      have hwq : s.has t = true → loadV s t (index p L) = wordV s t (index p L) := fun e => by
        unfold loadV wordV
        rw [if_pos (by rw [hasW_index hp hL0 hL3]; exact e)]
      cases ht : s.has t with
      | false =>
        rw [ht] at hLD
        have hy := Lib.hid (show way s root p = .err 12 by rw [hwy.out, HW.out]; exact wayA_free ht)
        clear hwq ht
        generalize index p L = ix at *
        generalize loadV s t ix = v at *
        go_wp2_with fail
        refine hIX.mono ?_; rintro e w2 ⟨rfl, rfl⟩
        go_wp2_with fail
        refine hLD.mono ?_; rintro e w2 ⟨rfl, rfl⟩
        go_wp2_with fail
        refine ret_via (fun wz => Has wz (blk w.heap.size #[(Value.int .i64) 0, Value.bool false, Value.bool false, (Value.int .i64) 0, Value.bool false, Value.bool false, (Value.int .i64) 0, .slice none 0 0, .slice none 0 0] 122 * old w w.heap.size) ∧ Ext w wz) ⟨hr.right.right.right.set9 _ _ _ _ _ _ _ _ _, hx.set9 _ _ _ _ _ _ _ _ _ _⟩ ?_
        rintro wz ⟨hz, xz⟩
        exact bodyPost_ret (results_ct Try.results59 rfl rfl (load_spot hz)) rfl ⟨none, none, 0, 0, by rw [hy.out]; rfl, by rw [hy.out]; exact Has.rowNil (Has.rowNil hz.right), xz⟩
      | true =>
        rw [ht] at hLD
        rw [hwq ht] at hLD
        clear hwq
        have hb := hs.inv.wok t.toNat (index p L).toNat
        have HD := Lib.hid (fun W => decode_any (wordV s t (index p L)) L W hb.1 hb.2)
        clear hb
        by_cases hc : decC (wordV s t (index p L)) L = 0
        case neg =>
          have hy := Lib.hid (show way s root p = .err (decC (wordV s t (index p L)) L) by rw [hwy.out, HW.out]; exact wayA_bad ht hc)
          have hv := Lib.hid (decV_no (w := wordV s t (index p L)) (l := L) rfl (.inl hc))
          rw [hv.out] at HD
          clear hv
          have hn : (decC (wordV s t (index p L)) L != 0) = true := by simpa using hc
          clear hc
          generalize decC (wordV s t (index p L)) L = code at *
          generalize wordV s t (index p L) = v at *
          generalize index p L = ix at *
          go_wp2_with fail
          refine hIX.mono ?_; rintro e w2 ⟨rfl, rfl⟩
          go_wp2_with fail
          refine hLD.mono ?_; rintro e w2 ⟨rfl, rfl⟩
          go_wp2_with fail
          refine (HD.out _).mono ?_; rintro e w2 ⟨rfl, b2⟩
          have h2 := (hr.right.right.right.below b2)
          have x2 := hx.below b2
          clear r0 r1 r2 r3 r4 r5 r6 r7 r8 g0 g1 g2 g3 g4 g5 g6 g7 g8 rl
          obtain ⟨r0, r1, r2, r3, r4, r5, r6, r7, r8⟩ := h2.cells9
          obtain ⟨g0, g1, g2, g3, g4, g5, g6, g7, g8⟩ := h2.frees9
          have rl := h2.lt
          go_wp2_with fail
          refine ret_via (fun wz => Has wz (blk w.heap.size #[(Value.int .i64) 0, Value.bool false, Value.bool false, (Value.int .i64) 0, Value.bool false, Value.bool false, (Value.int .i64) 0, .slice none 0 0, .slice none 0 0] 122 * old w w.heap.size) ∧ Ext w wz) ⟨(h2.set9 _ _ _ _ _ _ _ _ _).alloc _, (x2.set9 _ _ _ _ _ _ _ _ _ _).alloc _⟩ ?_
          rintro wz ⟨hz, xz⟩
          exact bodyPost_ret (results_ct Try.results59 rfl rfl (load_spot hz)) rfl ⟨none, none, 0, 0, by rw [hy.out]; rfl, by rw [hy.out]; exact Has.rowNil (Has.rowNil hz.right), xz⟩
        have hy := Lib.hid (show way s root p = wayA s p L t acc by rw [hwy.out, HW.out])
        have hend := Lib.hid (fun he => wayA_end (acc := acc) ht hc he)
        have hon := Lib.hid (fun he => wayA_on (acc := acc) ht hc he)
        have hv := Lib.hid (show decV (wordV s t (index p L)) L = .tuple #[.agg #[Value.bool (decE (wordV s t (index p L)) L).there, Value.bool (decE (wordV s t (index p L)) L).leaf, (Value.int .i64) (decE (wordV s t (index p L)) L).rights, Value.bool (decE (wordV s t (index p L)) L).used, Value.bool (decE (wordV s t (index p L)) L).dirty, (Value.int .i64) (decE (wordV s t (index p L)) L).frame], (Value.int .i64) 0] by unfold decV; rw [hc])
        rw [hv.out] at HD
        clear hv hc HW
        have hpl := Lib.hid (show placesOf p (acc.length + 1) = placesOf p acc.length ++ [index p L] by rw [placesOf_succ, show (3 : Int) - acc.length = L by omega])
        generalize decE (wordV s t (index p L)) L = e at *
        generalize wordV s t (index p L) = v at *
        generalize index p L = ix at *
        go_wp2_with fail
        refine hIX.mono ?_; rintro e2 w2 ⟨rfl, rfl⟩
        go_wp2_with fail
        refine hLD.mono ?_; rintro e2 w2 ⟨rfl, rfl⟩
        go_wp2_with fail
        refine (HD.out _).mono ?_; rintro e2 w2 ⟨rfl, b2⟩
        have h2 := (hr.below b2).build #[Value.bool e.there, Value.bool e.leaf, (Value.int .i64) e.rights, Value.bool e.used, Value.bool e.dirty, (Value.int .i64) e.frame] 51
        have x2 := (hx.below b2).alloc (.cells #[Value.bool e.there, Value.bool e.leaf, (Value.int .i64) e.rights, Value.bool e.used, Value.bool e.dirty, (Value.int .i64) e.frame] 51)
        clear r0 r1 r2 r3 r4 r5 r6 r7 r8 g0 g1 g2 g3 g4 g5 g6 g7 g8 rl c0 c1 c2 c3 c4 c5 c6 c7 c8 cl hF hLD hIX HD hr hx
        go_upto_region 13 with fail
        generalize w2.alloc (.cells #[Value.bool e.there, Value.bool e.leaf, (Value.int .i64) e.rights, Value.bool e.used, Value.bool e.dirty, (Value.int .i64) e.frame] 51) = w4 at *
        generalize w2.heap.size = E at *
        have h3 : Has w4 (irow (.slice A acc.length c) acc * (irow (.slice B acc.length d) (placesOf p acc.length) * (blk (w.heap.size + 1) #[(Value.int .i64) L, Value.bool false, Value.bool false, (Value.int .i64) 0, Value.bool false, Value.bool false, (Value.int .i64) 0, .slice A acc.length c, .slice B acc.length d] 122 *
            (blk E #[Value.bool e.there, Value.bool e.leaf, (Value.int .i64) e.rights, Value.bool e.used, Value.bool e.dirty, (Value.int .i64) e.frame] 51 * (blk w.heap.size #[(Value.int .i64) 0, Value.bool false, Value.bool false, (Value.int .i64) 0, Value.bool false, Value.bool false, (Value.int .i64) 0, .slice none 0 0, .slice none 0 0] 122 * old w w.heap.size))))) := h2.eq (by congr 2; exact star_left_comm _ _ _)
        clear h2 b2
        go_cut [] (fun wx => ∃ (A' B' : Option Addr) (c' d' : Nat), Has wx (irow (.slice A' (acc.length + 1) c') (acc ++ [t]) * (irow (.slice B' (acc.length + 1) d') (placesOf p (acc.length + 1)) * (blk (w.heap.size + 1) #[(Value.int .i64) L, Value.bool false, Value.bool false, (Value.int .i64) 0, Value.bool false, Value.bool false, (Value.int .i64) 0, .slice A' (acc.length + 1) c', .slice B' (acc.length + 1) d'] 122 *
            (blk E #[Value.bool e.there, Value.bool e.leaf, (Value.int .i64) e.rights, Value.bool e.used, Value.bool e.dirty, (Value.int .i64) e.frame] 51 * (blk w.heap.size #[(Value.int .i64) 0, Value.bool false, Value.bool false, (Value.int .i64) 0, Value.bool false, Value.bool false, (Value.int .i64) 0, .slice none 0 0, .slice none 0 0] 122 * old w w.heap.size))))) ∧ Ext w wx)
        case first =>
          have c7 : w4.cell? ⟨w.heap.size + 1, 7, none⟩ = some (.slice A acc.length c) := h3.right.right.cell 7
          have c8 : w4.cell? ⟨w.heap.size + 1, 8, none⟩ = some (.slice B acc.length d) := h3.right.right.cell 8
          refine region_L (S := fun L w' => Till 4 1 (fun w' => w'.cell? ⟨w.heap.size + 1, 7, none⟩ = some (.slice A acc.length c)) L w' ∧ Till 9 6 (fun w' => w'.cell? ⟨w.heap.size + 1, 8, none⟩ = some (.slice B acc.length d)) L w') (by kernel_rfl) ⟨Till.start c7, Till.start c8⟩ (fun hHeld => ?_)
          refine anyL_take (i := 0) (v := ?_) rfl (by kernel_rfl) (by kernel_rfl) (by kernel_rfl) (fun _ _ _ h => h) (Good.and (Good.till (by decide) ⟨_, ⟨1, .data⟩, rfl, by simp, rfl, rfl⟩) (Good.till (by decide) ⟨_, ⟨6, .data⟩, rfl, by simp, rfl, rfl⟩)) (Or.inl ⟨by kernel_rfl, ?_⟩) hHeld (fun hHeld => ?_)
          rotate_left
          focus (intro wS hSw; obtain ⟨Lx, hLx, hs1, hs2⟩ := hSw; skip; go_simp; first | done | with_reducible rfl)
          try go_simp
          refine anyL_take (i := 1) (v := ?_) rfl (by kernel_rfl) (by kernel_rfl) (by kernel_rfl) (fun _ _ _ h => h) (Good.and (Good.till (by decide) ⟨_, ⟨1, .data⟩, rfl, by simp, rfl, rfl⟩) (Good.till (by decide) ⟨_, ⟨6, .data⟩, rfl, by simp, rfl, rfl⟩)) (Or.inl ⟨by kernel_rfl, ?_⟩) hHeld (fun hHeld => ?_)
          rotate_left
          focus (intro wS hSw; obtain ⟨Lx, hLx, hs1, hs2⟩ := hSw; have cS := hs1.still hLx; go_simp; first | done | with_reducible rfl)
          try go_simp
          refine anyL_take (i := 2) (v := ?_) rfl (by kernel_rfl) (by kernel_rfl) (by kernel_rfl) (fun _ _ _ h => h) (Good.and (Good.till (by decide) ⟨_, ⟨1, .data⟩, rfl, by simp, rfl, rfl⟩) (Good.till (by decide) ⟨_, ⟨6, .data⟩, rfl, by simp, rfl, rfl⟩)) (Or.inl ⟨by kernel_rfl, ?_⟩) hHeld (fun hHeld => ?_)
          rotate_left
          focus (intro wS hSw; obtain ⟨Lx, hLx, hs1, hs2⟩ := hSw; skip; go_simp; first | done | with_reducible rfl)
          try go_simp
          refine anyL_take (i := 5) (v := ?_) rfl (by kernel_rfl) (by kernel_rfl) (by kernel_rfl) (fun _ _ _ h => h) (Good.and (Good.till (by decide) ⟨_, ⟨1, .data⟩, rfl, by simp, rfl, rfl⟩) (Good.till (by decide) ⟨_, ⟨6, .data⟩, rfl, by simp, rfl, rfl⟩)) (Or.inl ⟨by kernel_rfl, ?_⟩) hHeld (fun hHeld => ?_)
          rotate_left
          focus (intro wS hSw; obtain ⟨Lx, hLx, hs1, hs2⟩ := hSw; skip; go_simp; first | done | with_reducible rfl)
          try go_simp
          refine anyL_take (i := 6) (v := ?_) rfl (by kernel_rfl) (by kernel_rfl) (by kernel_rfl) (fun _ _ _ h => h) (Good.and (Good.till (by decide) ⟨_, ⟨1, .data⟩, rfl, by simp, rfl, rfl⟩) (Good.till (by decide) ⟨_, ⟨6, .data⟩, rfl, by simp, rfl, rfl⟩)) (Or.inl ⟨by kernel_rfl, ?_⟩) hHeld (fun hHeld => ?_)
          rotate_left
          focus (intro wS hSw; obtain ⟨Lx, hLx, hs1, hs2⟩ := hSw; have cS := hs2.still hLx; go_simp; first | done | with_reducible rfl)
          try go_simp
          refine anyL_take (i := 7) (v := ?_) rfl (by kernel_rfl) (by kernel_rfl) (by kernel_rfl) (fun _ _ _ h => h) (Good.and (Good.till (by decide) ⟨_, ⟨1, .data⟩, rfl, by simp, rfl, rfl⟩) (Good.till (by decide) ⟨_, ⟨6, .data⟩, rfl, by simp, rfl, rfl⟩)) (Or.inl ⟨by kernel_rfl, ?_⟩) hHeld (fun hHeld => ?_)
          rotate_left
          focus (intro wS hSw; obtain ⟨Lx, hLx, hs1, hs2⟩ := hSw; skip; go_simp; first | done | with_reducible rfl)
          try go_simp
          have h3d := h3.drew
          --[G13
          refine anyL_ready (rs := [3, 8]) (by kernel_rfl) (by simp) ?_
          refine OneOf.cons rfl (fun K hK => ?_) ?_
          focus
            have k1 := h3d.build #[(Value.int .i64) t] 3
            try simp only [World.size_alloc] at k1
            go_simp
            refine hK.out _ _ ⟨⟨fun _ => by kernel_rfl, fun _ => k1.right.right.right.cell 7⟩, ⟨fun _ => by kernel_rfl, fun _ => k1.right.right.right.cell 8⟩⟩ (fun hHeld => ?_)
            clear hK K
            refine anyL_ready (rs := [4, 8]) (by kernel_rfl) (by simp) ?_
            refine OneOf.cons rfl (fun K hK => ?_) ?_
            focus
              refine step_append_has rfl (.tmp 51) (.tmp 53) 47 rfl Try.underlying47 elemI (.slice A acc.length c) acc.length (acc.map (Value.int .i64)) (by simp [Act.eval]) (irow_row k1) ⟨w4.drew.heap.size, 0, none⟩ 1 1 [(Value.int .i64) t] (by simp [Act.eval]) rfl (news_cell (k1.right.right.cell 0)) (one_int t) (by unfold maxLen; omega) (by omega) ?_
              intro A2 a3 w22 k2 y2
              try go_simp
              refine hK.out _ _ ⟨⟨fun _ => by kernel_rfl, fun h => till_gone (by kernel_rfl) h⟩, ⟨fun _ => by kernel_rfl, fun _ => k2.right.right.right.cell 8⟩⟩ (fun hHeld => ?_)
              clear hK K
              refine anyL_take (i := 10) (v := ?_) rfl (by kernel_rfl) (by kernel_rfl) (by kernel_rfl) (fun _ _ _ h => h) (Good.and (Good.till (by decide) ⟨_, ⟨1, .data⟩, rfl, by simp, rfl, rfl⟩) (Good.till (by decide) ⟨_, ⟨6, .data⟩, rfl, by simp, rfl, rfl⟩)) (Or.inl ⟨by kernel_rfl, ?_⟩) hHeld (fun hHeld => ?_)
              rotate_left
              focus (intro wS hSw; obtain ⟨Lx, hLx, hs1, hs2⟩ := hSw; skip; go_simp; first | done | with_reducible rfl)
              try go_simp
              refine anyL_ready (rs := [8]) (by kernel_rfl) (by simp) ?_
              refine OneOf.cons rfl (fun K hK => ?_) ?_
              focus
                have k3 := k2.build #[(Value.int .i64) ix] 3
                try simp only [World.size_alloc] at k3
                go_simp
                refine hK.out _ _ ⟨⟨fun _ => by kernel_rfl, fun h => till_gone (by kernel_rfl) h⟩, ⟨fun _ => by kernel_rfl, fun _ => k3.right.right.right.right.cell 8⟩⟩ (fun hHeld => ?_)
                clear hK K
                refine anyL_ready (rs := [9]) (by kernel_rfl) (by simp) ?_
                refine OneOf.cons rfl (fun K hK => ?_) ?_
                focus
                  refine step_append_has rfl (.tmp 56) (.tmp 58) 47 rfl Try.underlying47 elemI (.slice B acc.length d) acc.length ((placesOf p acc.length).map (Value.int .i64)) (by simp [Act.eval]) (prow_row k3.p2) ⟨w22.heap.size, 0, none⟩ 1 1 [(Value.int .i64) ix] (by simp [Act.eval]) rfl (news_cell (k3.right.right.cell 0)) (one_int ix) (by unfold maxLen; omega) (by omega) ?_
                  intro B2 b3 w24 k4 y4
                  try go_simp
                  refine hK.out _ _ ⟨⟨fun _ => by kernel_rfl, fun h => till_gone (by kernel_rfl) h⟩, ⟨fun _ => by kernel_rfl, fun h => till_gone (by kernel_rfl) h⟩⟩ (fun hHeld => ?_)
                  clear hK K
                  have hz := k4.p2
                  have xz := (((((((x2.drew).alloc _)).trans y2).alloc _)).trans y4)
                  have cl := hz.right.right.right.right.lt
                  have f7 := hz.right.right.right.right.free 7
                  have f8 := hz.right.right.right.right.free 8
                  have e7 := hz.right.right.right.right.cell 7
                  have e8 := hz.right.right.right.right.cell 8
                  have hfin := spot_end hz
                  refine anyL_ready (rs := [11]) (by kernel_rfl) (by simp) ?_
                  refine OneOf.cons rfl (fun K hK => ?_) OneOf.nil
                  go_simp
                  refine hK.out _ _ ⟨⟨fun _ => by kernel_rfl, fun h => till_gone (by kernel_rfl) h⟩, ⟨fun _ => by kernel_rfl, fun h => till_gone (by kernel_rfl) h⟩⟩ (fun hHeld => ?_)
                  clear hK K
                  refine anyL_take (i := 12) (v := ?_) rfl (by kernel_rfl) (by kernel_rfl) (by kernel_rfl) (fun _ _ _ h => h) (Good.and (Good.till (by decide) ⟨_, ⟨1, .data⟩, rfl, by simp, rfl, rfl⟩) (Good.till (by decide) ⟨_, ⟨6, .data⟩, rfl, by simp, rfl, rfl⟩)) (Or.inl ⟨by kernel_rfl, ?_⟩) hHeld (fun hHeld => ?_)
                  rotate_left
                  focus (intro wS hSw; obtain ⟨Lx, hLx, hs1, hs2⟩ := hSw; skip; go_simp; first | done | with_reducible rfl)
                  try go_simp
                  refine anyL_ready (rs := [13]) (by kernel_rfl) (by simp) ?_
                  refine OneOf.cons rfl (fun K hK => ?_) OneOf.nil
                  go_simp
                  refine hK.out _ _ ⟨⟨fun _ => by kernel_rfl, fun h => till_gone (by kernel_rfl) h⟩, ⟨fun _ => by kernel_rfl, fun h => till_gone (by kernel_rfl) h⟩⟩ (fun hHeld => ?_)
                  clear hK K
                  refine anyL_done (by kernel_rfl) ?_
                  go_wp2_with fail
                  go_meet
                  case rel => exact ⟨A2, B2, a3, b3, spot_fin hpl.out (spot_set hfin _ _), (xz.set _ _).set _ _⟩
                exact OneOf.nil
              exact OneOf.nil
            refine OneOf.cons rfl (fun K hK => ?_) ?_
            focus
              have k5 := k1.build #[(Value.int .i64) ix] 3
              try simp only [World.size_alloc] at k5
              go_simp
              refine hK.out _ _ ⟨⟨fun _ => by kernel_rfl, fun _ => k5.right.right.right.right.cell 7⟩, ⟨fun _ => by kernel_rfl, fun _ => k5.right.right.right.right.cell 8⟩⟩ (fun hHeld => ?_)
              clear hK K
              refine anyL_ready (rs := [4]) (by kernel_rfl) (by simp) ?_
              refine OneOf.cons rfl (fun K hK => ?_) ?_
              focus
                refine step_append_has rfl (.tmp 51) (.tmp 53) 47 rfl Try.underlying47 elemI (.slice A acc.length c) acc.length (acc.map (Value.int .i64)) (by simp [Act.eval]) (irow_row k5) ⟨w4.drew.heap.size, 0, none⟩ 1 1 [(Value.int .i64) t] (by simp [Act.eval]) rfl (news_cell (k5.right.right.right.cell 0)) (one_int t) (by unfold maxLen; omega) (by omega) ?_
                intro A2 a3 w26 k6 y6
                try go_simp
                refine hK.out _ _ ⟨⟨fun _ => by kernel_rfl, fun h => till_gone (by kernel_rfl) h⟩, ⟨fun _ => by kernel_rfl, fun _ => k6.right.right.right.right.cell 8⟩⟩ (fun hHeld => ?_)
                clear hK K
                refine anyL_take (i := 10) (v := ?_) rfl (by kernel_rfl) (by kernel_rfl) (by kernel_rfl) (fun _ _ _ h => h) (Good.and (Good.till (by decide) ⟨_, ⟨1, .data⟩, rfl, by simp, rfl, rfl⟩) (Good.till (by decide) ⟨_, ⟨6, .data⟩, rfl, by simp, rfl, rfl⟩)) (Or.inl ⟨by kernel_rfl, ?_⟩) hHeld (fun hHeld => ?_)
                rotate_left
                focus (intro wS hSw; obtain ⟨Lx, hLx, hs1, hs2⟩ := hSw; skip; go_simp; first | done | with_reducible rfl)
                try go_simp
                refine anyL_ready (rs := [9]) (by kernel_rfl) (by simp) ?_
                refine OneOf.cons rfl (fun K hK => ?_) ?_
                focus
                  refine step_append_has rfl (.tmp 56) (.tmp 58) 47 rfl Try.underlying47 elemI (.slice B acc.length d) acc.length ((placesOf p acc.length).map (Value.int .i64)) (by simp [Act.eval]) (prow_row k6.p2) ⟨w4.drew.heap.size + 1, 0, none⟩ 1 1 [(Value.int .i64) ix] (by simp [Act.eval]) rfl (news_cell (k6.right.right.cell 0)) (one_int ix) (by unfold maxLen; omega) (by omega) ?_
                  intro B2 b3 w27 k7 y7
                  try go_simp
                  refine hK.out _ _ ⟨⟨fun _ => by kernel_rfl, fun h => till_gone (by kernel_rfl) h⟩, ⟨fun _ => by kernel_rfl, fun h => till_gone (by kernel_rfl) h⟩⟩ (fun hHeld => ?_)
                  clear hK K
                  have hz := k7.p2
                  have xz := (((((((x2.drew).alloc _).alloc _)).trans y6)).trans y7)
                  have cl := hz.right.right.right.right.lt
                  have f7 := hz.right.right.right.right.free 7
                  have f8 := hz.right.right.right.right.free 8
                  have e7 := hz.right.right.right.right.cell 7
                  have e8 := hz.right.right.right.right.cell 8
                  have hfin := spot_end hz
                  refine anyL_ready (rs := [11]) (by kernel_rfl) (by simp) ?_
                  refine OneOf.cons rfl (fun K hK => ?_) OneOf.nil
                  go_simp
                  refine hK.out _ _ ⟨⟨fun _ => by kernel_rfl, fun h => till_gone (by kernel_rfl) h⟩, ⟨fun _ => by kernel_rfl, fun h => till_gone (by kernel_rfl) h⟩⟩ (fun hHeld => ?_)
                  clear hK K
                  refine anyL_take (i := 12) (v := ?_) rfl (by kernel_rfl) (by kernel_rfl) (by kernel_rfl) (fun _ _ _ h => h) (Good.and (Good.till (by decide) ⟨_, ⟨1, .data⟩, rfl, by simp, rfl, rfl⟩) (Good.till (by decide) ⟨_, ⟨6, .data⟩, rfl, by simp, rfl, rfl⟩)) (Or.inl ⟨by kernel_rfl, ?_⟩) hHeld (fun hHeld => ?_)
                  rotate_left
                  focus (intro wS hSw; obtain ⟨Lx, hLx, hs1, hs2⟩ := hSw; skip; go_simp; first | done | with_reducible rfl)
                  try go_simp
                  refine anyL_ready (rs := [13]) (by kernel_rfl) (by simp) ?_
                  refine OneOf.cons rfl (fun K hK => ?_) OneOf.nil
                  go_simp
                  refine hK.out _ _ ⟨⟨fun _ => by kernel_rfl, fun h => till_gone (by kernel_rfl) h⟩, ⟨fun _ => by kernel_rfl, fun h => till_gone (by kernel_rfl) h⟩⟩ (fun hHeld => ?_)
                  clear hK K
                  refine anyL_done (by kernel_rfl) ?_
                  go_wp2_with fail
                  go_meet
                  case rel => exact ⟨A2, B2, a3, b3, spot_fin hpl.out (spot_set hfin _ _), (xz.set _ _).set _ _⟩
                exact OneOf.nil
              exact OneOf.nil
            exact OneOf.nil
          refine OneOf.cons rfl (fun K hK => ?_) ?_
          focus
            have k8 := h3d.build #[(Value.int .i64) ix] 3
            try simp only [World.size_alloc] at k8
            go_simp
            refine hK.out _ _ ⟨⟨fun _ => by kernel_rfl, fun _ => k8.right.right.right.cell 7⟩, ⟨fun _ => by kernel_rfl, fun _ => k8.right.right.right.cell 8⟩⟩ (fun hHeld => ?_)
            clear hK K
            refine anyL_ready (rs := [3]) (by kernel_rfl) (by simp) ?_
            refine OneOf.cons rfl (fun K hK => ?_) ?_
            focus
              have k9 := k8.build #[(Value.int .i64) t] 3
              try simp only [World.size_alloc] at k9
              go_simp
              refine hK.out _ _ ⟨⟨fun _ => by kernel_rfl, fun _ => k9.right.right.right.right.cell 7⟩, ⟨fun _ => by kernel_rfl, fun _ => k9.right.right.right.right.cell 8⟩⟩ (fun hHeld => ?_)
              clear hK K
              refine anyL_ready (rs := [4]) (by kernel_rfl) (by simp) ?_
              refine OneOf.cons rfl (fun K hK => ?_) ?_
              focus
                refine step_append_has rfl (.tmp 51) (.tmp 53) 47 rfl Try.underlying47 elemI (.slice A acc.length c) acc.length (acc.map (Value.int .i64)) (by simp [Act.eval]) (irow_row k9) ⟨w4.drew.heap.size + 1, 0, none⟩ 1 1 [(Value.int .i64) t] (by simp [Act.eval]) rfl (news_cell (k9.right.right.cell 0)) (one_int t) (by unfold maxLen; omega) (by omega) ?_
                intro A2 a3 w30 k10 y10
                try go_simp
                refine hK.out _ _ ⟨⟨fun _ => by kernel_rfl, fun h => till_gone (by kernel_rfl) h⟩, ⟨fun _ => by kernel_rfl, fun _ => k10.right.right.right.right.cell 8⟩⟩ (fun hHeld => ?_)
                clear hK K
                refine anyL_take (i := 10) (v := ?_) rfl (by kernel_rfl) (by kernel_rfl) (by kernel_rfl) (fun _ _ _ h => h) (Good.and (Good.till (by decide) ⟨_, ⟨1, .data⟩, rfl, by simp, rfl, rfl⟩) (Good.till (by decide) ⟨_, ⟨6, .data⟩, rfl, by simp, rfl, rfl⟩)) (Or.inl ⟨by kernel_rfl, ?_⟩) hHeld (fun hHeld => ?_)
                rotate_left
                focus (intro wS hSw; obtain ⟨Lx, hLx, hs1, hs2⟩ := hSw; skip; go_simp; first | done | with_reducible rfl)
                try go_simp
                refine anyL_ready (rs := [9]) (by kernel_rfl) (by simp) ?_
                refine OneOf.cons rfl (fun K hK => ?_) ?_
                focus
                  refine step_append_has rfl (.tmp 56) (.tmp 58) 47 rfl Try.underlying47 elemI (.slice B acc.length d) acc.length ((placesOf p acc.length).map (Value.int .i64)) (by simp [Act.eval]) (prow_row k10.p2) ⟨w4.drew.heap.size, 0, none⟩ 1 1 [(Value.int .i64) ix] (by simp [Act.eval]) rfl (news_cell (k10.right.right.right.cell 0)) (one_int ix) (by unfold maxLen; omega) (by omega) ?_
                  intro B2 b3 w31 k11 y11
                  try go_simp
                  refine hK.out _ _ ⟨⟨fun _ => by kernel_rfl, fun h => till_gone (by kernel_rfl) h⟩, ⟨fun _ => by kernel_rfl, fun h => till_gone (by kernel_rfl) h⟩⟩ (fun hHeld => ?_)
                  clear hK K
                  have hz := k11.p2
                  have xz := (((((((x2.drew).alloc _).alloc _)).trans y10)).trans y11)
                  have cl := hz.right.right.right.right.lt
                  have f7 := hz.right.right.right.right.free 7
                  have f8 := hz.right.right.right.right.free 8
                  have e7 := hz.right.right.right.right.cell 7
                  have e8 := hz.right.right.right.right.cell 8
                  have hfin := spot_end hz
                  refine anyL_ready (rs := [11]) (by kernel_rfl) (by simp) ?_
                  refine OneOf.cons rfl (fun K hK => ?_) OneOf.nil
                  go_simp
                  refine hK.out _ _ ⟨⟨fun _ => by kernel_rfl, fun h => till_gone (by kernel_rfl) h⟩, ⟨fun _ => by kernel_rfl, fun h => till_gone (by kernel_rfl) h⟩⟩ (fun hHeld => ?_)
                  clear hK K
                  refine anyL_take (i := 12) (v := ?_) rfl (by kernel_rfl) (by kernel_rfl) (by kernel_rfl) (fun _ _ _ h => h) (Good.and (Good.till (by decide) ⟨_, ⟨1, .data⟩, rfl, by simp, rfl, rfl⟩) (Good.till (by decide) ⟨_, ⟨6, .data⟩, rfl, by simp, rfl, rfl⟩)) (Or.inl ⟨by kernel_rfl, ?_⟩) hHeld (fun hHeld => ?_)
                  rotate_left
                  focus (intro wS hSw; obtain ⟨Lx, hLx, hs1, hs2⟩ := hSw; skip; go_simp; first | done | with_reducible rfl)
                  try go_simp
                  refine anyL_ready (rs := [13]) (by kernel_rfl) (by simp) ?_
                  refine OneOf.cons rfl (fun K hK => ?_) OneOf.nil
                  go_simp
                  refine hK.out _ _ ⟨⟨fun _ => by kernel_rfl, fun h => till_gone (by kernel_rfl) h⟩, ⟨fun _ => by kernel_rfl, fun h => till_gone (by kernel_rfl) h⟩⟩ (fun hHeld => ?_)
                  clear hK K
                  refine anyL_done (by kernel_rfl) ?_
                  go_wp2_with fail
                  go_meet
                  case rel => exact ⟨A2, B2, a3, b3, spot_fin hpl.out (spot_set hfin _ _), (xz.set _ _).set _ _⟩
                exact OneOf.nil
              exact OneOf.nil
            exact OneOf.nil
          exact OneOf.nil
          --G13]
        case rest =>
          obtain ⟨A', B', c', d', hr, hx⟩ := hcut
          clear h3 x2
          obtain ⟨c0, c1, c2, c3, c4, c5, c6, c7, c8⟩ := hr.right.right.cells9
          obtain ⟨f0, f1, f2, f3, f4, f5, f6, f7, f8⟩ := hr.right.right.frees9
          have cl := hr.right.right.lt
          obtain ⟨e0, e1, e2, e3, e4, e5⟩ := hr.right.right.right.cells6
          have el := hr.right.right.right.lt
          have hE := hr.right.right.right.right
          obtain ⟨r0, r1, r2, r3, r4, r5, r6, r7, r8⟩ := hE.cells9
          obtain ⟨g0, g1, g2, g3, g4, g5, g6, g7, g8⟩ := hE.frees9
          have rl := hE.lt
          have hne : w.heap.size + 1 ≠ w.heap.size := by omega
          by_cases hend1 : e.there = false ∨ e.leaf = true
          · have hyy := Lib.hid (hy.out.trans (hend.out hend1))
            obtain ⟨th, lf, rg, us, di, fr⟩ := e
            dsimp only at *
            cases th with
            | false =>
              go_wp2_with fail
              refine ret_via (fun wz => Has wz (blk w.heap.size #[(Value.int .i64) L, Value.bool false, Value.bool lf, (Value.int .i64) rg, Value.bool us, Value.bool di, (Value.int .i64) fr, .slice A' (acc.length + 1) c', .slice B' (acc.length + 1) d'] 122 * (irow (.slice A' (acc.length + 1) c') (acc ++ [t]) * (irow (.slice B' (acc.length + 1) d') (placesOf p (acc.length + 1)) * old w w.heap.size))) ∧ Ext w wz) ⟨spot_copy hr _ _ _ _ _ _, Ext.set9 ((((((hx.set _ _).set _ _).set _ _).set _ _).set _ _).set _ _) _ _ _ _ _ _ _ _ _ _⟩ ?_
              rintro wz ⟨hz, xz⟩
              have hlen : (acc ++ [t]).length = acc.length + 1 := by rw [List.length_append, List.length_singleton]
              refine bodyPost_ret (results_ct Try.results59 rfl rfl (load_spot hz)) rfl ?_
              rw [hyy.out]
              refine ⟨A', B', c', d', ?_, ?_, xz⟩
              · show _ = Ending.returned (spotV _ A' B' (acc ++ [t]).length c' d')
                rw [hlen]
                rfl
              · show Has wz (irow (.slice A' (acc ++ [t]).length c') (acc ++ [t]) * (irow (.slice B' (acc ++ [t]).length d') (placesOf p (acc ++ [t]).length) * old w w.heap.size))
                rw [hlen]
                exact hz.right
            | true =>
              cases lf with
              | true =>
                go_wp2_with fail
                refine ret_via (fun wz => Has wz (blk w.heap.size #[(Value.int .i64) L, Value.bool true, Value.bool true, (Value.int .i64) rg, Value.bool us, Value.bool di, (Value.int .i64) fr, .slice A' (acc.length + 1) c', .slice B' (acc.length + 1) d'] 122 * (irow (.slice A' (acc.length + 1) c') (acc ++ [t]) * (irow (.slice B' (acc.length + 1) d') (placesOf p (acc.length + 1)) * old w w.heap.size))) ∧ Ext w wz) ⟨spot_copy hr _ _ _ _ _ _, Ext.set9 ((((((hx.set _ _).set _ _).set _ _).set _ _).set _ _).set _ _) _ _ _ _ _ _ _ _ _ _⟩ ?_
                rintro wz ⟨hz, xz⟩
                have hlen : (acc ++ [t]).length = acc.length + 1 := by rw [List.length_append, List.length_singleton]
                refine bodyPost_ret (results_ct Try.results59 rfl rfl (load_spot hz)) rfl ?_
                rw [hyy.out]
                refine ⟨A', B', c', d', ?_, ?_, xz⟩
                · show _ = Ending.returned (spotV _ A' B' (acc ++ [t]).length c' d')
                  rw [hlen]
                  rfl
                · show Has wz (irow (.slice A' (acc ++ [t]).length c') (acc ++ [t]) * (irow (.slice B' (acc ++ [t]).length d') (placesOf p (acc ++ [t]).length) * old w w.heap.size))
                  rw [hlen]
                  exact hz.right
              | false => rcases hend1 with h | h <;> cases h
          · have h12 : e.there = true ∧ e.leaf = false := by
              cases h1 : e.there <;> cases h2 : e.leaf <;> simp_all
            obtain ⟨h1, h2⟩ := h12
            obtain ⟨K, rfl, hK⟩ := hon.out hend1
            have hwr : IntKind.i64.wrap (((K + 1 : Nat) : Int) - 1) = (K : Int) := by rw [IntKind.wrap_i64]; omega
            go_wp2_with fail
            go_roundw
            case rel =>
              refine ⟨K, e.frame, acc ++ [t], A', B', c', d', rfl, by rw [List.length_append, List.length_singleton]; omega, Lib.hid ?_, ?_, hx.set _ _⟩
              · rw [← hK, ← hy.out, ← hwy.out]
              · rw [List.length_append, List.length_singleton]
                exact (spot_set0 hr _).drop4
            case measure =>
              rw [hlev.out]
              unfold lev
              rw [World.cell?_setCell_same _ _ _ c0]
              simp
end Go.Proofs.Ytmfheghbgihdmaa
namespace Go.Proofs.Ytmfheghbgihdmaa
open Go.RowKit
theorem wayA_has (s : Ms) (p : Int) : ∀ (L : Nat) (t : Int) (acc : List Int), (wayA s p L t acc).code = 0 → (∀ u ∈ acc, s.has u = true) → ∀ u ∈ (wayA s p L t acc).tabs, s.has u = true := by
  intro L
  induction L with
  | zero =>
    intro t acc hc ha
    cases h : s.has t with
    | false => rw [wayA_free h] at hc; cases hc
    | true =>
      by_cases hd : decC (wordV s t (index p (0 : Nat))) (0 : Nat) = 0
      · rw [wayA_end h hd (dec0_leaf hd)]
        intro u hu
        rcases List.mem_append.1 hu with hu | hu
        · exact ha u hu
        · obtain rfl := List.mem_singleton.1 hu; exact h
      · rw [wayA_bad h hd] at hc
        exact absurd hc hd
  | succ L ih =>
    intro t acc hc ha
    cases h : s.has t with
    | false => rw [wayA_free h] at hc; cases hc
    | true =>
      by_cases hd : decC (wordV s t (index p (L + 1 : Nat))) (L + 1 : Nat) = 0
      · by_cases he : (decE (wordV s t (index p (L + 1 : Nat))) (L + 1 : Nat)).there = false ∨ (decE (wordV s t (index p (L + 1 : Nat))) (L + 1 : Nat)).leaf = true
        · rw [wayA_end h hd he]
          intro u hu
          rcases List.mem_append.1 hu with hu | hu
          · exact ha u hu
          · obtain rfl := List.mem_singleton.1 hu; exact h
        · obtain ⟨K, hK, e⟩ := wayA_on (acc := acc) h hd he
          obtain rfl : L = K := by omega
          rw [e] at hc ⊢
          exact ih _ _ hc fun u hu => by
            rcases List.mem_append.1 hu with hu | hu
            · exact ha u hu
            · obtain rfl := List.mem_singleton.1 hu; exact h
      · rw [wayA_bad h hd] at hc
        exact absurd hc hd
theorem way_tabs {s : Ms} {r p : Int} (h : (way s r p).code = 0) : hasB p = true ∧ ∃ n : Nat, (way s r p).tabs.length = n + 1 ∧ n ≤ 3 ∧ (way s r p).lev = 3 - (n : Int) ∧ ∀ u ∈ (way s r p).tabs, s.has u = true := by
  unfold way at h ⊢
  split at h
  · rename_i hp
    rw [if_pos hp]
    obtain ⟨h3, h4, h5⟩ := wayA_len s p 3 r [] h
    refine ⟨hp, 3 - (wayA s p 3 r []).lev.toNat, by rw [h5]; simp only [List.length_nil]; omega, by omega, by omega, wayA_has s p 3 r [] h (fun u hu => by cases hu)⟩
  · cases h
theorem placesOf_get (p : Int) {n k : Nat} (hk : k < n) : (placesOf p n)[k]? = some (index p (3 - (k : Int))) := by
  unfold placesOf
  rw [List.getElem?_map, List.getElem?_range hk]
  rfl
theorem last_get {l : List Int} {n : Nat} (h : l.length = n + 1) : l.getLastD 0 = l[n]'(by omega) := by
  have e : l.length - 1 = n := by omega
  rw [List.getLastD_eq_getLast?, List.getLast?_eq_getElem?]
  simp only [e]
  rw [List.getElem?_eq_getElem (by omega)]
  rfl
/-- A word in a table on the way. -/
theorem way_store {s : Ms} {r p : Int} (h : (way s r p).code = 0) {k : Nat} (hk : k < (way s r p).tabs.length) (v : Int) :
    storeS s (way s r p).tabs[k] (index p (3 - (k : Int))) v = s.setW ((way s r p).tabs[k]).toNat (index p (3 - (k : Int))).toNat v := by
  obtain ⟨hp, n, hn, hn3, hl, hu⟩ := way_tabs h
  unfold storeS
  rw [if_pos (by rw [hasW_index hp (by omega) (by omega)]; exact hu _ (List.getElem_mem hk))]
theorem last_get' {l : List Int} {n : Nat} {t : Int} (h : l.length = n + 1) (ht : l[n]? = some t) : l.getLastD 0 = t := by
  rw [last_get h]
  have := List.getElem?_eq_some_iff.1 ht
  exact this.2
theorem way_store' {s : Ms} {r p : Int} (h : (way s r p).code = 0) {k : Nat} {t : Int} (ht : (way s r p).tabs[k]? = some t) (v : Int) :
    storeS s t (index p (3 - (k : Int))) v = s.setW t.toNat (index p (3 - (k : Int))).toNat v := by
  obtain ⟨hk, e⟩ := List.getElem?_eq_some_iff.1 ht
  rw [← e]
  exact way_store h hk v
end Go.Proofs.Ytmfheghbgihdmaa
namespace Go.Proofs.Ytmfheghbgihdmaa
open Go.RowKit
/-- Words in a row of tables, the last one's first. -/
def upL (s : Ms) (p lw : Int) (sz : Nat) : List Int → Ms
  | [] => s
  | [t] => s.setW t.toNat (index p sz).toNat lw
  | t :: k :: ks => (upL s p lw sz (k :: ks)).setW t.toNat (index p (sz + ks.length + 1 : Nat)).toNat (tabW k (sz + ks.length + 1))
theorem setW_comm (s : Ms) {a b : Nat} (i j : Nat) (v u : Int) (h : a ≠ b) : (s.setW a i v).setW b j u = (s.setW b j u).setW a i v := by
  unfold Ms.setW
  dsimp only
  congr 1
  funext x y
  by_cases h1 : x = b ∧ y = j
  · rw [if_pos h1, if_neg (fun h2 => h (h2.1.symm.trans h1.1)), if_pos h1]
  · rw [if_neg h1]
    by_cases h2 : x = a ∧ y = i
    · rw [if_pos h2, if_pos h2]
    · rw [if_neg h2, if_neg h2, if_neg h1]
theorem upL_setW (s : Ms) (p lw : Int) (sz : Nat) (a i : Nat) (v : Int) : ∀ l : List Int, (∀ t ∈ l, t.toNat ≠ a) → upL (s.setW a i v) p lw sz l = (upL s p lw sz l).setW a i v
  | [], _ => rfl
  | [t], h => setW_comm s _ _ _ _ (fun e => h t (by simp) e.symm)
  | t :: k :: ks, h => by
    show (upL (s.setW a i v) p lw sz (k :: ks)).setW _ _ _ = _
    rw [upL_setW s p lw sz a i v (k :: ks) (fun x hx => h x (by simp at hx ⊢; right; exact hx))]
    exact setW_comm _ _ _ _ _ (fun e => h t (by simp) e.symm)
theorem take_setW (s : Ms) {k a : Nat} (i : Nat) (v : Int) (h : a ≠ k) : (s.setW a i v).take k = (s.take k).setW a i v := by
  unfold Ms.take Ms.setW
  dsimp only
  congr 1
  funext x y
  by_cases h1 : x = k
  · rw [if_pos h1, if_neg (fun h2 => h (h2.1.symm.trans h1)), if_pos h1]
  · rw [if_neg h1]
    by_cases h2 : x = a ∧ y = i
    · rw [if_pos h2, if_pos h2]
    · rw [if_neg h2, if_neg h2, if_neg h1]
theorem top_setW (s : Ms) (a i : Nat) (v : Int) : (s.setW a i v).top = s.top := rfl
theorem takeN_shift (s : Ms) : ∀ m, takeN s (m + 1) = takeN s.takeS m
  | 0 => rfl
  | m + 1 => by
    show (takeN s (m + 1)).takeS = _
    rw [takeN_shift s m]
    rfl
theorem tops_shift (s : Ms) : ∀ m, tops s (m + 1) = s.topV :: tops s.takeS m
  | 0 => rfl
  | m + 1 => by
    show tops s (m + 1) ++ [(takeN s (m + 1)).topV] = _
    rw [tops_shift s m, takeN_shift s m]
    rfl
/-- A word of a frame in use stays through takes. -/
theorem takeN_setW {s : Ms} (hs : s.Ok) {a : Nat} (i : Nat) (v : Int) (ha : s.tk a = true) : ∀ m, m ≤ s.frees.length → takeN (s.setW a i v) m = (takeN s m).setW a i v ∧ (takeN s m).tk a = true ∧ tops (s.setW a i v) m = tops s m
  | 0, _ => ⟨rfl, ha, rfl⟩
  | m + 1, h => by
    obtain ⟨h1, h2, h3⟩ := takeN_setW hs i v ha m (by omega)
    obtain ⟨k, hk⟩ := top_of (s := takeN s m) (by rw [takeN_frees s m (by omega)]; simp; omega)
    have hl := Ms.top_lt (takeN_ok hs m).inv hk
    have hne : a ≠ k := fun e => by rw [e, hl.2] at h2; cases h2
    have e1 : (takeN s m).takeS = (takeN s m).take k := by unfold Ms.takeS; rw [hk]
    have e2 : ((takeN s m).setW a i v).takeS = ((takeN s m).setW a i v).take k := by unfold Ms.takeS; rw [top_setW, hk]
    refine ⟨?_, ?_, ?_⟩
    · show (takeN (s.setW a i v) m).takeS = (takeN s m).takeS.setW a i v
      rw [h1, e1, e2, take_setW _ _ _ hne]
    · show (takeN s m).takeS.tk a = true
      rw [e1]
      show fput (takeN s m).tk k true a = true
      rw [fput_ne _ _ hne]
      exact h2
    · show tops (s.setW a i v) m ++ [(takeN (s.setW a i v) m).topV] = tops s m ++ [(takeN s m).topV]
      rw [h3, h1]
      rfl
theorem take_frees_len {s : Ms} {k : Nat} (h : s.top = some k) : s.takeS.frees.length + 1 = s.frees.length := by
  have := congrArg List.length (takeS_frees h)
  rw [List.length_append, List.length_singleton] at this
  exact this
/-- New tables are in use, and other ones. -/
theorem tops_new {s : Ms} (hs : s.Ok) {a : Nat} (ha : s.tk a = true) : ∀ m, m ≤ s.frees.length → ∀ t ∈ tops s m, t.toNat ≠ a ∧ (takeN s m).has t = true
  | 0, _, t, ht => by cases ht
  | m + 1, h, t, ht => by
    obtain ⟨k, hk⟩ := top_of (s := takeN s m) (by rw [takeN_frees s m (by omega)]; simp; omega)
    have hl := Ms.top_lt (takeN_ok hs m).inv hk
    have e1 : (takeN s (m + 1)) = (takeN s m).take k := by show (takeN s m).takeS = _; unfold Ms.takeS; rw [hk]
    have eV : (takeN s m).topV = (k : Int) := by unfold Ms.topV; rw [hk]
    rcases List.mem_append.1 ht with ht | ht
    · obtain ⟨i1, i2⟩ := tops_new hs ha m (by omega) t ht
      refine ⟨i1, ?_⟩
      rw [e1]
      by_cases e : t = (k : Int)
      · rw [e]; exact has_take_self hl.1
      · rw [has_take _ _ e]; exact i2
    · obtain rfl := List.mem_singleton.1 ht
      rw [eV]
      refine ⟨?_, by rw [e1]; exact has_take_self hl.1⟩
      have h2 := (takeN_setW hs 0 0 ha m (by omega)).2.1
      intro e
      have e : k = a := by simpa using e
      rw [e] at hl
      rw [h2] at hl
      cases hl.2
theorem takeN_has {s : Ms} (hs : s.Ok) {t : Int} (h : s.has t = true) : ∀ m, m ≤ s.frees.length → (takeN s m).has t = true
  | 0, _ => h
  | m + 1, hm => by
    obtain ⟨k, hk⟩ := top_of (s := takeN s m) (by rw [takeN_frees s m (by omega)]; simp; omega)
    have hl := Ms.top_lt (takeN_ok hs m).inv hk
    have e1 : (takeN s (m + 1)) = (takeN s m).take k := by show (takeN s m).takeS = _; unfold Ms.takeS; rw [hk]
    rw [e1]
    by_cases e : t = (k : Int)
    · rw [e]; exact has_take_self hl.1
    · rw [has_take _ _ e]; exact takeN_has hs h m (by omega)
theorem chain_up {p lw : Int} {sz : Nat} (hp : hasB p = true) (hsz : sz ≤ 3) : ∀ (m : Nat) (s : Ms) (t : Int), s.Ok → m ≤ s.frees.length → s.has t = true → sz + m ≤ 3 → chain s p lw sz m t = upL (takeN s m) p lw sz (t :: tops s m)
  | 0, s, t, _, _, _, _ => rfl
  | m + 1, s, t, hs, hm, ht, h3 => by
    obtain ⟨k, hk⟩ := top_of (s := s) (by omega)
    have hl := Ms.top_lt hs.inv hk
    obtain ⟨t0, t1, t2⟩ := Ms.has_iff.1 ht
    have hne : t.toNat ≠ k := fun e => by rw [e, hl.2] at t2; cases t2
    have e1 : s.takeS = s.take k := by unfold Ms.takeS; rw [hk]
    have eV : s.topV = (k : Int) := by unfold Ms.topV; rw [hk]
    have hok := hs.takeS
    have hk2 : (s.take k).has (k : Int) = true := has_take_self hl.1
    have htk : (s.take k).tk t.toNat = true := by
      show fput s.tk k true t.toNat = true
      rw [fput_ne _ _ hne]; exact t2
    have hfl := take_frees_len hk
    rw [e1] at hok hfl
    unfold chain
    rw [hk]
    dsimp only
    rw [chain_up hp hsz m _ (k : Int) ⟨hok.inv.setW _ _ (by
      unfold tabW
      exact encW_u64 _ _), hok.small⟩ (by show m ≤ (s.take k).frees.length; omega) hk2 (by omega)]
    obtain ⟨h1, _, h4⟩ := takeN_setW hok (index p (sz + m + 1 : Nat)).toNat (tabW k (sz + m + 1)) htk m (by omega)
    rw [h1, h4, takeN_shift, tops_shift, e1, eV]
    rw [upL_setW _ _ _ _ _ _ _ _ (fun x hx => by
      rcases List.mem_cons.1 hx with rfl | hx
      · simpa using fun e => hne e.symm
      · exact (tops_new hok htk m (by omega) x hx).1)]
    show _ = (upL (takeN (s.take k) m) p lw sz ((k : Int) :: tops (s.take k) m)).setW t.toNat (index p (sz + (tops (s.take k) m).length + 1 : Nat)).toNat (tabW k (sz + (tops (s.take k) m).length + 1))
    rw [tops_len]
end Go.Proofs.Ytmfheghbgihdmaa
namespace Go.Proofs.Ytmfheghbgihdmaa
open Go.RowKit
theorem Arr.stp {w : World} {A : Option Addr} {n : Nat} {l : List Stp} (h : Arr w A n 9 (l.map Stp.cells)) {i : Nat} (hi : i < l.length) : ∃ b off, A = some ⟨b, off, none⟩ ∧ b < w.heap.size ∧
    (w.cell? ⟨b, off + i * 9, none⟩ = some ((Value.int .i64) l[i].kind) ∧ w.cell? ⟨b, off + i * 9 + 1, none⟩ = some ((Value.int .i64) l[i].core) ∧ w.cell? ⟨b, off + i * 9 + 2, none⟩ = some ((Value.int .i64) l[i].m.page) ∧ w.cell? ⟨b, off + i * 9 + 3, none⟩ = some ((Value.int .i64) l[i].m.size) ∧
      w.cell? ⟨b, off + i * 9 + 4, none⟩ = some ((Value.int .i64) l[i].m.frame) ∧ w.cell? ⟨b, off + i * 9 + 5, none⟩ = some ((Value.int .i64) l[i].m.rights) ∧ w.cell? ⟨b, off + i * 9 + 6, none⟩ = some ((Value.int .i64) l[i].a.page) ∧ w.cell? ⟨b, off + i * 9 + 7, none⟩ = some ((Value.int .i64) l[i].a.kind) ∧
      w.cell? ⟨b, off + i * 9 + 8, none⟩ = some (Value.bool l[i].a.user)) := by
  obtain ⟨b, off, hb, hbl, hc⟩ := h.at_ (i := i) (xs := (l[i]).cells) (by simp [hi])
  exact ⟨b, off, hb, hbl, hc 0 _ rfl, hc 1 _ rfl, hc 2 _ rfl, hc 3 _ rfl, hc 4 _ rfl, hc 5 _ rfl, hc 6 _ rfl, hc 7 _ rfl, hc 8 _ rfl⟩
/-- The same where the slice's place is known. -/
theorem Arr.stpAt {w : World} {b off n : Nat} {l : List Stp} (h : Arr w (some ⟨b, off, none⟩) n 9 (l.map Stp.cells)) {i : Nat} (hi : i < l.length) {x : Stp} (hx : l[i] = x) : b < w.heap.size ∧
    (w.cell? ⟨b, off + i * 9, none⟩ = some ((Value.int .i64) x.kind) ∧ w.cell? ⟨b, off + i * 9 + 1, none⟩ = some ((Value.int .i64) x.core) ∧ w.cell? ⟨b, off + i * 9 + 2, none⟩ = some ((Value.int .i64) x.m.page) ∧ w.cell? ⟨b, off + i * 9 + 3, none⟩ = some ((Value.int .i64) x.m.size) ∧
      w.cell? ⟨b, off + i * 9 + 4, none⟩ = some ((Value.int .i64) x.m.frame) ∧ w.cell? ⟨b, off + i * 9 + 5, none⟩ = some ((Value.int .i64) x.m.rights) ∧ w.cell? ⟨b, off + i * 9 + 6, none⟩ = some ((Value.int .i64) x.a.page) ∧ w.cell? ⟨b, off + i * 9 + 7, none⟩ = some ((Value.int .i64) x.a.kind) ∧
      w.cell? ⟨b, off + i * 9 + 8, none⟩ = some (Value.bool x.a.user)) := by
  subst hx
  obtain ⟨b', off', hb, hbl, hc⟩ := h.stp hi
  injection hb with hb
  injection hb with h1 h2
  subst h1; subst h2
  exact ⟨hbl, hc⟩
end Go.Proofs.Ytmfheghbgihdmaa
namespace Go.Proofs.Ytmfheghbgihdmaa
open Go.RowKit
set_option maxRecDepth 100000
/-- A walker's state. -/
def stV (c : Ck) : Int := if c.on = true then (if c.mark = true then 2 else 1) else 0
/-- A walker's cells: what it read stands in the last ones. -/
abbrev wkCells (root : Int) (c : Ck) (w : Int) (e : En) : Array Value := #[(Value.int .i64) root, (Value.int .i64) (stV c), (Value.int .i64) c.a.page, (Value.int .i64) c.a.kind, Value.bool c.a.user, (Value.int .i64) c.level, (Value.int .i64) c.t, (Value.int .u64) w, Value.bool e.there, Value.bool e.leaf, (Value.int .i64) e.rights, Value.bool e.used, Value.bool e.dirty, (Value.int .i64) e.frame]
def wkBlk (b : Nat) (root : Int) (c : Ck) (w : Int) (e : En) : HProp := blk b (wkCells root c w e) 127
/-- What it read, where it is to mark it. -/
def Mk (c : Ck) (w : Int) (e : En) : Prop := c.mark = true → w = c.w ∧ e = decE c.w c.level
def walkerAt (b : Nat) (root : Int) (c : Ck) : HProp := ex fun w => ex fun e => lift (Mk c w e) * wkBlk b root c w e
theorem walkerAt_open {b : Nat} {root : Int} {c : Ck} {P : HProp} {W : World} (h : Has W (walkerAt b root c * P)) : ∃ w e, Mk c w e ∧ Has W (wkBlk b root c w e * P) := by
  unfold walkerAt at h
  obtain ⟨w, h⟩ := has_ex_star.1 h
  obtain ⟨e, h⟩ := has_ex_star.1 h
  obtain ⟨h1, h2⟩ := has_lift.1 h.a1
  exact ⟨w, e, h1, h2⟩
theorem walkerAt_shut {b : Nat} {root : Int} {c : Ck} {w : Int} {e : En} {P : HProp} {W : World} (hm : Mk c w e) (h : Has W (wkBlk b root c w e * P)) : Has W (walkerAt b root c * P) := by
  unfold walkerAt
  exact has_ex_star.2 ⟨w, has_ex_star.2 ⟨e, (has_lift.2 ⟨hm, h⟩).a2⟩⟩
/-- The value of a step's result. -/
abbrev RsV (r : Rs) : Value := .agg #[Value.bool r.fin, (Value.int .i64) r.an.fin, (Value.int .i64) r.an.frame, (Value.int .i64) r.an.rights, (Value.int .i64) r.ln.m.page, (Value.int .i64) r.ln.m.size, (Value.int .i64) r.ln.m.frame, (Value.int .i64) r.ln.m.rights, Value.bool r.ln.dirty]
theorem load_result {w : World} {R : HProp} {b : Nat} {v0 v1 v2 v3 v4 v5 v6 v7 v8 : Value} (h : Has w (blk b #[v0, v1, v2, v3, v4, v5, v6, v7, v8] 106 * R)) : (loadVar 106 ⟨b, 0, none⟩).run Try.prog w = .ok (.agg #[v0, v1, v2, v3, v4, v5, v6, v7, v8]) w :=
  run_loadVar_row w b 106 106 _ _ _ h.heap Try.underlying106 rfl (by kernel_rfl)
theorem load_access {w : World} {R : HProp} {b : Nat} {v0 v1 v2 : Value} (h : Has w (blk b #[v0, v1, v2] 33 * R)) : (loadVar 33 ⟨b, 0, none⟩).run Try.prog w = .ok (.agg #[v0, v1, v2]) w :=
  run_loadVar_row w b 33 33 _ _ _ h.heap Try.underlying33 rfl (by kernel_rfl)
theorem Has.cells14 {w : World} {R : HProp} {b : Nat} {v0 v1 v2 v3 v4 v5 v6 v7 v8 v9 v10 v11 v12 v13 : Value} {t : TypeId} (h : Has w (blk b #[v0, v1, v2, v3, v4, v5, v6, v7, v8, v9, v10, v11, v12, v13] t * R)) :
    w.cell? ⟨b, 0, none⟩ = some v0 ∧ w.cell? ⟨b, 1, none⟩ = some v1 ∧ w.cell? ⟨b, 2, none⟩ = some v2 ∧ w.cell? ⟨b, 3, none⟩ = some v3 ∧ w.cell? ⟨b, 4, none⟩ = some v4 ∧ w.cell? ⟨b, 5, none⟩ = some v5 ∧ w.cell? ⟨b, 6, none⟩ = some v6 ∧
      w.cell? ⟨b, 7, none⟩ = some v7 ∧ w.cell? ⟨b, 8, none⟩ = some v8 ∧ w.cell? ⟨b, 9, none⟩ = some v9 ∧ w.cell? ⟨b, 10, none⟩ = some v10 ∧ w.cell? ⟨b, 11, none⟩ = some v11 ∧ w.cell? ⟨b, 12, none⟩ = some v12 ∧ w.cell? ⟨b, 13, none⟩ = some v13 :=
  ⟨h.cell 0, h.cell 1, h.cell 2, h.cell 3, h.cell 4, h.cell 5, h.cell 6, h.cell 7, h.cell 8, h.cell 9, h.cell 10, h.cell 11, h.cell 12, h.cell 13⟩
theorem Has.frees7 {w : World} {R : HProp} {b : Nat} {cs : Array Value} {t : TypeId} (h : Has w (blk b cs t * R)) :
    w.frozen? ⟨b, 1, none⟩ = false ∧ w.frozen? ⟨b, 2, none⟩ = false ∧ w.frozen? ⟨b, 3, none⟩ = false ∧ w.frozen? ⟨b, 4, none⟩ = false ∧ w.frozen? ⟨b, 5, none⟩ = false ∧ w.frozen? ⟨b, 6, none⟩ = false ∧ w.frozen? ⟨b, 7, none⟩ = false :=
  ⟨h.free 1, h.free 2, h.free 3, h.free 4, h.free 5, h.free 6, h.free 7⟩
theorem newW (root : Int) (R : HProp) (w : World) (h : Has w R) : Calls Try.prog 35 #[(Value.int .i64) root] w fun e w' => ∃ p, Res (.pointer (some ⟨p, 0, none⟩)) (walkerAt p root Ck.zero * R) w e w' := by
  have h1 : Has _ (wkBlk w.heap.size root Ck.zero 0 En.zero * R) := h.new (wkCells root Ck.zero 0 En.zero) 127
  go_enter Try.func35, Try.ntmps35
  go_wp2
  go_ret
  exact ⟨_, rfl, walkerAt_shut (fun h => by cases h) h1, (Ext.refl w).alloc _⟩
theorem onW (b : Nat) (root : Int) (c : Ck) (R : HProp) (W : World) (h : Has W (walkerAt b root c * R)) : Calls Try.prog 55 #[.pointer (some ⟨b, 0, none⟩)] W (Same (Value.bool c.on) W) := by
  obtain ⟨w, e, _, h⟩ := walkerAt_open h
  unfold wkBlk at h
  have c1 : W.cell? ⟨b, 1, none⟩ = some ((Value.int .i64) (stV c)) := h.cell 1
  have hl := h.lt
  have hy : Hid ((stV c != 0) = c.on) := Lib.hid (by unfold stV; cases c.on <;> cases c.mark <;> rfl)
  go_enter Try.func55, Try.ntmps55
  go_wp2
  go_ret
  exact ⟨by rw [hy.out]; rfl, rfl⟩
theorem accessW (b : Nat) (root : Int) (c : Ck) (R : HProp) (W : World) (h : Has W (walkerAt b root c * R)) : Calls Try.prog 56 #[.pointer (some ⟨b, 0, none⟩)] W (Pure (.agg #[(Value.int .i64) c.a.page, (Value.int .i64) c.a.kind, Value.bool c.a.user]) W) := by
  obtain ⟨w, e, _, h⟩ := walkerAt_open h
  unfold wkBlk at h
  obtain ⟨c0, c1, c2, c3, c4, _⟩ := h.cells14
  have hl := h.lt
  have H1 := (has_old W).new #[(Value.int .i64) c.a.page, (Value.int .i64) c.a.kind, Value.bool c.a.user] 33
  go_enter Try.func56, Try.ntmps56
  go_wp2
  refine ret_via (fun wz => Has wz (blk W.heap.size #[(Value.int .i64) c.a.page, (Value.int .i64) c.a.kind, Value.bool c.a.user] 33 * (old W W.heap.size)) ∧ Ext W wz) ⟨H1, by (repeat (first | with_reducible assumption | with_reducible exact Ext.refl _ | with_reducible refine Ext.set ?_ _ _ | with_reducible refine Ext.alloc ?_ _ | with_reducible refine Ext.drew ?_ | with_reducible refine Ext.drewN ?_ _ | assumption | exact Ext.refl _ | refine Ext.alloc ?_ _ | refine Ext.set ?_ _ _ | refine Ext.drew ?_ | refine Ext.drewN ?_ _ | refine Ext.below ?_ (by assumption) | refine Ext.trans ?_ (by assumption)))⟩ ?_
  rintro wz ⟨hz, xz⟩
  exact bodyPost_ret (results_c Try.results56 rfl (load_access hz)) rfl ⟨rfl, below_of1 hz.right xz⟩
/-- What a Begin tells, and what it leaves. -/
def begC (c : Ck) (a : Ac) : Int := if checkAccess a ≠ 0 then checkAccess a else if c.on = true then 8 else 0
def begS (c : Ck) (root : Int) (a : Ac) : Ck := if begC c a = 0 then c.begin root a else c
theorem beginW (b : Nat) (root : Int) (c : Ck) (a : Ac) (R : HProp) (W : World) (h : Has W (walkerAt b root c * R)) :
    Calls Try.prog 44 #[.pointer (some ⟨b, 0, none⟩), .agg #[(Value.int .i64) a.page, (Value.int .i64) a.kind, Value.bool a.user]] W (Res ((Value.int .i64) (begC c a)) (walkerAt b root (begS c root a) * R) W) := by
  have h1 := (h.new #[(Value.int .i64) a.page, (Value.int .i64) a.kind, Value.bool a.user] 33).p2
  have x1 := (Ext.refl W).alloc (.cells #[(Value.int .i64) a.page, (Value.int .i64) a.kind, Value.bool a.user] 33)
  obtain ⟨a0, a1, a2⟩ := h1.right.cells3
  have HC := Lib.hid (fun X => checkAccess_any a.page a.kind a.user X)
  by_cases hc : checkAccess a = 0
  · have hc' : checkAccess ⟨a.page, a.kind, a.user⟩ = 0 := hc
    rw [hc'] at HC
    have HO := Lib.hid (fun R X h => onW b root c R X h)
    cases hon : c.on with
    | true =>
      have hy1 : Hid (begC c a = 8 ∧ begS c root a = c) := Lib.hid (by unfold begS begC; rw [if_neg (by omega), if_pos hon]; exact ⟨rfl, if_neg (by omega)⟩)
      rw [hon] at HO
      clear hc hc' h hon
      go_enter Try.func44, Try.ntmps44
      go_wp2_with (first | (go_at_call 40; refine (HC.out _).mono ?_; rintro e w2 ⟨rfl, b2⟩; have h2 := h1.below b2; have x2 := x1.below b2) | (go_at_call 55; refine (HO.out _ _ h2).mono ?_; rintro e w3 ⟨rfl, rfl⟩))
      go_ret
      rw [hy1.out.1, hy1.out.2]
      exact ⟨rfl, h2.p2.right, x2⟩
    | false =>
      have hy1 : Hid (begC c a = 0 ∧ begS c root a = c.begin root a) := Lib.hid (by unfold begS begC; rw [if_neg (by omega), if_neg (by rw [hon]; simp)]; exact ⟨rfl, if_pos rfl⟩)
      rw [hon] at HO
      clear hc hc' h
      go_enter Try.func44, Try.ntmps44
      go_wp2_with (refine (HC.out _).mono ?_; rintro e w2 ⟨rfl, b2⟩)
      have h2 := h1.below b2
      have x2 := x1.below b2
      clear h1 x1 b2 a0 a1 a2
      refine (HO.out _ _ h2).mono ?_; rintro e w3 ⟨rfl, rfl⟩
      obtain ⟨w', e', _, h3⟩ := walkerAt_open h2
      unfold wkBlk at h3
      obtain ⟨a0, a1, a2⟩ := h3.right.cells3
      have al := h3.right.lt
      have hne := h3.ne
      have hne' := hne.symm
      have k0 : w2.cell? ⟨b, 0, none⟩ = some ((Value.int .i64) root) := h3.cell 0
      obtain ⟨f1, f2, f3, f4, f5, f6, _⟩ := h3.frees7
      have kl := h3.lt
      obtain ⟨_, k1, k2, k3, k4, k5, k6, _⟩ := h3.cells14
      have hc1 : stV (c.begin root a) = 1 := rfl
      go_wp2_with fail
      go_ret
      rw [hy1.out.1, hy1.out.2]
      refine ⟨rfl, walkerAt_shut (w := w') (e := e') (fun h => by cases h) ?_, ((((((x2.set _ _).set _ _).set _ _).set _ _).set _ _).set _ _)⟩
      have h9 : Has ((((((w2.setCell ⟨b, 2, none⟩ ((Value.int .i64) a.page)).setCell ⟨b, 3, none⟩ ((Value.int .i64) a.kind)).setCell ⟨b, 4, none⟩ (Value.bool a.user)).setCell ⟨b, 1, none⟩ ((Value.int .i64) 1)).setCell ⟨b, 5, none⟩ ((Value.int .i64) 3)).setCell ⟨b, 6, none⟩ ((Value.int .i64) root)) (wkBlk b root (c.begin root a) w' e' * (blk W.heap.size #[(Value.int .i64) a.page, (Value.int .i64) a.kind, Value.bool a.user] 33 * R)) := (((((h3.set 2 _).set 3 _).set 4 _).set 1 _).set 5 _).set 6 _
      exact h9.p2.right
  · have hc' : checkAccess ⟨a.page, a.kind, a.user⟩ ≠ 0 := hc
    have hn : (checkAccess ⟨a.page, a.kind, a.user⟩ != 0) = true := by simpa using hc'
    have hy1 : Hid (begC c a = checkAccess ⟨a.page, a.kind, a.user⟩ ∧ begS c root a = c) := Lib.hid (by unfold begS begC; rw [if_pos hc]; exact ⟨rfl, if_neg hc⟩)
    clear hc hc' h
    generalize checkAccess ⟨a.page, a.kind, a.user⟩ = cc at *
    go_enter Try.func44, Try.ntmps44
    go_wp2_with (refine (HC.out _).mono ?_; rintro e w2 ⟨rfl, b2⟩)
    go_ret
    rw [hy1.out.1, hy1.out.2]
    exact ⟨rfl, (h1.below b2).p2.right, x1.below b2⟩
theorem againW (b : Nat) (root : Int) (c : Ck) (R : HProp) (W : World) (h : Has W (walkerAt b root c * R)) : Calls Try.prog 76 #[.pointer (some ⟨b, 0, none⟩)] W (Res (.tuple #[]) (walkerAt b root (c.again root) * R) W) := by
  have HO := Lib.hid (fun R X h => onW b root c R X h)
  cases hon : c.on with
  | true =>
    rw [hon] at HO
    obtain ⟨w', e', _, h3⟩ := walkerAt_open h
    unfold wkBlk at h3
    have k0 : W.cell? ⟨b, 0, none⟩ = some ((Value.int .i64) root) := h3.cell 0
    obtain ⟨f1, f2, f3, f4, f5, f6, _⟩ := h3.frees7
    have kl := h3.lt
    obtain ⟨_, k1, k2, k3, k4, k5, k6, _⟩ := h3.cells14
    have hs : c.again root = { c with t := root, level := 3, mark := false } := by unfold Ck.again; rw [if_pos hon]
    have hst : stV { c with t := root, level := 3, mark := false } = 1 := by unfold stV; simp [hon]
    have h9 : Has (((W.setCell ⟨b, 1, none⟩ ((Value.int .i64) 1)).setCell ⟨b, 5, none⟩ ((Value.int .i64) 3)).setCell ⟨b, 6, none⟩ ((Value.int .i64) root)) (wkBlk b root { c with t := root, level := 3, mark := false } w' e' * R) := by
      unfold wkBlk wkCells
      rw [hst]
      exact ((h3.set 1 _).set 5 _).set 6 _
    have HS := Lib.hid hs
    clear hs hst h3 hon
    go_enter Try.func76, Try.ntmps76
    go_wp2_with (refine (HO.out _ _ h).mono ?_; rintro e w3 ⟨rfl, rfl⟩)
    refine bodyPost_ret (v := .tuple #[]) (by simp [results, Try.results76]) rfl ?_
    rw [HS.out]
    exact ⟨rfl, walkerAt_shut (w := w') (e := e') (fun h => by cases h) h9, (((Ext.refl W).set _ _).set _ _).set _ _⟩
  | false =>
    rw [hon] at HO
    have hs : c.again root = c := by unfold Ck.again; rw [if_neg (by rw [hon]; simp)]
    have HS := Lib.hid hs
    clear hs hon
    go_enter Try.func76, Try.ntmps76
    go_wp2_with (refine (HO.out _ _ h).mono ?_; rintro e w3 ⟨rfl, rfl⟩)
    refine bodyPost_ret (v := .tuple #[]) (by simp [results, Try.results76]) rfl ?_
    rw [HS.out]
    exact ⟨rfl, h, Ext.refl _⟩
set_option maxHeartbeats 1000000 in
theorem endW (b : Nat) (root : Int) (c : Ck) (w : Int) (e : En) (an : An) (ln : Ln) (R : HProp) (W : World) (h : Has W (wkBlk b root c w e * R)) :
    Calls Try.prog 88 #[.pointer (some ⟨b, 0, none⟩), .agg #[(Value.int .i64) an.fin, (Value.int .i64) an.frame, (Value.int .i64) an.rights], .agg #[(Value.int .i64) ln.m.page, (Value.int .i64) ln.m.size, (Value.int .i64) ln.m.frame, (Value.int .i64) ln.m.rights, Value.bool ln.dirty]] W (Res (RsV ⟨true, an, ln⟩) (wkBlk b root c.idle w e * R) W) := by
  unfold wkBlk at h
  have h1 := ((h.new #[(Value.int .i64) an.fin, (Value.int .i64) an.frame, (Value.int .i64) an.rights] 37).new #[(Value.int .i64) ln.m.page, (Value.int .i64) ln.m.size, (Value.int .i64) ln.m.frame, (Value.int .i64) ln.m.rights, Value.bool ln.dirty] 100).new #[Value.bool false, (Value.int .i64) 0, (Value.int .i64) 0, (Value.int .i64) 0, (Value.int .i64) 0, (Value.int .i64) 0, (Value.int .i64) 0, (Value.int .i64) 0, Value.bool false] 106
  have x1 := (((Ext.refl W).alloc (.cells #[(Value.int .i64) an.fin, (Value.int .i64) an.frame, (Value.int .i64) an.rights] 37)).alloc (.cells #[(Value.int .i64) ln.m.page, (Value.int .i64) ln.m.size, (Value.int .i64) ln.m.frame, (Value.int .i64) ln.m.rights, Value.bool ln.dirty] 100)).alloc (.cells #[Value.bool false, (Value.int .i64) 0, (Value.int .i64) 0, (Value.int .i64) 0, (Value.int .i64) 0, (Value.int .i64) 0, (Value.int .i64) 0, (Value.int .i64) 0, Value.bool false] 106)
  simp only [World.size_alloc] at h1
  clear h
  go_enter Try.func88, Try.ntmps88
  go_upto_region 1 with fail
  generalize (((W.alloc (.cells #[(Value.int .i64) an.fin, (Value.int .i64) an.frame, (Value.int .i64) an.rights] 37)).alloc (.cells #[(Value.int .i64) ln.m.page, (Value.int .i64) ln.m.size, (Value.int .i64) ln.m.frame, (Value.int .i64) ln.m.rights, Value.bool ln.dirty] 100)).alloc (.cells #[Value.bool false, (Value.int .i64) 0, (Value.int .i64) 0, (Value.int .i64) 0, (Value.int .i64) 0, (Value.int .i64) 0, (Value.int .i64) 0, (Value.int .i64) 0, Value.bool false] 106)) = W3 at *
  generalize W.heap.size + 1 + 1 = X3 at *
  generalize W.heap.size + 1 = X2 at *
  generalize W.heap.size = X1 at *
  have h2 : Has W3 (blk b (wkCells root c w e) 127 * (blk X1 #[(Value.int .i64) an.fin, (Value.int .i64) an.frame, (Value.int .i64) an.rights] 37 * (blk X2 #[(Value.int .i64) ln.m.page, (Value.int .i64) ln.m.size, (Value.int .i64) ln.m.frame, (Value.int .i64) ln.m.rights, Value.bool ln.dirty] 100 * (blk X3 #[Value.bool false, (Value.int .i64) 0, (Value.int .i64) 0, (Value.int .i64) 0, (Value.int .i64) 0, (Value.int .i64) 0, (Value.int .i64) 0, (Value.int .i64) 0, Value.bool false] 106 * R)))) := h1.eq (by ac_rfl)
  have h2' : Has W3 (blk b (wkCells root c w e) 127 * (blk X2 #[(Value.int .i64) ln.m.page, (Value.int .i64) ln.m.size, (Value.int .i64) ln.m.frame, (Value.int .i64) ln.m.rights, Value.bool ln.dirty] 100 * (blk X1 #[(Value.int .i64) an.fin, (Value.int .i64) an.frame, (Value.int .i64) an.rights] 37 * (blk X3 #[Value.bool false, (Value.int .i64) 0, (Value.int .i64) 0, (Value.int .i64) 0, (Value.int .i64) 0, (Value.int .i64) 0, (Value.int .i64) 0, (Value.int .i64) 0, Value.bool false] 106 * R)))) := h1.eq (by ac_rfl)
  have n1 := h2.ne
  have n2 := h2'.ne
  have m1 := n1.symm
  have m2 := n2.symm
  obtain ⟨f1, f2, f3, f4, f5, f6, _⟩ := h2.frees7
  have kl := h2.lt
  obtain ⟨_, k1, k2, k3, k4, k5, k6, _⟩ := h2.cells14
  obtain ⟨a0, a1, a2⟩ := h2.right.cells3
  have al := h2.right.lt
  obtain ⟨l0, l1, l2, l3, l4⟩ := h2.right.right.cells5
  have ll := h2.right.right.lt
  have h3 := h2.right.right.right
  have r0 := h3.free 0
  have r1 := h3.free 1
  have r2 := h3.free 2
  have r3 := h3.free 3
  have r4 := h3.free 4
  have r5 := h3.free 5
  have r6 := h3.free 6
  have r7 := h3.free 7
  have r8 := h3.free 8
  have rl := h3.lt
  obtain ⟨s0, s1, s2, s3, s4, s5, s6, s7, s8⟩ := h3.cells9
  have h3' : Has W3 (blk b (wkCells root c w e) 127 * (blk X3 #[Value.bool false, (Value.int .i64) 0, (Value.int .i64) 0, (Value.int .i64) 0, (Value.int .i64) 0, (Value.int .i64) 0, (Value.int .i64) 0, (Value.int .i64) 0, Value.bool false] 106 * (R * (blk X1 #[(Value.int .i64) an.fin, (Value.int .i64) an.frame, (Value.int .i64) an.rights] 37 * blk X2 #[(Value.int .i64) ln.m.page, (Value.int .i64) ln.m.size, (Value.int .i64) ln.m.frame, (Value.int .i64) ln.m.rights, Value.bool ln.dirty] 100)))) := h1.eq (by ac_rfl)
  have n3 := h3'.ne
  have m3 := n3.symm
  have h4 : Has ((((W3.setCell ⟨b, 1, none⟩ ((Value.int .i64) 0)).setCell ⟨b, 2, none⟩ ((Value.int .i64) 0)).setCell ⟨b, 3, none⟩ ((Value.int .i64) 0)).setCell ⟨b, 4, none⟩ (Value.bool false)) (wkBlk b root c.idle w e * (blk X3 #[Value.bool false, (Value.int .i64) 0, (Value.int .i64) 0, (Value.int .i64) 0, (Value.int .i64) 0, (Value.int .i64) 0, (Value.int .i64) 0, (Value.int .i64) 0, Value.bool false] 106 * (R * (blk X1 #[(Value.int .i64) an.fin, (Value.int .i64) an.frame, (Value.int .i64) an.rights] 37 * blk X2 #[(Value.int .i64) ln.m.page, (Value.int .i64) ln.m.size, (Value.int .i64) ln.m.frame, (Value.int .i64) ln.m.rights, Value.bool ln.dirty] 100)))) := (((h3'.set 1 _).set 2 _).set 3 _).set 4 _
  clear h1 h2 h2' h3 h3'
  go_wp2_with fail
  refine ret_via (fun wz => Has wz (blk X3 #[Value.bool true, (Value.int .i64) an.fin, (Value.int .i64) an.frame, (Value.int .i64) an.rights, (Value.int .i64) ln.m.page, (Value.int .i64) ln.m.size, (Value.int .i64) ln.m.frame, (Value.int .i64) ln.m.rights, Value.bool ln.dirty] 106 * (wkBlk b root c.idle w e * (R * (blk X1 #[(Value.int .i64) an.fin, (Value.int .i64) an.frame, (Value.int .i64) an.rights] 37 * blk X2 #[(Value.int .i64) ln.m.page, (Value.int .i64) ln.m.size, (Value.int .i64) ln.m.frame, (Value.int .i64) ln.m.rights, Value.bool ln.dirty] 100)))) ∧ Ext W wz) ⟨((((((((h4.p2.set 0 _).set 1 _).set 2 _).set 3 _).set 4 _).set 5 _).set 6 _).set 7 _).set 8 _, by (repeat (first | with_reducible assumption | with_reducible exact Ext.refl _ | with_reducible refine Ext.set ?_ _ _ | with_reducible refine Ext.alloc ?_ _ | with_reducible refine Ext.drew ?_ | with_reducible refine Ext.drewN ?_ _ | assumption | exact Ext.refl _ | refine Ext.alloc ?_ _ | refine Ext.set ?_ _ _ | refine Ext.drew ?_ | refine Ext.drewN ?_ _ | refine Ext.below ?_ (by assumption) | refine Ext.trans ?_ (by assumption)))⟩ ?_
  rintro wz ⟨hz, xz⟩
  exact bodyPost_ret (results_c Try.results88 rfl (load_result hz)) rfl ⟨rfl, hz.right.a2.left, xz⟩
end Go.Proofs.Ytmfheghbgihdmaa
