/- The contract of walk.Find. -/
import Derived.Test.YtndhgomikpokpaaMemS
import Derived.Test.YtndhgomikpokpaaWalkM
import Derived.Test.YtndhgomikpokpaaEntry5
import Derived.Test.YtndhgomikpokpaaPage
import Derived.Test.YtndhgomikpokpaaOrdL
namespace Go.Proofs.Ytndhgomikpokpaa
open Go.RowKit
set_option maxRecDepth 100000

/-- A row of ints at value v. -/
def irow (v : Value) (l : List Int) : HProp := row 3 1 v l.length (l.map (Value.int .i64))
theorem index_le {p L : Int} (hp : hasB p = true) (h0 : 0 ≤ L) (h3 : L ≤ 3) : 0 ≤ index p L ∧ index p L < 8 := by
  have hp' : 0 ≤ p ∧ p < 4096 := by unfold hasB at hp; simpa using hp
  obtain ⟨L, rfl⟩ := Int.eq_ofNat_of_zero_le h0
  rw [index_eq hp'.1 hp'.2 (by omega)]
  omega
theorem hasW_index {s : Ms} {t p L : Int} (hp : hasB p = true) (h0 : 0 ≤ L) (h3 : L ≤ 3) : s.hasW t (index p L) = s.has t := by
  obtain ⟨i0, i8⟩ := index_le hp h0 h3
  unfold Ms.hasW
  simp [i0, i8]
/-- Places on a way. -/
def placesOf (p : Int) (n : Nat) : List Int := (List.range n).map fun (i : Nat) => index p (3 - (i : Int))
theorem placesOf_succ (p : Int) (n : Nat) : placesOf p (n + 1) = placesOf p n ++ [index p (3 - (n : Int))] := by simp [placesOf, List.range_succ]
theorem placesOf_len (p : Int) (n : Nat) : (placesOf p n).length = n := by simp [placesOf]
theorem Has.set9 {w : World} {R : HProp} {b : Nat} {v0 v1 v2 v3 v4 v5 v6 v7 v8 : Value} {t : TypeId} (h : Has w (blk b #[v0, v1, v2, v3, v4, v5, v6, v7, v8] t * R)) (u0 u1 u2 u3 u4 u5 u6 u7 u8 : Value) :
    Has ((((((((((w.setCell ⟨b, 0, none⟩ u0).setCell ⟨b, 1, none⟩ u1).setCell ⟨b, 2, none⟩ u2).setCell ⟨b, 3, none⟩ u3).setCell ⟨b, 4, none⟩ u4).setCell ⟨b, 5, none⟩ u5).setCell ⟨b, 6, none⟩ u6).setCell ⟨b, 7, none⟩ u7).setCell ⟨b, 8, none⟩ u8)) (blk b #[u0, u1, u2, u3, u4, u5, u6, u7, u8] t * R) := by
  have h0 : Has _ (blk b #[u0, v1, v2, v3, v4, v5, v6, v7, v8] t * R) := h.set 0 u0
  have h1 : Has _ (blk b #[u0, u1, v2, v3, v4, v5, v6, v7, v8] t * R) := h0.set 1 u1
  have h2 : Has _ (blk b #[u0, u1, u2, v3, v4, v5, v6, v7, v8] t * R) := h1.set 2 u2
  have h3 : Has _ (blk b #[u0, u1, u2, u3, v4, v5, v6, v7, v8] t * R) := h2.set 3 u3
  have h4 : Has _ (blk b #[u0, u1, u2, u3, u4, v5, v6, v7, v8] t * R) := h3.set 4 u4
  have h5 : Has _ (blk b #[u0, u1, u2, u3, u4, u5, v6, v7, v8] t * R) := h4.set 5 u5
  have h6 : Has _ (blk b #[u0, u1, u2, u3, u4, u5, u6, v7, v8] t * R) := h5.set 6 u6
  have h7 : Has _ (blk b #[u0, u1, u2, u3, u4, u5, u6, u7, v8] t * R) := h6.set 7 u7
  have h8 : Has _ (blk b #[u0, u1, u2, u3, u4, u5, u6, u7, u8] t * R) := h7.set 8 u8
  exact h8
theorem Has.cells9 {w : World} {R : HProp} {b : Nat} {v0 v1 v2 v3 v4 v5 v6 v7 v8 : Value} {t : TypeId} (h : Has w (blk b #[v0, v1, v2, v3, v4, v5, v6, v7, v8] t * R)) :
    w.cell? ⟨b, 0, none⟩ = some v0 ∧ w.cell? ⟨b, 1, none⟩ = some v1 ∧ w.cell? ⟨b, 2, none⟩ = some v2 ∧ w.cell? ⟨b, 3, none⟩ = some v3 ∧ w.cell? ⟨b, 4, none⟩ = some v4 ∧ w.cell? ⟨b, 5, none⟩ = some v5 ∧ w.cell? ⟨b, 6, none⟩ = some v6 ∧ w.cell? ⟨b, 7, none⟩ = some v7 ∧ w.cell? ⟨b, 8, none⟩ = some v8 :=
  ⟨h.cell 0, h.cell 1, h.cell 2, h.cell 3, h.cell 4, h.cell 5, h.cell 6, h.cell 7, h.cell 8⟩
theorem Has.frees9 {w : World} {R : HProp} {b : Nat} {v0 v1 v2 v3 v4 v5 v6 v7 v8 : Value} {t : TypeId} (h : Has w (blk b #[v0, v1, v2, v3, v4, v5, v6, v7, v8] t * R)) :
    w.frozen? ⟨b, 0, none⟩ = false ∧ w.frozen? ⟨b, 1, none⟩ = false ∧ w.frozen? ⟨b, 2, none⟩ = false ∧ w.frozen? ⟨b, 3, none⟩ = false ∧ w.frozen? ⟨b, 4, none⟩ = false ∧ w.frozen? ⟨b, 5, none⟩ = false ∧ w.frozen? ⟨b, 6, none⟩ = false ∧ w.frozen? ⟨b, 7, none⟩ = false ∧ w.frozen? ⟨b, 8, none⟩ = false :=
  ⟨h.free 0, h.free 1, h.free 2, h.free 3, h.free 4, h.free 5, h.free 6, h.free 7, h.free 8⟩
theorem Ext.set9 {w0 w : World} (h : Ext w0 w) (b : Nat) (u0 u1 u2 u3 u4 u5 u6 u7 u8 : Value) : Ext w0 ((((((((((w.setCell ⟨b, 0, none⟩ u0).setCell ⟨b, 1, none⟩ u1).setCell ⟨b, 2, none⟩ u2).setCell ⟨b, 3, none⟩ u3).setCell ⟨b, 4, none⟩ u4).setCell ⟨b, 5, none⟩ u5).setCell ⟨b, 6, none⟩ u6).setCell ⟨b, 7, none⟩ u7).setCell ⟨b, 8, none⟩ u8)) :=
  (((((((((h.set _ _).set _ _).set _ _).set _ _).set _ _).set _ _).set _ _).set _ _).set _ _)
theorem load_spot {w : World} {R : HProp} {b : Nat} {v0 v1 v2 v3 v4 v5 v6 v7 v8 : Value} (h : Has w (blk b #[v0, v1, v2, v3, v4, v5, v6, v7, v8] 108 * R)) : (loadVar 108 ⟨b, 0, none⟩).run Try.prog w = .ok (.agg #[v0, v1, v2, v3, v4, v5, v6, v7, v8]) w :=
  run_loadVar_row w b 108 108 _ _ _ h.heap Try.underlying108 rfl (by kernel_rfl)
/-- What a look for a way hands back. -/
def spotV (y : Wy) (A B : Option Addr) (n c d : Nat) : Value := .tuple #[.agg #[(Value.int .i64) y.lev, Value.bool y.e.there, Value.bool y.e.leaf, (Value.int .i64) y.e.rights, Value.bool y.e.used, Value.bool y.e.dirty, (Value.int .i64) y.e.frame, .slice A n c, .slice B n d], (Value.int .i64) y.code]
def FoundWay (y : Wy) (p : Int) (w : World) (e : Ending) (w' : World) : Prop :=
  ∃ A B c d, e = .returned (spotV y A B y.tabs.length c d) ∧ Has w' (irow (.slice A y.tabs.length c) y.tabs * (irow (.slice B y.tabs.length d) (placesOf p y.tabs.length) * old w w.heap.size)) ∧ Ext w w'

/-- The level that stands in a spot. -/
def lev (w : World) (b : Nat) : Nat := match w.cell? ⟨b, 0, none⟩ with | some (.int _ n) => n.toNat | _ => 0
theorem Has.build {w : World} {A B C : HProp} (h : Has w (A * (B * C))) (cs : Array Value) (t : TypeId) : Has (w.alloc (.cells cs t)) (A * (B * (blk w.heap.size cs t * C))) := by
  have h1 := h.new cs t
  rw [star_left_comm, star_left_comm (blk w.heap.size cs t) B C] at h1
  exact h1
theorem news_cell {w : World} {b : Nat} {v : Value} (h : w.cell? ⟨b, 0, none⟩ = some v) : ∀ j u, ([v] : List Value)[j]? = some u → w.cell? ((⟨b, 0, none⟩ : Addr).add j) = some u := by
  intro j u hj
  match j, hj with
  | 0, hj => simp at hj; subst hj; exact h
theorem irow_row {w : World} {A : Option Addr} {c : Nat} {l : List Int} {P : HProp} (h : Has w (irow (.slice A l.length c) l * P)) : Has w (row 3 1 (.slice A l.length c) l.length (l.map (Value.int .i64)) * P) := h
theorem prow_row {w : World} {v : Value} {p : Int} {n : Nat} {P : HProp} (h : Has w (irow v (placesOf p n) * P)) : Has w (row 3 1 v n ((placesOf p n).map (Value.int .i64)) * P) := by
  unfold irow at h
  rw [placesOf_len] at h
  exact h
theorem spot_end {w : World} {A B J1 J2 C : HProp} (h : Has w (A * (B * (J1 * (J2 * C))))) : Has w (A * (B * C)) := h.drop3.drop3
theorem spot_set {w : World} {A B C : HProp} {b : Nat} {v0 v1 v2 v3 v4 v5 v6 v7 v8 : Value} {t : TypeId} (h : Has w (A * (B * (blk b #[v0, v1, v2, v3, v4, v5, v6, v7, v8] t * C)))) (u7 u8 : Value) :
    Has ((w.setCell ⟨b, 7, none⟩ u7).setCell ⟨b, 8, none⟩ u8) (A * (B * (blk b #[v0, v1, v2, v3, v4, v5, v6, u7, u8] t * C))) := by
  rw [star_left_comm B, star_left_comm A] at h
  have h1 : Has _ (blk b #[v0, v1, v2, v3, v4, v5, v6, u7, v8] t * _) := h.set 7 u7
  have h2 : Has _ (blk b #[v0, v1, v2, v3, v4, v5, v6, u7, u8] t * _) := h1.set 8 u8
  rw [star_left_comm B, star_left_comm A]
  exact h2
theorem spot_set0 {w : World} {A B C : HProp} {b : Nat} {v0 v1 v2 v3 v4 v5 v6 v7 v8 : Value} {t : TypeId} (h : Has w (A * (B * (blk b #[v0, v1, v2, v3, v4, v5, v6, v7, v8] t * C)))) (u0 : Value) :
    Has (w.setCell ⟨b, 0, none⟩ u0) (A * (B * (blk b #[u0, v1, v2, v3, v4, v5, v6, v7, v8] t * C))) := by
  rw [star_left_comm B, star_left_comm A] at h
  have h1 : Has _ (blk b #[u0, v1, v2, v3, v4, v5, v6, v7, v8] t * _) := h.set 0 u0
  rw [star_left_comm B, star_left_comm A]
  exact h1
theorem spot_copy {w : World} {A B X O : HProp} {b r : Nat} {v0 v1 v2 v3 v4 v5 v6 v7 v8 z0 z1 z2 z3 z4 z5 z6 z7 z8 : Value} {t : TypeId} (h : Has w (A * (B * (blk b #[v0, v1, v2, v3, v4, v5, v6, v7, v8] t * (X * (blk r #[z0, z1, z2, z3, z4, z5, z6, z7, z8] t * O)))))) (u1 u2 u3 u4 u5 u6 : Value) :
    Has (((((((((((((((w.setCell ⟨b, 1, none⟩ u1).setCell ⟨b, 2, none⟩ u2).setCell ⟨b, 3, none⟩ u3).setCell ⟨b, 4, none⟩ u4).setCell ⟨b, 5, none⟩ u5).setCell ⟨b, 6, none⟩ u6).setCell ⟨r, 0, none⟩ v0).setCell ⟨r, 1, none⟩ u1).setCell ⟨r, 2, none⟩ u2).setCell ⟨r, 3, none⟩ u3).setCell ⟨r, 4, none⟩ u4).setCell ⟨r, 5, none⟩ u5).setCell ⟨r, 6, none⟩ u6).setCell ⟨r, 7, none⟩ v7).setCell ⟨r, 8, none⟩ v8) (blk r #[v0, u1, u2, u3, u4, u5, u6, v7, v8] t * (A * (B * O))) := by
  have h1 := h.drop4
  rw [star_left_comm B, star_left_comm A] at h1
  have s1 : Has _ (blk b #[v0, u1, v2, v3, v4, v5, v6, v7, v8] t * _) := h1.set 1 u1
  have s2 : Has _ (blk b #[v0, u1, u2, v3, v4, v5, v6, v7, v8] t * _) := s1.set 2 u2
  have s3 : Has _ (blk b #[v0, u1, u2, u3, v4, v5, v6, v7, v8] t * _) := s2.set 3 u3
  have s4 : Has _ (blk b #[v0, u1, u2, u3, u4, v5, v6, v7, v8] t * _) := s3.set 4 u4
  have s5 : Has _ (blk b #[v0, u1, u2, u3, u4, u5, v6, v7, v8] t * _) := s4.set 5 u5
  have s6 : Has _ (blk b #[v0, u1, u2, u3, u4, u5, u6, v7, v8] t * _) := s5.set 6 u6
  have h2 := s6.right
  rw [star_left_comm B, star_left_comm A] at h2
  exact h2.set9 _ _ _ _ _ _ _ _ _
theorem spot_fin {w : World} {u v : Value} {l : List Int} {x ix p : Int} {C : HProp} (hp : placesOf p (l.length + 1) = placesOf p l.length ++ [ix])
    (h : Has w (row 3 1 u (l.length + 1) (l.map (Value.int .i64) ++ [(Value.int .i64) x]) * (row 3 1 v (l.length + 1) ((placesOf p l.length).map (Value.int .i64) ++ [(Value.int .i64) ix]) * C))) : Has w (irow u (l ++ [x]) * (irow v (placesOf p (l.length + 1)) * C)) := by
  unfold irow
  rw [hp, List.length_append, List.length_append, List.length_singleton, List.length_singleton, placesOf_len, List.map_append, List.map_append]
  exact h
theorem one_int (n : Int) : ∀ u ∈ ([(Value.int .i64) n] : List Value), u.oneCell' = true := by
  intro u hu
  simp at hu
  subst hu
  rfl
set_option maxHeartbeats 4000000 in
theorem find_way (f : Nat) (s : Ms) (root p : Int) (R : HProp) (w : World) (hs : s.Ok) (h : Has w (framesAt f s * R)) :
    Calls Try.prog 55 #[.pointer (some ⟨f, 0, none⟩), .int .i64 root, .int .i64 p] w (FoundWay (way s root p) p w) := by
  have h1 := (has_old w).new #[(Value.int .i64) 0, Value.bool false, Value.bool false, (Value.int .i64) 0, Value.bool false, Value.bool false, (Value.int .i64) 0, .slice none 0 0, .slice none 0 0] 108
  have x1 := (Ext.refl w).alloc (.cells #[(Value.int .i64) 0, Value.bool false, Value.bool false, (Value.int .i64) 0, Value.bool false, Value.bool false, (Value.int .i64) 0, .slice none 0 0, .slice none 0 0] 108)
  have HH := Lib.hid (has_any p)
  cases hp : hasB p with
  | false =>
    have hy := Lib.hid (show way s root p = .err 1 by unfold way; rw [hp]; rfl)
    rw [hp] at HH
    go_enter Try.func55, Try.ntmps55
    go_wp2_with (refine (HH.out _).mono ?_; rintro e w2 ⟨rfl, rfl⟩)
    refine ret_via (fun wz => Has wz (blk w.heap.size #[(Value.int .i64) 0, Value.bool false, Value.bool false, (Value.int .i64) 0, Value.bool false, Value.bool false, (Value.int .i64) 0, .slice none 0 0, .slice none 0 0] 108 * old w w.heap.size) ∧ Ext w wz) ⟨h1, by (repeat (first | with_reducible assumption | with_reducible exact Ext.refl _ | with_reducible refine Ext.set ?_ _ _ | with_reducible refine Ext.alloc ?_ _ | with_reducible refine Ext.drew ?_ | with_reducible refine Ext.drewN ?_ _ | assumption | exact Ext.refl _ | refine Ext.alloc ?_ _ | refine Ext.set ?_ _ _ | refine Ext.drew ?_ | refine Ext.drewN ?_ _ | refine Ext.below ?_ (by assumption) | refine Ext.trans ?_ (by assumption)))⟩ ?_
    rintro wz ⟨hz, xz⟩
    exact bodyPost_ret (results_ct Try.results55 rfl rfl (load_spot hz)) rfl ⟨none, none, 0, 0, by rw [hy.out]; rfl, by rw [hy.out]; exact Has.rowNil (Has.rowNil hz.right), xz⟩
  | true =>
    have hwy := Lib.hid (show way s root p = wayA s p 3 root [] by unfold way; rw [if_pos hp])
    rw [hp] at HH
    have h2 := h1.new #[(Value.int .i64) 3, Value.bool false, Value.bool false, (Value.int .i64) 0, Value.bool false, Value.bool false, (Value.int .i64) 0, .slice none 0 0, .slice none 0 0] 108
    have x2 := x1.alloc (.cells #[(Value.int .i64) 3, Value.bool false, Value.bool false, (Value.int .i64) 0, Value.bool false, Value.bool false, (Value.int .i64) 0, .slice none 0 0, .slice none 0 0] 108)
    simp only [World.size_alloc] at h2
    have h3 : Has ((w.alloc (.cells #[(Value.int .i64) 0, Value.bool false, Value.bool false, (Value.int .i64) 0, Value.bool false, Value.bool false, (Value.int .i64) 0, .slice none 0 0, .slice none 0 0] 108)).alloc (.cells #[(Value.int .i64) 3, Value.bool false, Value.bool false, (Value.int .i64) 0, Value.bool false, Value.bool false, (Value.int .i64) 0, .slice none 0 0, .slice none 0 0] 108))
        (irow (.slice none 0 0) [] * (irow (.slice none 0 0) [] * (blk (w.heap.size + 1) #[(Value.int .i64) 3, Value.bool false, Value.bool false, (Value.int .i64) 0, Value.bool false, Value.bool false, (Value.int .i64) 0, .slice none 0 0, .slice none 0 0] 108 * (blk w.heap.size #[(Value.int .i64) 0, Value.bool false, Value.bool false, (Value.int .i64) 0, Value.bool false, Value.bool false, (Value.int .i64) 0, .slice none 0 0, .slice none 0 0] 108 * old w w.heap.size)))) := Has.rowNil (Has.rowNil h2)
    clear h1 x1 h2
    go_enter Try.func55, Try.ntmps55
    go_wp2_with (refine (HH.out _).mono ?_; rintro e w2 ⟨rfl, rfl⟩)
    go_loopw [9] (fun s9 wr => ∃ (L : Nat) (t : Int) (acc : List Int) (A B : Option Addr) (c d : Nat), s9 = (Value.int .i64) t ∧ acc.length + L = 3 ∧ Hid (wayA s p 3 root [] = wayA s p L t acc) ∧
        Has wr (irow (.slice A acc.length c) acc * (irow (.slice B acc.length d) (placesOf p acc.length) * (blk (w.heap.size + 1) #[(Value.int .i64) L, Value.bool false, Value.bool false, (Value.int .i64) 0, Value.bool false, Value.bool false, (Value.int .i64) 0, .slice A acc.length c, .slice B acc.length d] 108 * (blk w.heap.size #[(Value.int .i64) 0, Value.bool false, Value.bool false, (Value.int .i64) 0, Value.bool false, Value.bool false, (Value.int .i64) 0, .slice none 0 0, .slice none 0 0] 108 * old w w.heap.size)))) ∧ Ext w wr)
      (fun _ wr => lev wr (w.heap.size + 1))
    case atStart => exact ⟨3, root, [], none, none, 0, 0, rfl, rfl, Lib.hid rfl, h3, x2⟩
    case round =>
      clear h3 x2
      obtain ⟨L, t, acc, A, B, c, d, rfl, hL, HW, hr, hx⟩ := hrel
      have hlev := Lib.hid (show lev wr (w.heap.size + 1) = L by unfold lev; rw [hr.right.right.cell 0]; rfl)
      have hL3 : (L : Int) ≤ 3 := by omega
      have hL0 : (0 : Int) ≤ L := by omega
      obtain ⟨c0, c1, c2, c3, c4, c5, c6, c7, c8⟩ := hr.right.right.cells9
      have cl := hr.right.right.lt
      obtain ⟨r0, r1, r2, r3, r4, r5, r6, r7, r8⟩ := hr.right.right.right.cells9
      obtain ⟨g0, g1, g2, g3, g4, g5, g6, g7, g8⟩ := hr.right.right.right.frees9
      have rl := hr.right.right.right.lt
      have hF : Has wr (framesAt f s * R) := (h.onto' (hr.eq (show _ = (irow (.slice A acc.length c) acc * (irow (.slice B acc.length d) (placesOf p acc.length) * (blk (w.heap.size + 1) #[(Value.int .i64) L, Value.bool false, Value.bool false, (Value.int .i64) 0, Value.bool false, Value.bool false, (Value.int .i64) 0, .slice A acc.length c, .slice B acc.length d] 108 * blk w.heap.size #[(Value.int .i64) 0, Value.bool false, Value.bool false, (Value.int .i64) 0, Value.bool false, Value.bool false, (Value.int .i64) 0, .slice none 0 0, .slice none 0 0] 108))) * old w w.heap.size by simp only [star_assoc]))).right
      have hLD := loadF f s t (index p L) R wr hF
      rw [hasW_index hp hL0 hL3] at hLD
      have hIX := index_any p L wr
      have hwq : s.has t = true → loadV s t (index p L) = wordV s t (index p L) := fun e => by
        unfold loadV wordV
        rw [if_pos (by rw [hasW_index hp hL0 hL3]; exact e)]
      cases ht : s.has t with
      | false =>
        rw [ht] at hLD
        have hy := Lib.hid (show way s root p = .err 12 by rw [hwy.out, HW.out]; exact wayA_free ht)
        clear hwq ht
        generalize index p L = ix at *
        generalize loadV s t ix = v at *
        go_wp2_with fail
        refine hIX.mono ?_; rintro e w2 ⟨rfl, rfl⟩
        go_wp2_with fail
        refine hLD.mono ?_; rintro e w2 ⟨rfl, rfl⟩
        go_wp2_with fail
        refine ret_via (fun wz => Has wz (blk w.heap.size #[(Value.int .i64) 0, Value.bool false, Value.bool false, (Value.int .i64) 0, Value.bool false, Value.bool false, (Value.int .i64) 0, .slice none 0 0, .slice none 0 0] 108 * old w w.heap.size) ∧ Ext w wz) ⟨hr.right.right.right.set9 _ _ _ _ _ _ _ _ _, hx.set9 _ _ _ _ _ _ _ _ _ _⟩ ?_
        rintro wz ⟨hz, xz⟩
        exact bodyPost_ret (results_ct Try.results55 rfl rfl (load_spot hz)) rfl ⟨none, none, 0, 0, by rw [hy.out]; rfl, by rw [hy.out]; exact Has.rowNil (Has.rowNil hz.right), xz⟩
      | true =>
        rw [ht] at hLD
        rw [hwq ht] at hLD
        clear hwq
        have hb := hs.inv.wok t.toNat (index p L).toNat
        have HD := Lib.hid (fun W => decode_any (wordV s t (index p L)) L W hb.1 hb.2)
        clear hb
        by_cases hc : decC (wordV s t (index p L)) L = 0
        case neg =>
          have hy := Lib.hid (show way s root p = .err (decC (wordV s t (index p L)) L) by rw [hwy.out, HW.out]; exact wayA_bad ht hc)
          have hv := Lib.hid (decV_no (w := wordV s t (index p L)) (l := L) rfl (.inl hc))
          rw [hv.out] at HD
          clear hv
          have hn : (decC (wordV s t (index p L)) L != 0) = true := by simpa using hc
          clear hc
          generalize decC (wordV s t (index p L)) L = code at *
          generalize wordV s t (index p L) = v at *
          generalize index p L = ix at *
          go_wp2_with fail
          refine hIX.mono ?_; rintro e w2 ⟨rfl, rfl⟩
          go_wp2_with fail
          refine hLD.mono ?_; rintro e w2 ⟨rfl, rfl⟩
          go_wp2_with fail
          refine (HD.out _).mono ?_; rintro e w2 ⟨rfl, b2⟩
          have h2 := (hr.right.right.right.below b2)
          have x2 := hx.below b2
          clear r0 r1 r2 r3 r4 r5 r6 r7 r8 g0 g1 g2 g3 g4 g5 g6 g7 g8 rl
          obtain ⟨r0, r1, r2, r3, r4, r5, r6, r7, r8⟩ := h2.cells9
          obtain ⟨g0, g1, g2, g3, g4, g5, g6, g7, g8⟩ := h2.frees9
          have rl := h2.lt
          go_wp2_with fail
          refine ret_via (fun wz => Has wz (blk w.heap.size #[(Value.int .i64) 0, Value.bool false, Value.bool false, (Value.int .i64) 0, Value.bool false, Value.bool false, (Value.int .i64) 0, .slice none 0 0, .slice none 0 0] 108 * old w w.heap.size) ∧ Ext w wz) ⟨(h2.set9 _ _ _ _ _ _ _ _ _).alloc _, (x2.set9 _ _ _ _ _ _ _ _ _ _).alloc _⟩ ?_
          rintro wz ⟨hz, xz⟩
          exact bodyPost_ret (results_ct Try.results55 rfl rfl (load_spot hz)) rfl ⟨none, none, 0, 0, by rw [hy.out]; rfl, by rw [hy.out]; exact Has.rowNil (Has.rowNil hz.right), xz⟩
        have hy := Lib.hid (show way s root p = wayA s p L t acc by rw [hwy.out, HW.out])
        have hend := Lib.hid (fun he => wayA_end (acc := acc) ht hc he)
        have hon := Lib.hid (fun he => wayA_on (acc := acc) ht hc he)
        have hv := Lib.hid (show decV (wordV s t (index p L)) L = .tuple #[.agg #[Value.bool (decE (wordV s t (index p L)) L).there, Value.bool (decE (wordV s t (index p L)) L).leaf, (Value.int .i64) (decE (wordV s t (index p L)) L).rights, Value.bool (decE (wordV s t (index p L)) L).used, Value.bool (decE (wordV s t (index p L)) L).dirty, (Value.int .i64) (decE (wordV s t (index p L)) L).frame], (Value.int .i64) 0] by unfold decV; rw [hc])
        rw [hv.out] at HD
        clear hv hc HW
        have hpl := Lib.hid (show placesOf p (acc.length + 1) = placesOf p acc.length ++ [index p L] by rw [placesOf_succ, show (3 : Int) - acc.length = L by omega])
        generalize decE (wordV s t (index p L)) L = e at *
        generalize wordV s t (index p L) = v at *
        generalize index p L = ix at *
        go_wp2_with fail
        refine hIX.mono ?_; rintro e2 w2 ⟨rfl, rfl⟩
        go_wp2_with fail
        refine hLD.mono ?_; rintro e2 w2 ⟨rfl, rfl⟩
        go_wp2_with fail
        refine (HD.out _).mono ?_; rintro e2 w2 ⟨rfl, b2⟩
        have h2 := (hr.below b2).build #[Value.bool e.there, Value.bool e.leaf, (Value.int .i64) e.rights, Value.bool e.used, Value.bool e.dirty, (Value.int .i64) e.frame] 58
        have x2 := (hx.below b2).alloc (.cells #[Value.bool e.there, Value.bool e.leaf, (Value.int .i64) e.rights, Value.bool e.used, Value.bool e.dirty, (Value.int .i64) e.frame] 58)
        clear r0 r1 r2 r3 r4 r5 r6 r7 r8 g0 g1 g2 g3 g4 g5 g6 g7 g8 rl c0 c1 c2 c3 c4 c5 c6 c7 c8 cl hF hLD hIX HD hr hx
        go_upto_region 13 with fail
        generalize w2.alloc (.cells #[Value.bool e.there, Value.bool e.leaf, (Value.int .i64) e.rights, Value.bool e.used, Value.bool e.dirty, (Value.int .i64) e.frame] 58) = w4 at *
        generalize w2.heap.size = E at *
        have h3 : Has w4 (irow (.slice A acc.length c) acc * (irow (.slice B acc.length d) (placesOf p acc.length) * (blk (w.heap.size + 1) #[(Value.int .i64) L, Value.bool false, Value.bool false, (Value.int .i64) 0, Value.bool false, Value.bool false, (Value.int .i64) 0, .slice A acc.length c, .slice B acc.length d] 108 *
            (blk E #[Value.bool e.there, Value.bool e.leaf, (Value.int .i64) e.rights, Value.bool e.used, Value.bool e.dirty, (Value.int .i64) e.frame] 58 * (blk w.heap.size #[(Value.int .i64) 0, Value.bool false, Value.bool false, (Value.int .i64) 0, Value.bool false, Value.bool false, (Value.int .i64) 0, .slice none 0 0, .slice none 0 0] 108 * old w w.heap.size))))) := h2.eq (by congr 2; exact star_left_comm _ _ _)
        clear h2 b2
        go_cut [] (fun wx => ∃ (A' B' : Option Addr) (c' d' : Nat), Has wx (irow (.slice A' (acc.length + 1) c') (acc ++ [t]) * (irow (.slice B' (acc.length + 1) d') (placesOf p (acc.length + 1)) * (blk (w.heap.size + 1) #[(Value.int .i64) L, Value.bool false, Value.bool false, (Value.int .i64) 0, Value.bool false, Value.bool false, (Value.int .i64) 0, .slice A' (acc.length + 1) c', .slice B' (acc.length + 1) d'] 108 *
            (blk E #[Value.bool e.there, Value.bool e.leaf, (Value.int .i64) e.rights, Value.bool e.used, Value.bool e.dirty, (Value.int .i64) e.frame] 58 * (blk w.heap.size #[(Value.int .i64) 0, Value.bool false, Value.bool false, (Value.int .i64) 0, Value.bool false, Value.bool false, (Value.int .i64) 0, .slice none 0 0, .slice none 0 0] 108 * old w w.heap.size))))) ∧ Ext w wx)
        case first =>
          have c7 : w4.cell? ⟨w.heap.size + 1, 7, none⟩ = some (.slice A acc.length c) := h3.right.right.cell 7
          have c8 : w4.cell? ⟨w.heap.size + 1, 8, none⟩ = some (.slice B acc.length d) := h3.right.right.cell 8
          refine region_L (S := fun L w' => Till 4 1 (fun w' => w'.cell? ⟨w.heap.size + 1, 7, none⟩ = some (.slice A acc.length c)) L w' ∧ Till 9 6 (fun w' => w'.cell? ⟨w.heap.size + 1, 8, none⟩ = some (.slice B acc.length d)) L w') (by kernel_rfl) ⟨Till.start c7, Till.start c8⟩ (fun hHeld => ?_)
          refine anyL_take (i := 0) (v := ?_) rfl (by kernel_rfl) (by kernel_rfl) (by kernel_rfl) (fun _ _ _ h => h) (Good.and (Good.till (by decide) ⟨_, ⟨1, .data⟩, rfl, by simp, rfl, rfl⟩) (Good.till (by decide) ⟨_, ⟨6, .data⟩, rfl, by simp, rfl, rfl⟩)) (Or.inl ⟨by kernel_rfl, ?_⟩) hHeld (fun hHeld => ?_)
          rotate_left
          focus (intro wS hSw; obtain ⟨Lx, hLx, hs1, hs2⟩ := hSw; skip; go_simp; first | done | with_reducible rfl)
          try go_simp
          refine anyL_take (i := 1) (v := ?_) rfl (by kernel_rfl) (by kernel_rfl) (by kernel_rfl) (fun _ _ _ h => h) (Good.and (Good.till (by decide) ⟨_, ⟨1, .data⟩, rfl, by simp, rfl, rfl⟩) (Good.till (by decide) ⟨_, ⟨6, .data⟩, rfl, by simp, rfl, rfl⟩)) (Or.inl ⟨by kernel_rfl, ?_⟩) hHeld (fun hHeld => ?_)
          rotate_left
          focus (intro wS hSw; obtain ⟨Lx, hLx, hs1, hs2⟩ := hSw; have cS := hs1.still hLx; go_simp; first | done | with_reducible rfl)
          try go_simp
          refine anyL_take (i := 2) (v := ?_) rfl (by kernel_rfl) (by kernel_rfl) (by kernel_rfl) (fun _ _ _ h => h) (Good.and (Good.till (by decide) ⟨_, ⟨1, .data⟩, rfl, by simp, rfl, rfl⟩) (Good.till (by decide) ⟨_, ⟨6, .data⟩, rfl, by simp, rfl, rfl⟩)) (Or.inl ⟨by kernel_rfl, ?_⟩) hHeld (fun hHeld => ?_)
          rotate_left
          focus (intro wS hSw; obtain ⟨Lx, hLx, hs1, hs2⟩ := hSw; skip; go_simp; first | done | with_reducible rfl)
          try go_simp
          refine anyL_take (i := 5) (v := ?_) rfl (by kernel_rfl) (by kernel_rfl) (by kernel_rfl) (fun _ _ _ h => h) (Good.and (Good.till (by decide) ⟨_, ⟨1, .data⟩, rfl, by simp, rfl, rfl⟩) (Good.till (by decide) ⟨_, ⟨6, .data⟩, rfl, by simp, rfl, rfl⟩)) (Or.inl ⟨by kernel_rfl, ?_⟩) hHeld (fun hHeld => ?_)
          rotate_left
          focus (intro wS hSw; obtain ⟨Lx, hLx, hs1, hs2⟩ := hSw; skip; go_simp; first | done | with_reducible rfl)
          try go_simp
          refine anyL_take (i := 6) (v := ?_) rfl (by kernel_rfl) (by kernel_rfl) (by kernel_rfl) (fun _ _ _ h => h) (Good.and (Good.till (by decide) ⟨_, ⟨1, .data⟩, rfl, by simp, rfl, rfl⟩) (Good.till (by decide) ⟨_, ⟨6, .data⟩, rfl, by simp, rfl, rfl⟩)) (Or.inl ⟨by kernel_rfl, ?_⟩) hHeld (fun hHeld => ?_)
          rotate_left
          focus (intro wS hSw; obtain ⟨Lx, hLx, hs1, hs2⟩ := hSw; have cS := hs2.still hLx; go_simp; first | done | with_reducible rfl)
          try go_simp
          refine anyL_take (i := 7) (v := ?_) rfl (by kernel_rfl) (by kernel_rfl) (by kernel_rfl) (fun _ _ _ h => h) (Good.and (Good.till (by decide) ⟨_, ⟨1, .data⟩, rfl, by simp, rfl, rfl⟩) (Good.till (by decide) ⟨_, ⟨6, .data⟩, rfl, by simp, rfl, rfl⟩)) (Or.inl ⟨by kernel_rfl, ?_⟩) hHeld (fun hHeld => ?_)
          rotate_left
          focus (intro wS hSw; obtain ⟨Lx, hLx, hs1, hs2⟩ := hSw; skip; go_simp; first | done | with_reducible rfl)
          try go_simp
          have h3d := h3.drew
          --[G13
          refine anyL_ready (rs := [3, 8]) (by kernel_rfl) (by simp) ?_
          refine OneOf.cons rfl (fun K hK => ?_) ?_
          focus
            have k1 := h3d.build #[(Value.int .i64) t] 3
            try simp only [World.size_alloc] at k1
            go_simp
            refine hK.out _ _ ⟨⟨fun _ => by kernel_rfl, fun _ => k1.right.right.right.cell 7⟩, ⟨fun _ => by kernel_rfl, fun _ => k1.right.right.right.cell 8⟩⟩ (fun hHeld => ?_)
            clear hK K
            refine anyL_ready (rs := [4, 8]) (by kernel_rfl) (by simp) ?_
            refine OneOf.cons rfl (fun K hK => ?_) ?_
            focus
              refine step_append_has rfl (.tmp 51) (.tmp 53) 56 rfl Try.underlying56 elemI (.slice A acc.length c) acc.length (acc.map (Value.int .i64)) (by simp [Act.eval]) (irow_row k1) ⟨w4.drew.heap.size, 0, none⟩ 1 1 [(Value.int .i64) t] (by simp [Act.eval]) rfl (news_cell (k1.right.right.cell 0)) (one_int t) (by unfold maxLen; omega) (by omega) ?_
              intro A2 a3 w22 k2 y2
              try go_simp
              refine hK.out _ _ ⟨⟨fun _ => by kernel_rfl, fun h => till_gone (by kernel_rfl) h⟩, ⟨fun _ => by kernel_rfl, fun _ => k2.right.right.right.cell 8⟩⟩ (fun hHeld => ?_)
              clear hK K
              refine anyL_take (i := 10) (v := ?_) rfl (by kernel_rfl) (by kernel_rfl) (by kernel_rfl) (fun _ _ _ h => h) (Good.and (Good.till (by decide) ⟨_, ⟨1, .data⟩, rfl, by simp, rfl, rfl⟩) (Good.till (by decide) ⟨_, ⟨6, .data⟩, rfl, by simp, rfl, rfl⟩)) (Or.inl ⟨by kernel_rfl, ?_⟩) hHeld (fun hHeld => ?_)
              rotate_left
              focus (intro wS hSw; obtain ⟨Lx, hLx, hs1, hs2⟩ := hSw; skip; go_simp; first | done | with_reducible rfl)
              try go_simp
              refine anyL_ready (rs := [8]) (by kernel_rfl) (by simp) ?_
              refine OneOf.cons rfl (fun K hK => ?_) ?_
              focus
                have k3 := k2.build #[(Value.int .i64) ix] 3
                try simp only [World.size_alloc] at k3
                go_simp
                refine hK.out _ _ ⟨⟨fun _ => by kernel_rfl, fun h => till_gone (by kernel_rfl) h⟩, ⟨fun _ => by kernel_rfl, fun _ => k3.right.right.right.right.cell 8⟩⟩ (fun hHeld => ?_)
                clear hK K
                refine anyL_ready (rs := [9]) (by kernel_rfl) (by simp) ?_
                refine OneOf.cons rfl (fun K hK => ?_) ?_
                focus
                  refine step_append_has rfl (.tmp 56) (.tmp 58) 56 rfl Try.underlying56 elemI (.slice B acc.length d) acc.length ((placesOf p acc.length).map (Value.int .i64)) (by simp [Act.eval]) (prow_row k3.p2) ⟨w22.heap.size, 0, none⟩ 1 1 [(Value.int .i64) ix] (by simp [Act.eval]) rfl (news_cell (k3.right.right.cell 0)) (one_int ix) (by unfold maxLen; omega) (by omega) ?_
                  intro B2 b3 w24 k4 y4
                  try go_simp
                  refine hK.out _ _ ⟨⟨fun _ => by kernel_rfl, fun h => till_gone (by kernel_rfl) h⟩, ⟨fun _ => by kernel_rfl, fun h => till_gone (by kernel_rfl) h⟩⟩ (fun hHeld => ?_)
                  clear hK K
                  have hz := k4.p2
                  have xz := (((((((x2.drew).alloc _)).trans y2).alloc _)).trans y4)
                  have cl := hz.right.right.right.right.lt
                  have f7 := hz.right.right.right.right.free 7
                  have f8 := hz.right.right.right.right.free 8
                  have e7 := hz.right.right.right.right.cell 7
                  have e8 := hz.right.right.right.right.cell 8
                  have hfin := spot_end hz
                  refine anyL_ready (rs := [11]) (by kernel_rfl) (by simp) ?_
                  refine OneOf.cons rfl (fun K hK => ?_) OneOf.nil
                  go_simp
                  refine hK.out _ _ ⟨⟨fun _ => by kernel_rfl, fun h => till_gone (by kernel_rfl) h⟩, ⟨fun _ => by kernel_rfl, fun h => till_gone (by kernel_rfl) h⟩⟩ (fun hHeld => ?_)
                  clear hK K
                  refine anyL_take (i := 12) (v := ?_) rfl (by kernel_rfl) (by kernel_rfl) (by kernel_rfl) (fun _ _ _ h => h) (Good.and (Good.till (by decide) ⟨_, ⟨1, .data⟩, rfl, by simp, rfl, rfl⟩) (Good.till (by decide) ⟨_, ⟨6, .data⟩, rfl, by simp, rfl, rfl⟩)) (Or.inl ⟨by kernel_rfl, ?_⟩) hHeld (fun hHeld => ?_)
                  rotate_left
                  focus (intro wS hSw; obtain ⟨Lx, hLx, hs1, hs2⟩ := hSw; skip; go_simp; first | done | with_reducible rfl)
                  try go_simp
                  refine anyL_ready (rs := [13]) (by kernel_rfl) (by simp) ?_
                  refine OneOf.cons rfl (fun K hK => ?_) OneOf.nil
                  go_simp
                  refine hK.out _ _ ⟨⟨fun _ => by kernel_rfl, fun h => till_gone (by kernel_rfl) h⟩, ⟨fun _ => by kernel_rfl, fun h => till_gone (by kernel_rfl) h⟩⟩ (fun hHeld => ?_)
                  clear hK K
                  refine anyL_done (by kernel_rfl) ?_
                  go_wp2_with fail
                  go_meet
                  case rel => exact ⟨A2, B2, a3, b3, spot_fin hpl.out (spot_set hfin _ _), (xz.set _ _).set _ _⟩
                exact OneOf.nil
              exact OneOf.nil
            refine OneOf.cons rfl (fun K hK => ?_) ?_
            focus
              have k5 := k1.build #[(Value.int .i64) ix] 3
              try simp only [World.size_alloc] at k5
              go_simp
              refine hK.out _ _ ⟨⟨fun _ => by kernel_rfl, fun _ => k5.right.right.right.right.cell 7⟩, ⟨fun _ => by kernel_rfl, fun _ => k5.right.right.right.right.cell 8⟩⟩ (fun hHeld => ?_)
              clear hK K
              refine anyL_ready (rs := [4]) (by kernel_rfl) (by simp) ?_
              refine OneOf.cons rfl (fun K hK => ?_) ?_
              focus
                refine step_append_has rfl (.tmp 51) (.tmp 53) 56 rfl Try.underlying56 elemI (.slice A acc.length c) acc.length (acc.map (Value.int .i64)) (by simp [Act.eval]) (irow_row k5) ⟨w4.drew.heap.size, 0, none⟩ 1 1 [(Value.int .i64) t] (by simp [Act.eval]) rfl (news_cell (k5.right.right.right.cell 0)) (one_int t) (by unfold maxLen; omega) (by omega) ?_
                intro A2 a3 w26 k6 y6
                try go_simp
                refine hK.out _ _ ⟨⟨fun _ => by kernel_rfl, fun h => till_gone (by kernel_rfl) h⟩, ⟨fun _ => by kernel_rfl, fun _ => k6.right.right.right.right.cell 8⟩⟩ (fun hHeld => ?_)
                clear hK K
                refine anyL_take (i := 10) (v := ?_) rfl (by kernel_rfl) (by kernel_rfl) (by kernel_rfl) (fun _ _ _ h => h) (Good.and (Good.till (by decide) ⟨_, ⟨1, .data⟩, rfl, by simp, rfl, rfl⟩) (Good.till (by decide) ⟨_, ⟨6, .data⟩, rfl, by simp, rfl, rfl⟩)) (Or.inl ⟨by kernel_rfl, ?_⟩) hHeld (fun hHeld => ?_)
                rotate_left
                focus (intro wS hSw; obtain ⟨Lx, hLx, hs1, hs2⟩ := hSw; skip; go_simp; first | done | with_reducible rfl)
                try go_simp
                refine anyL_ready (rs := [9]) (by kernel_rfl) (by simp) ?_
                refine OneOf.cons rfl (fun K hK => ?_) ?_
                focus
                  refine step_append_has rfl (.tmp 56) (.tmp 58) 56 rfl Try.underlying56 elemI (.slice B acc.length d) acc.length ((placesOf p acc.length).map (Value.int .i64)) (by simp [Act.eval]) (prow_row k6.p2) ⟨w4.drew.heap.size + 1, 0, none⟩ 1 1 [(Value.int .i64) ix] (by simp [Act.eval]) rfl (news_cell (k6.right.right.cell 0)) (one_int ix) (by unfold maxLen; omega) (by omega) ?_
                  intro B2 b3 w27 k7 y7
                  try go_simp
                  refine hK.out _ _ ⟨⟨fun _ => by kernel_rfl, fun h => till_gone (by kernel_rfl) h⟩, ⟨fun _ => by kernel_rfl, fun h => till_gone (by kernel_rfl) h⟩⟩ (fun hHeld => ?_)
                  clear hK K
                  have hz := k7.p2
                  have xz := (((((((x2.drew).alloc _).alloc _)).trans y6)).trans y7)
                  have cl := hz.right.right.right.right.lt
                  have f7 := hz.right.right.right.right.free 7
                  have f8 := hz.right.right.right.right.free 8
                  have e7 := hz.right.right.right.right.cell 7
                  have e8 := hz.right.right.right.right.cell 8
                  have hfin := spot_end hz
                  refine anyL_ready (rs := [11]) (by kernel_rfl) (by simp) ?_
                  refine OneOf.cons rfl (fun K hK => ?_) OneOf.nil
                  go_simp
                  refine hK.out _ _ ⟨⟨fun _ => by kernel_rfl, fun h => till_gone (by kernel_rfl) h⟩, ⟨fun _ => by kernel_rfl, fun h => till_gone (by kernel_rfl) h⟩⟩ (fun hHeld => ?_)
                  clear hK K
                  refine anyL_take (i := 12) (v := ?_) rfl (by kernel_rfl) (by kernel_rfl) (by kernel_rfl) (fun _ _ _ h => h) (Good.and (Good.till (by decide) ⟨_, ⟨1, .data⟩, rfl, by simp, rfl, rfl⟩) (Good.till (by decide) ⟨_, ⟨6, .data⟩, rfl, by simp, rfl, rfl⟩)) (Or.inl ⟨by kernel_rfl, ?_⟩) hHeld (fun hHeld => ?_)
                  rotate_left
                  focus (intro wS hSw; obtain ⟨Lx, hLx, hs1, hs2⟩ := hSw; skip; go_simp; first | done | with_reducible rfl)
                  try go_simp
                  refine anyL_ready (rs := [13]) (by kernel_rfl) (by simp) ?_
                  refine OneOf.cons rfl (fun K hK => ?_) OneOf.nil
                  go_simp
                  refine hK.out _ _ ⟨⟨fun _ => by kernel_rfl, fun h => till_gone (by kernel_rfl) h⟩, ⟨fun _ => by kernel_rfl, fun h => till_gone (by kernel_rfl) h⟩⟩ (fun hHeld => ?_)
                  clear hK K
                  refine anyL_done (by kernel_rfl) ?_
                  go_wp2_with fail
                  go_meet
                  case rel => exact ⟨A2, B2, a3, b3, spot_fin hpl.out (spot_set hfin _ _), (xz.set _ _).set _ _⟩
                exact OneOf.nil
              exact OneOf.nil
            exact OneOf.nil
          refine OneOf.cons rfl (fun K hK => ?_) ?_
          focus
            have k8 := h3d.build #[(Value.int .i64) ix] 3
            try simp only [World.size_alloc] at k8
            go_simp
            refine hK.out _ _ ⟨⟨fun _ => by kernel_rfl, fun _ => k8.right.right.right.cell 7⟩, ⟨fun _ => by kernel_rfl, fun _ => k8.right.right.right.cell 8⟩⟩ (fun hHeld => ?_)
            clear hK K
            refine anyL_ready (rs := [3]) (by kernel_rfl) (by simp) ?_
            refine OneOf.cons rfl (fun K hK => ?_) ?_
            focus
              have k9 := k8.build #[(Value.int .i64) t] 3
              try simp only [World.size_alloc] at k9
              go_simp
              refine hK.out _ _ ⟨⟨fun _ => by kernel_rfl, fun _ => k9.right.right.right.right.cell 7⟩, ⟨fun _ => by kernel_rfl, fun _ => k9.right.right.right.right.cell 8⟩⟩ (fun hHeld => ?_)
              clear hK K
              refine anyL_ready (rs := [4]) (by kernel_rfl) (by simp) ?_
              refine OneOf.cons rfl (fun K hK => ?_) ?_
              focus
                refine step_append_has rfl (.tmp 51) (.tmp 53) 56 rfl Try.underlying56 elemI (.slice A acc.length c) acc.length (acc.map (Value.int .i64)) (by simp [Act.eval]) (irow_row k9) ⟨w4.drew.heap.size + 1, 0, none⟩ 1 1 [(Value.int .i64) t] (by simp [Act.eval]) rfl (news_cell (k9.right.right.cell 0)) (one_int t) (by unfold maxLen; omega) (by omega) ?_
                intro A2 a3 w30 k10 y10
                try go_simp
                refine hK.out _ _ ⟨⟨fun _ => by kernel_rfl, fun h => till_gone (by kernel_rfl) h⟩, ⟨fun _ => by kernel_rfl, fun _ => k10.right.right.right.right.cell 8⟩⟩ (fun hHeld => ?_)
                clear hK K
                refine anyL_take (i := 10) (v := ?_) rfl (by kernel_rfl) (by kernel_rfl) (by kernel_rfl) (fun _ _ _ h => h) (Good.and (Good.till (by decide) ⟨_, ⟨1, .data⟩, rfl, by simp, rfl, rfl⟩) (Good.till (by decide) ⟨_, ⟨6, .data⟩, rfl, by simp, rfl, rfl⟩)) (Or.inl ⟨by kernel_rfl, ?_⟩) hHeld (fun hHeld => ?_)
                rotate_left
                focus (intro wS hSw; obtain ⟨Lx, hLx, hs1, hs2⟩ := hSw; skip; go_simp; first | done | with_reducible rfl)
                try go_simp
                refine anyL_ready (rs := [9]) (by kernel_rfl) (by simp) ?_
                refine OneOf.cons rfl (fun K hK => ?_) ?_
                focus
                  refine step_append_has rfl (.tmp 56) (.tmp 58) 56 rfl Try.underlying56 elemI (.slice B acc.length d) acc.length ((placesOf p acc.length).map (Value.int .i64)) (by simp [Act.eval]) (prow_row k10.p2) ⟨w4.drew.heap.size, 0, none⟩ 1 1 [(Value.int .i64) ix] (by simp [Act.eval]) rfl (news_cell (k10.right.right.right.cell 0)) (one_int ix) (by unfold maxLen; omega) (by omega) ?_
                  intro B2 b3 w31 k11 y11
                  try go_simp
                  refine hK.out _ _ ⟨⟨fun _ => by kernel_rfl, fun h => till_gone (by kernel_rfl) h⟩, ⟨fun _ => by kernel_rfl, fun h => till_gone (by kernel_rfl) h⟩⟩ (fun hHeld => ?_)
                  clear hK K
                  have hz := k11.p2
                  have xz := (((((((x2.drew).alloc _).alloc _)).trans y10)).trans y11)
                  have cl := hz.right.right.right.right.lt
                  have f7 := hz.right.right.right.right.free 7
                  have f8 := hz.right.right.right.right.free 8
                  have e7 := hz.right.right.right.right.cell 7
                  have e8 := hz.right.right.right.right.cell 8
                  have hfin := spot_end hz
                  refine anyL_ready (rs := [11]) (by kernel_rfl) (by simp) ?_
                  refine OneOf.cons rfl (fun K hK => ?_) OneOf.nil
                  go_simp
                  refine hK.out _ _ ⟨⟨fun _ => by kernel_rfl, fun h => till_gone (by kernel_rfl) h⟩, ⟨fun _ => by kernel_rfl, fun h => till_gone (by kernel_rfl) h⟩⟩ (fun hHeld => ?_)
                  clear hK K
                  refine anyL_take (i := 12) (v := ?_) rfl (by kernel_rfl) (by kernel_rfl) (by kernel_rfl) (fun _ _ _ h => h) (Good.and (Good.till (by decide) ⟨_, ⟨1, .data⟩, rfl, by simp, rfl, rfl⟩) (Good.till (by decide) ⟨_, ⟨6, .data⟩, rfl, by simp, rfl, rfl⟩)) (Or.inl ⟨by kernel_rfl, ?_⟩) hHeld (fun hHeld => ?_)
                  rotate_left
                  focus (intro wS hSw; obtain ⟨Lx, hLx, hs1, hs2⟩ := hSw; skip; go_simp; first | done | with_reducible rfl)
                  try go_simp
                  refine anyL_ready (rs := [13]) (by kernel_rfl) (by simp) ?_
                  refine OneOf.cons rfl (fun K hK => ?_) OneOf.nil
                  go_simp
                  refine hK.out _ _ ⟨⟨fun _ => by kernel_rfl, fun h => till_gone (by kernel_rfl) h⟩, ⟨fun _ => by kernel_rfl, fun h => till_gone (by kernel_rfl) h⟩⟩ (fun hHeld => ?_)
                  clear hK K
                  refine anyL_done (by kernel_rfl) ?_
                  go_wp2_with fail
                  go_meet
                  case rel => exact ⟨A2, B2, a3, b3, spot_fin hpl.out (spot_set hfin _ _), (xz.set _ _).set _ _⟩
                exact OneOf.nil
              exact OneOf.nil
            exact OneOf.nil
          exact OneOf.nil
          --G13]
        case rest =>
          obtain ⟨A', B', c', d', hr, hx⟩ := hcut
          clear h3 x2
          obtain ⟨c0, c1, c2, c3, c4, c5, c6, c7, c8⟩ := hr.right.right.cells9
          obtain ⟨f0, f1, f2, f3, f4, f5, f6, f7, f8⟩ := hr.right.right.frees9
          have cl := hr.right.right.lt
          obtain ⟨e0, e1, e2, e3, e4, e5⟩ := hr.right.right.right.cells6
          have el := hr.right.right.right.lt
          have hE := hr.right.right.right.right
          obtain ⟨r0, r1, r2, r3, r4, r5, r6, r7, r8⟩ := hE.cells9
          obtain ⟨g0, g1, g2, g3, g4, g5, g6, g7, g8⟩ := hE.frees9
          have rl := hE.lt
          have hne : w.heap.size + 1 ≠ w.heap.size := by omega
          by_cases hend1 : e.there = false ∨ e.leaf = true
          · have hyy := Lib.hid (hy.out.trans (hend.out hend1))
            obtain ⟨th, lf, rg, us, di, fr⟩ := e
            dsimp only at *
            cases th with
            | false =>
              go_wp2_with fail
              refine ret_via (fun wz => Has wz (blk w.heap.size #[(Value.int .i64) L, Value.bool false, Value.bool lf, (Value.int .i64) rg, Value.bool us, Value.bool di, (Value.int .i64) fr, .slice A' (acc.length + 1) c', .slice B' (acc.length + 1) d'] 108 * (irow (.slice A' (acc.length + 1) c') (acc ++ [t]) * (irow (.slice B' (acc.length + 1) d') (placesOf p (acc.length + 1)) * old w w.heap.size))) ∧ Ext w wz) ⟨spot_copy hr _ _ _ _ _ _, Ext.set9 ((((((hx.set _ _).set _ _).set _ _).set _ _).set _ _).set _ _) _ _ _ _ _ _ _ _ _ _⟩ ?_
              rintro wz ⟨hz, xz⟩
              have hlen : (acc ++ [t]).length = acc.length + 1 := by rw [List.length_append, List.length_singleton]
              refine bodyPost_ret (results_ct Try.results55 rfl rfl (load_spot hz)) rfl ?_
              rw [hyy.out]
              refine ⟨A', B', c', d', ?_, ?_, xz⟩
              · show _ = Ending.returned (spotV _ A' B' (acc ++ [t]).length c' d')
                rw [hlen]
                rfl
              · show Has wz (irow (.slice A' (acc ++ [t]).length c') (acc ++ [t]) * (irow (.slice B' (acc ++ [t]).length d') (placesOf p (acc ++ [t]).length) * old w w.heap.size))
                rw [hlen]
                exact hz.right
            | true =>
              cases lf with
              | true =>
                go_wp2_with fail
                refine ret_via (fun wz => Has wz (blk w.heap.size #[(Value.int .i64) L, Value.bool true, Value.bool true, (Value.int .i64) rg, Value.bool us, Value.bool di, (Value.int .i64) fr, .slice A' (acc.length + 1) c', .slice B' (acc.length + 1) d'] 108 * (irow (.slice A' (acc.length + 1) c') (acc ++ [t]) * (irow (.slice B' (acc.length + 1) d') (placesOf p (acc.length + 1)) * old w w.heap.size))) ∧ Ext w wz) ⟨spot_copy hr _ _ _ _ _ _, Ext.set9 ((((((hx.set _ _).set _ _).set _ _).set _ _).set _ _).set _ _) _ _ _ _ _ _ _ _ _ _⟩ ?_
                rintro wz ⟨hz, xz⟩
                have hlen : (acc ++ [t]).length = acc.length + 1 := by rw [List.length_append, List.length_singleton]
                refine bodyPost_ret (results_ct Try.results55 rfl rfl (load_spot hz)) rfl ?_
                rw [hyy.out]
                refine ⟨A', B', c', d', ?_, ?_, xz⟩
                · show _ = Ending.returned (spotV _ A' B' (acc ++ [t]).length c' d')
                  rw [hlen]
                  rfl
                · show Has wz (irow (.slice A' (acc ++ [t]).length c') (acc ++ [t]) * (irow (.slice B' (acc ++ [t]).length d') (placesOf p (acc ++ [t]).length) * old w w.heap.size))
                  rw [hlen]
                  exact hz.right
              | false => rcases hend1 with h | h <;> cases h
          · have h12 : e.there = true ∧ e.leaf = false := by
              cases h1 : e.there <;> cases h2 : e.leaf <;> simp_all
            obtain ⟨h1, h2⟩ := h12
            obtain ⟨K, rfl, hK⟩ := hon.out hend1
            have hwr : IntKind.i64.wrap (((K + 1 : Nat) : Int) - 1) = (K : Int) := by rw [IntKind.wrap_i64]; omega
            go_wp2_with fail
            go_roundw
            case rel =>
              refine ⟨K, e.frame, acc ++ [t], A', B', c', d', rfl, by rw [List.length_append, List.length_singleton]; omega, Lib.hid ?_, ?_, hx.set _ _⟩
              · rw [← hK, ← hy.out, ← hwy.out]
              · rw [List.length_append, List.length_singleton]
                exact (spot_set0 hr _).drop4
            case measure =>
              rw [hlev.out]
              unfold lev
              rw [World.cell?_setCell_same _ _ _ c0]
              simp
end Go.Proofs.Ytndhgomikpokpaa
