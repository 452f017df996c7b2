/- Contract of table's builder.take. -/
import Derived.Test.YtegkimecdonfgaaWkr4
import Derived.Test.YtegkimecdonfgaaFrames2
import Derived.Test.YtegkimecdonfgaaEntry2
import Derived.Test.YtegkimecdonfgaaWkr2
import Derived.Deep.RegionHeld3
import Derived.BigQuiet
import Derived.Lib.SliceRun
import Derived.Outline
namespace Go.Proofs.Ytegkimecdonfgaa
open Go.RowKit Go.Shelf Hpm
set_option maxRecDepth 100000
attribute [local go_sem] Oper.semAt_some
theorem calls_of_marks {P : Program} {f : FuncId} {fn : Func} {c : Code} {args : Array Value} {w : World} {R : Ending → World → Prop} (hf : P.funcs[f]? = some fn) (hb : fn.body = some c)
    (h : c.wp P (bodyPostM Fence.wide 9 P fn R) { tmps := args ++ Array.replicate (fn.ntmps - args.size) undef, defers := [] } w) : Calls P f args w R :=
  (callsIn_wide (n := 9)).1 (callsIn_of_wp_marks (F := Fence.wide) (n := 9) hf hb trivial (wpIn_wide.2 h) rfl)
theorem marks_ret {P : Program} {fn : Func} {R : Ending → World → Prop} {a : Act} {w : World} {v : Value} (hr : (results fn a.tmps).run P w = .ok v w) (hd : a.defers = []) (hR : R (.returned v) w) : bodyPostM Fence.wide 9 P fn R .ret a w := by
  show LeavesInM Fence.wide 9 P fn a.tmps R a.defers .returning w
  rw [hd]
  unfold LeavesInM LeavesIn
  exact ⟨v, hr, hR⟩
/-- No panic is borne, for a while. -/
def Calm (Q : Exit → Act → World → Prop) : Exit → Act → World → Prop
  | .panic _, _, _ => False
  | e, a, w => Q e a w
theorem wp_calm {P : Program} {c : Code} {Q : Exit → Act → World → Prop} {a : Act} {w : World} (h : c.wp P (Calm Q) a w) : c.wp P Q a w :=
  Code.wp_mono (fun e _ _ h => by cases e <;> first | exact h | exact h.elim) h
theorem blk_some {b : Nat} {cs : Array Value} {t : TypeId} {R : HProp} {x : Hp} (h : (blk b cs t * R) x) : (x b).isSome = true := by
  obtain ⟨h1, h2, d, rfl, p, r⟩ := h
  have p : h1 = single b (.cells cs t (0, 0)) := p
  subst p
  simp [union, single]
theorem row_some {g : Nat} {e size n m c : Nat} {xs : List Value} {R : HProp} {x : Hp} (h : (row e size (.slice (some ⟨g, 0, none⟩) m c) n xs * R) x) : (x g).isSome = true := by
  obtain ⟨h1, h2, d, rfl, ⟨_, ⟨hv, _⟩ | ⟨g', cap, cur, hv, _, _, _, _, hb⟩⟩, r⟩ := h
  · injection hv with e; cases e
  · injection hv with e
    injection e with e
    injection e with e
    subst e
    have hb : h1 = single _ _ := hb
    subst hb
    simp [union, single]
/-- What take comes to. -/
def Took (b f n : Nat) (s : Ms) (R : HProp) (w : World) (e : Ending) (w' : World) : Prop :=
  (n ≤ s.frees.length ∧ ∃ A c, Res (Value.bool true) (blk b #[.pointer (some ⟨f, 0, none⟩), .slice A n c] 107 * (row 3 1 (.slice A n c) n ((tops s n).map (Value.int .i64)) * (framesAt f (takeN s n) * R))) w e w') ∨
  (s.frees.length < n ∧ ∃ s', s'.Ok ∧ Agree s' s ∧ Res (Value.bool false) (framesAt f s' * R) w e w')
set_option maxHeartbeats 4000000 in
theorem takeB (b f : Nat) (s : Ms) (hs : s.Ok) (n : Nat) (hn : n ≤ 3) (R : HProp) (w : World) (h : Has w (blk b #[.pointer (some ⟨f, 0, none⟩), .slice none 0 0] 107 * (framesAt f s * R))) :
    Calls Try.prog 60 #[.pointer (some ⟨b, 0, none⟩), (Value.int .i64) n] w (Took b f n s R w) := by
  have h1 : Has _ (blk w.heap.size #[.pointer (some ⟨b, 0, none⟩)] 105 * (blk b #[.pointer (some ⟨f, 0, none⟩), .slice none 0 0] 107 * (row 3 1 (.slice none 0 0) 0 ((tops s 0).map (Value.int .i64)) * (framesAt f (takeN s 0) * R)))) := (Has.rowNil (e := 3) (size := 1) (h.new #[.pointer (some ⟨b, 0, none⟩)] 105)).p2.eq (congrArg _ (star_left_comm _ _ _))
  have x1 := (Ext.refl w).alloc (.cells #[.pointer (some ⟨b, 0, none⟩)] 105)
  clear h
  refine calls_of_marks Try.func60 rfl ?_
  simp only [Try.ntmps60, List.size_toArray, List.length_cons, List.length_nil, Nat.reduceAdd, Nat.reduceSub, Array.replicate_succ, Array.replicate_zero, List.push_toArray, List.append_toArray, List.nil_append, List.cons_append]
  go_upto_region 1 with fail
  generalize w.alloc (.cells #[.pointer (some ⟨b, 0, none⟩)] 105) = w1 at *
  generalize w.heap.size = X at *
  go_wp2_with fail
  go_loopw [9] (fun t9 wr => ∃ (i : Nat) (A : Option Addr) (c : Nat), i ≤ n ∧ i ≤ s.frees.length ∧ t9 = (Value.int .i64) i ∧ Has wr (blk X #[.pointer (some ⟨b, 0, none⟩)] 105 * (blk b #[.pointer (some ⟨f, 0, none⟩), .slice A i c] 107 * (row 3 1 (.slice A i c) i ((tops s i).map (Value.int .i64)) * (framesAt f (takeN s i) * R)))) ∧ Ext w wr) (fun t9 _ => n - (intOf t9).toNat)
  case atStart => exact ⟨0, none, 0, by omega, by omega, rfl, h1, x1⟩
  case round =>
    clear h1 x1
    obtain ⟨i, A, c, hi, hif, rfl, hr, hx⟩ := hrel
    by_cases hlt : i < n
    · have HT := Lib.hid (fun R w h => takeF f (takeN s i) R w h (takeN_ok hs i))
      have htop := takeN_top hif
      have c0 := hr.cell 0
      have cl := hr.lt
      obtain ⟨b0, b1⟩ := hr.right.cells2
      have bl := hr.right.lt
      have h2 : Has wr (framesAt f (takeN s i) * (blk X #[.pointer (some ⟨b, 0, none⟩)] 105 * (blk b #[.pointer (some ⟨f, 0, none⟩), .slice A i c] 107 * (row 3 1 (.slice A i c) i ((tops s i).map (Value.int .i64)) * R)))) := hr.eq (by ac_rfl)
      have hts : tops s (i + 1) = tops s i ++ [(takeN s i).topV] := rfl
      have hns : takeN s (i + 1) = (takeN s i).takeS := rfl
      by_cases hneg : (takeN s i).topV < 0
      · have hie := htop.1 hneg
        have hno : (takeN s i).top = none := by
          cases ht : (takeN s i).top with
          | none => rfl
          | some k => unfold Ms.topV at hneg; rw [ht] at hneg; exact absurd hneg (by simp)
        have hstk : (takeN s i).takeS = takeN s i := by unfold Ms.takeS; rw [hno]
        rw [hstk] at HT
        have HAG := Lib.hid (takeN_give hs i hif)
        have HOK := Lib.hid (fun l => giveL_ok (takeN_ok hs i) l)
        have hml := tops_len s i
        have hlt2 : s.frees.length < n := by omega
        have HLT := Lib.hid hlt2
        clear hr hts hns htop hno hstk hie hlt2
        generalize (takeN s i).topV = k at *
        generalize takeN s i = s1 at *
        generalize tops s i = m at *
        subst hml
        go_wp2_with fail
        refine (HT.out _ _ h2).mono ?_; rintro e w3 ⟨rfl, h3, x3⟩
        have x4 := hx.trans x3
        clear c0 cl b0 b1 bl h2 hx x3 HT
        have c0 := h3.right.cell 0
        have cl := h3.right.lt
        obtain ⟨b0, b1⟩ := h3.right.right.cells2
        have bl := h3.right.right.lt
        go_wp2_with fail
        refine (backward_any A m.length c w3).mono ?_; rintro e w4 ⟨rfl, rfl⟩
        have h4 : Has (w3.alloc (.cells #[.slice A m.length c] 36)) (framesAt f s1 * (blk w3.heap.size #[.slice A m.length c] 36 * (blk X #[.pointer (some ⟨b, 0, none⟩)] 105 * (blk b #[.pointer (some ⟨f, 0, none⟩), .slice A m.length c] 107 * (row 3 1 (.slice A m.length c) m.length (m.map (Value.int .i64)) * R))))) := (h3.new #[.slice A m.length c] 36).eq (by ac_rfl)
        have x5 := x4.alloc (.cells #[.slice A m.length c] 36)
        clear h3 x4 c0 cl b0 b1 bl
        go_wp2_with fail
        generalize w3.alloc (.cells #[.slice A m.length c] 36) = w5 at *
        generalize w3.heap.size = Bs at *
        obtain ⟨x, hx, h5, hsub⟩ := has_exact h4
        have hbk := Lib.hid (fun (w' : World) (s' : Ms) (h : Has w' (framesAt f s' * exact' x)) => exact_back h hx)
        have hT1 : (x Bs).isSome = true := blk_some hx
        have hxlt : ∀ b, (x b).isSome = true → b < w5.heap.size := fun b hb => by
          obtain ⟨o, ho⟩ := Option.isSome_iff_exists.1 hb
          exact (Array.getElem?_eq_some_iff.1 (hsub b o ho)).1
        have hcell : ∀ j, (hj : j < m.length) → ∃ b, A = some ⟨b, 0, none⟩ ∧ b < w5.heap.size ∧ (x b).isSome = true ∧ w5.cell? ⟨b, j, none⟩ = some ((Value.int .i64) m[j]) := fun j hj => by
          have h6 : Has w5 (row 3 1 (.slice A m.length c) m.length (m.map (Value.int .i64)) * (framesAt f s1 * (blk Bs #[.slice A m.length c] 36 * (blk X #[.pointer (some ⟨b, 0, none⟩)] 105 * (blk b #[.pointer (some ⟨f, 0, none⟩), .slice A m.length c] 107 * R))))) := h4.eq (by ac_rfl)
          obtain ⟨b', e, hb, hc, _⟩ := Has.rowGet (e := 3) (size := 1) h6 (i := j) (u := (Value.int .i64) m[j]) (by simp [hj])
          subst e
          refine ⟨b', rfl, hb, ?_, hc⟩
          have h7 : (row 3 1 (.slice (some ⟨b', 0, none⟩) m.length c) m.length (m.map (Value.int .i64)) * (blk Bs #[.slice (some ⟨b', 0, none⟩) m.length c] 36 * (blk X #[.pointer (some ⟨b, 0, none⟩)] 105 * (blk b #[.pointer (some ⟨f, 0, none⟩), .slice (some ⟨b', 0, none⟩) m.length c] 107 * R)))) x := by
            have e : (blk Bs #[.slice (some ⟨b', 0, none⟩) m.length c] 36 * (blk X #[.pointer (some ⟨b, 0, none⟩)] 105 * (blk b #[.pointer (some ⟨f, 0, none⟩), .slice (some ⟨b', 0, none⟩) m.length c] 107 * (row 3 1 (.slice (some ⟨b', 0, none⟩) m.length c) m.length (m.map (Value.int .i64)) * R)))) = (row 3 1 (.slice (some ⟨b', 0, none⟩) m.length c) m.length (m.map (Value.int .i64)) * (blk Bs #[.slice (some ⟨b', 0, none⟩) m.length c] 36 * (blk X #[.pointer (some ⟨b, 0, none⟩)] 105 * (blk b #[.pointer (some ⟨f, 0, none⟩), .slice (some ⟨b', 0, none⟩) m.length c] 107 * R)))) := by ac_rfl
            exact e ▸ hx
          exact row_some h7
        have hG := Lib.hid (fun (s' : Ms) (hs' : s'.Ok) (k : Int) (w' : World) (h : Has w' (framesAt f s' * exact' x)) => call_keeps (P := Try.prog) (fn := 17) (args := #[.pointer (some ⟨f, 0, none⟩), (Value.int .i64) k]) (v := Value.bool (s'.has k)) (B := framesAt f (s'.giveS k)) (framesCells f s') h (fun R h => giveF f s' k R w' h hs') w5.heap.size)
        clear h4
        refine (wpIn_wide (n := 6)).1 ?_
        apply wpIn_rangeFunc_ownG (F := Fence.wide) (n := 6) rfl (by omega) (gf := 124) (lb := #[.pointer (some ⟨Bs, 0, none⟩)]) rfl trivial (enters_of Try.func124 (by kernel_rfl) rfl) (back_stops 5 (by omega) Bs c A m (by omega) (fun b => (x b).isSome = true) hT1 w5 (hxlt _ hT1) ((hbk.out _ _ h5).right.cell 0) hcell) (fun h k => h.trans k) (fun W l o o' hl hW ho hw => ⟨fun b hb => World.putObj_heap_other (by have := hxlt b hb; omega)⟩) (Below.refl _ _) (fun _ => rfl)
          (fun pre W => Has W (framesAt f (giveL s1 (pre.map Prod.snd)) * exact' x) ∧ Ext w W) (fun _ _ _ => False)
          (fun pre W W' row hs hg hr => ⟨exact_grown hs.1 (framesCells _ _) hg (fun r e => ⟨by
            cases hxr : x r with
            | none => rfl
            | some o => have := hxlt r (by rw [hxr]; rfl); have := (hr r e).1; omega, (hr r e).2⟩), hs.2.grown hg⟩)
          (fun _ _ _ _ _ hs _ _ => hs)
          ⟨h5, x5⟩
        case hassign =>
          intro l x W K hK
          gi_wp2
          exact hK
        case hbody =>
          rintro l pre y W ⟨hW, hE⟩ _
          have h6 := hbk.out W _ hW
          have c0 := h6.right.right.cell 0
          have cl := h6.right.right.lt
          obtain ⟨b0, b1⟩ := h6.right.right.right.cells2
          have bl := h6.right.right.right.lt
          have HGk := Lib.hid (hG.out _ (HOK.out _) y.2 W hW)
          gi_wp2_with (refine ⟨trivial, ?_⟩; gi_at_call 17; refine (CallsIn.inRound l (callsIn_wide.2 HGk.out)).mono ?_; rintro e W2 ⟨rfl, hW2, hE2, hKF, hKT⟩)
          exact ⟨hKF, hKT, by rw [List.map_append, List.map_singleton, giveL_snoc]; exact hW2, hE.trans hE2⟩
        case hdone =>
          rintro D ys W hD rfl ⟨hW, hE⟩ hK
          rw [backL_all] at hW
          go_wp2_with fail
          refine ⟨by simp, .inl ⟨_, _, rfl, run_takeDeferred hK, ?_⟩⟩
          have hxD : x D = none := by
            cases hxr : x D with
            | none => rfl
            | some o => have := hxlt D (by rw [hxr]; rfl); omega
          have hW2 := exact_grown hW (framesCells _ _) (grownBy_putObj' W D (.deferred none)) (fun r e => by cases e; exact ⟨hxD, _, hK, rfl⟩)
          have hE2 := hE.grown (grownBy_putObj' W D (.deferred none))
          refine ⟨_, results_tmp rfl _ _ _, .inr ⟨HLT.out, _, HOK.out _, HAG.out, rfl, ?_, hE2⟩⟩
          have h6 := hbk.out _ _ hW2
          exact (h6.eq (show _ = (blk Bs #[.slice A m.length c] 36 * (blk X #[.pointer (some ⟨b, 0, none⟩)] 105 * (blk b #[.pointer (some ⟨f, 0, none⟩), .slice A m.length c] 107 * row 3 1 (.slice A m.length c) m.length (m.map (Value.int .i64))))) * (framesAt f (giveL s1 m.reverse) * R) by ac_rfl)).right
        case hstop =>
          intro D c pre W _ _ h
          exact h.elim
      · have hif' : i < s.frees.length := by
          have : i ≠ s.frees.length := fun e => hneg (htop.2 e)
          omega
        have HTS := Lib.hid hts
        have HNS := Lib.hid hns
        clear hr hts hns htop
        generalize (takeN s i).topV = k at *
        generalize hS : (takeN s i).takeS = s2 at *
        generalize takeN s i = s1 at *
        clear hS
        go_wp2_with fail
        refine (HT.out _ _ h2).mono ?_; rintro e w3 ⟨rfl, h3, x3⟩
        have x4 := hx.trans x3
        have h4 : Has w3 (row 3 1 (.slice A i c) i ((tops s i).map (Value.int .i64)) * (blk X #[.pointer (some ⟨b, 0, none⟩)] 105 * (blk b #[.pointer (some ⟨f, 0, none⟩), .slice A i c] 107 * (framesAt f s2 * R)))) := h3.eq (by ac_rfl)
        clear c0 cl b0 b1 bl h2 h3 hx x3 HT
        have c0 := h4.right.cell 0
        have cl := h4.right.lt
        obtain ⟨b0, b1⟩ := h4.right.right.cells2
        have bl := h4.right.right.lt
        have bf := h4.right.right.free 1
        have h4d : Has w3.drew (row 3 1 (.slice A i c) i ((tops s i).map (Value.int .i64)) * (blk X #[.pointer (some ⟨b, 0, none⟩)] 105 * (blk b #[.pointer (some ⟨f, 0, none⟩), .slice A i c] 107 * (framesAt f s2 * R)))) := h4.drew
        go_upto_region 9 with fail
        have hS0 : (fun (L : Array Bool) (w' : World) => w'.cell? ⟨X, 0, none⟩ = some (.pointer (some ⟨b, 0, none⟩)) ∧ Till 7 4 (fun w' => w'.cell? ⟨b, 1, none⟩ = some (.slice A i c)) L w') (Array.replicate 11 false) w3.drew := ⟨h4d.right.cell 0, Till.start (h4d.right.right.cell 1)⟩
        refine wp_calm ?_
        refine region_L (S := fun L w' => w'.cell? ⟨X, 0, none⟩ = some (.pointer (some ⟨b, 0, none⟩)) ∧ Till 7 4 (fun w' => w'.cell? ⟨b, 1, none⟩ = some (.slice A i c)) L w') (by kernel_rfl) hS0 (fun hHeld => ?_)
        clear c0 b0 b1 bf hS0
        refine anyL_take (i := 0) (v := ?_) rfl (by kernel_rfl) (by kernel_rfl) (by kernel_rfl) (fun _ _ _ h => h) (Good.and Good.const (Good.till (by decide) ⟨_, ⟨4, .data⟩, rfl, by simp, rfl, rfl⟩)) (Or.inl ⟨by kernel_rfl, ?_⟩) hHeld (fun hHeld => ?_)
        rotate_left
        focus (intro wS hSw; obtain ⟨Lx, hLx, hs1, hs2⟩ := hSw; have cS := hs1; go_simp; first | done | with_reducible rfl)
        refine anyL_take (i := 1) (v := ?_) rfl (by kernel_rfl) (by kernel_rfl) (by kernel_rfl) (fun _ _ _ h => h) (Good.and Good.const (Good.till (by decide) ⟨_, ⟨4, .data⟩, rfl, by simp, rfl, rfl⟩)) (Or.inl ⟨by kernel_rfl, ?_⟩) hHeld (fun hHeld => ?_)
        rotate_left
        focus (intro wS hSw; obtain ⟨Lx, hLx, hs1, hs2⟩ := hSw; have cS := hs1; go_simp; first | done | with_reducible rfl)
        refine anyL_take (i := 2) (v := ?_) rfl (by kernel_rfl) (by kernel_rfl) (by kernel_rfl) (fun _ _ _ h => h) (Good.and Good.const (Good.till (by decide) ⟨_, ⟨4, .data⟩, rfl, by simp, rfl, rfl⟩)) (Or.inl ⟨by kernel_rfl, ?_⟩) hHeld (fun hHeld => ?_)
        rotate_left
        focus (intro wS hSw; obtain ⟨Lx, hLx, hs1, hs2⟩ := hSw; skip; go_simp; first | done | with_reducible rfl)
        refine anyL_take (i := 3) (v := ?_) rfl (by kernel_rfl) (by kernel_rfl) (by kernel_rfl) (fun _ _ _ h => h) (Good.and Good.const (Good.till (by decide) ⟨_, ⟨4, .data⟩, rfl, by simp, rfl, rfl⟩)) (Or.inl ⟨by kernel_rfl, ?_⟩) hHeld (fun hHeld => ?_)
        rotate_left
        focus (intro wS hSw; obtain ⟨Lx, hLx, hs1, hs2⟩ := hSw; skip; go_simp; first | done | with_reducible rfl)
        refine anyL_take (i := 4) (v := ?_) rfl (by kernel_rfl) (by kernel_rfl) (by kernel_rfl) (fun _ _ _ h => h) (Good.and Good.const (Good.till (by decide) ⟨_, ⟨4, .data⟩, rfl, by simp, rfl, rfl⟩)) (Or.inl ⟨by kernel_rfl, ?_⟩) hHeld (fun hHeld => ?_)
        rotate_left
        focus (intro wS hSw; obtain ⟨Lx, hLx, hs1, hs2⟩ := hSw; have cS := hs2.still hLx; go_simp; first | done | with_reducible rfl)
        refine anyL_take (i := 5) (v := ?_) rfl (by kernel_rfl) (by kernel_rfl) (by kernel_rfl) (fun _ _ _ h => h) (Good.and Good.const (Good.till (by decide) ⟨_, ⟨4, .data⟩, rfl, by simp, rfl, rfl⟩)) (Or.inl ⟨by kernel_rfl, ?_⟩) hHeld (fun hHeld => ?_)
        rotate_left
        focus (intro wS hSw; obtain ⟨Lx, hLx, hs1, hs2⟩ := hSw; skip; go_simp; first | done | with_reducible rfl)
        refine anyL_ready (rs := [6]) (by kernel_rfl) (by simp) ?_
        refine OneOf.cons rfl (fun K hK => ?_) OneOf.nil
        have k1 := h4d.build #[(Value.int .i64) k] 3
        try simp only [World.size_alloc] at k1
        go_simp
        refine hK.out _ _ ⟨k1.right.cell 0, ⟨fun _ => by kernel_rfl, fun _ => k1.right.right.right.cell 1⟩⟩ (fun hHeld => ?_)
        clear hK K
        refine anyL_ready (rs := [7]) (by kernel_rfl) (by simp) ?_
        refine OneOf.cons rfl (fun K hK => ?_) OneOf.nil
        refine step_append_has rfl (.tmp 35) (.tmp 37) 36 rfl Try.underlying36 elemI (.slice A i c) i ((tops s i).map (Value.int .i64)) (by simp [Act.eval]) k1 ⟨w3.drew.heap.size, 0, none⟩ 1 1 [(Value.int .i64) k] (by simp [Act.eval]) rfl (news_cell (k1.right.right.cell 0)) (one_int k) (by unfold maxLen; omega) (by omega) ?_
        intro A' c' w5 k2 y2
        try go_simp
        refine hK.out _ _ ⟨k2.right.cell 0, ⟨fun _ => by kernel_rfl, fun h => till_gone (by kernel_rfl) h⟩⟩ (fun hHeld => ?_)
        clear hK K
        refine anyL_take (i := 8) (v := ?_) rfl (by kernel_rfl) (by kernel_rfl) (by kernel_rfl) (fun _ _ _ h => h) (Good.and Good.const (Good.till (by decide) ⟨_, ⟨4, .data⟩, rfl, by simp, rfl, rfl⟩)) (Or.inl ⟨by kernel_rfl, ?_⟩) hHeld (fun hHeld => ?_)
        rotate_left
        focus (intro wS hSw; obtain ⟨Lx, hLx, hs1, hs2⟩ := hSw; skip; go_simp; first | done | with_reducible rfl)
        refine anyL_take (i := 9) (v := ?_) rfl (by kernel_rfl) (by kernel_rfl) (by kernel_rfl) (fun _ _ _ h => h) (Good.and Good.const (Good.till (by decide) ⟨_, ⟨4, .data⟩, rfl, by simp, rfl, rfl⟩)) (Or.inl ⟨by kernel_rfl, ?_⟩) hHeld (fun hHeld => ?_)
        rotate_left
        focus (intro wS hSw; obtain ⟨Lx, hLx, hs1, hs2⟩ := hSw; skip; go_simp; first | done | with_reducible rfl)
        have h6 : Has w5 (blk b #[.pointer (some ⟨f, 0, none⟩), .slice A i c] 107 * (blk X #[.pointer (some ⟨b, 0, none⟩)] 105 * (row 3 1 (.slice A' (i + 1) c') (i + 1) ((tops s i).map (Value.int .i64) ++ [(Value.int .i64) k]) * (framesAt f s2 * R)))) := by
          have := k2.eq (show _ = blk w3.drew.heap.size #[(Value.int .i64) k] 3 * (blk b #[.pointer (some ⟨f, 0, none⟩), .slice A i c] 107 * (blk X #[.pointer (some ⟨b, 0, none⟩)] 105 * (row 3 1 (.slice A' (i + 1) c') (i + 1) ((tops s i).map (Value.int .i64) ++ [(Value.int .i64) k]) * (framesAt f s2 * R)))) by ac_rfl)
          exact this.right
        have g0 := h6.lt
        have g1 := h6.free 1
        have g2 := h6.cell 1
        have h7 := (h6.set 1 (.slice A' (i + 1) c')).p2
        refine anyL_ready (rs := [10]) (by kernel_rfl) (by simp) ?_
        refine OneOf.cons rfl (fun K hK => ?_) OneOf.nil
        go_simp
        refine hK.out _ _ ⟨h7.cell 0, ⟨fun _ => by kernel_rfl, fun h => till_gone (by kernel_rfl) h⟩⟩ (fun hHeld => ?_)
        clear hK K
        refine anyL_done (by kernel_rfl) ?_
        clear hHeld
        unfold Calm
        dsimp only
        go_wp2_with fail
        go_roundw
        case rel => exact ⟨i + 1, A', c', by omega, by omega, by go_num, by rw [HTS.out, HNS.out, List.map_append]; exact h7, ((x4.drew.alloc _).trans y2).set _ _⟩
        case measure => simp [intOf]; omega
    · obtain rfl : i = n := by omega
      go_wp2_with fail
      refine marks_ret (v := Value.bool true) (by simp [results, Try.results60, go_sem]) rfl ?_
      exact .inl ⟨hif, A, c, rfl, hr.right, hx⟩
end Go.Proofs.Ytegkimecdonfgaa
namespace Go.Proofs.Ytegkimecdonfgaa
open Go.RowKit
section
variable {w : World} {R : HProp} {e size : Nat} {v : Value} {A : Option Addr} {n c : Nat} {xs : List Value}
end
section
variable {P : Program} {w : World} {R : HProp}
end
end Go.Proofs.Ytegkimecdonfgaa
namespace Go.Proofs.Ytegkimecdonfgaa
open Go.RowKit
set_option maxRecDepth 100000
theorem run_append_row {P : Program} {w : World} {R : HProp} {t ty e : TypeId} {z : Value} {size bytes : Nat} (hT : P.underlying t = some (.slice e)) (hE : Elem P e z size bytes)
    (v : Value) (n : Nat) (xs : List Value) (u : Value) (m : Nat) (ys : List Value) (h : Has w (row e size v n xs * (row e size u m ys * R))) (h1 : ∀ y ∈ ys, y.oneCell' = true)
    (h63 : n + m ≤ maxLen) (hbytes : (n + m) * bytes ≤ 140737488355328) :
    ∃ A c w', (Builtin.append_ #[t, t] ty #[v, u]).run P w = .ok (.slice A (n + m) c) w' ∧ Has w' (row e size (.slice A (n + m) c) (n + m) (xs ++ ys) * (row e size u m ys * R)) ∧ Ext w w' := by
  rcases h.p2.rowCases with ⟨rfl, rfl, rfl, _⟩ | ⟨g, cap, cur, rfl, _⟩
  · obtain ⟨i, hi, _, hsz, _⟩ := info_parts hE.info
    obtain ⟨A, c, rfl⟩ := h.rowForm
    exact ⟨A, c, w, run_append_owned_none (P := P) (w := w) 0 t ty e i size hT hi (.slice A n c) n xs h.ownsRow, by simpa using h, Ext.refl w⟩
  · have hget := fun j y (hy : ys[j]? = some y) => h.p2.rowGet hy
    have hl := h.p2.rowLens.1
    obtain ⟨v', w', hr, h2, x2⟩ := run_append_has (ty := ty) hT hE v n xs h ⟨g, 0, none⟩ m cap ys hl (fun j y hy => by
      obtain ⟨g', hg', _, hc, _⟩ := hget j y hy
      injection hg' with hg'
      injection hg' with hg'
      subst hg'
      rw [Addr.add_lit, Nat.zero_add]
      exact hc) h1 h63 hbytes
    have hf : ∃ A c, v' = .slice A (n + m) c := by
      rcases h2.rowCases with ⟨hv, hn, _, _⟩ | ⟨g, cap, cur, hv, _⟩
      · exact ⟨none, 0, by rw [hv, hn]⟩
      · exact ⟨_, _, hv⟩
    obtain ⟨A, c, rfl⟩ := hf
    exact ⟨A, c, w', hr, h2, x2⟩
theorem step_append_row {P : Program} {ops : Array Oper} {o : Oper} {a : Act} {w : World} {R : HProp} {K : Act → World → Prop} {Q : Exit → Act → World → Prop} {E : Prop}
    (hg : o.guard = none) (s x : Operand) (t : TypeId) (hop : o.op = Op.call { callee := Callee.builtin Builtin.append, args := #[s, x], argTypes := #[t, t] })
    {e : TypeId} {z : Value} {size bytes : Nat} (hT : P.underlying t = some (.slice e)) (hE : Elem P e z size bytes)
    (v : Value) (n : Nat) (xs : List Value) (hs : a.eval s = v) (u : Value) (m : Nat) (ys : List Value) (hx : a.eval x = u) (h : Has w (row e size v n xs * (row e size u m ys * R))) (h1 : ∀ y ∈ ys, y.oneCell' = true)
    (h63 : n + m ≤ maxLen) (hbytes : (n + m) * bytes ≤ 140737488355328)
    (hK : ∀ A c w', Has w' (row e size (.slice A (n + m) c) (n + m) (xs ++ ys) * (row e size u m ys * R)) → Ext w w' → K (a.put o.dst (.slice A (n + m) c)) w') :
    if Region.wanted o (yielded ops a.tmps) = true then Oper.wp P o a w K Q else E := by
  have hw : Region.wanted o (yielded ops a.tmps) = true := by simp [Region.wanted, hg]
  rw [if_pos hw]
  obtain ⟨A, c, w', hrun, h2, h3⟩ := run_append_row (ty := o.type) hT hE v n xs u m ys h h1 h63 hbytes
  unfold Oper.wp
  simp [execOp, hop, resolve, invoke, builtin, hs, hx, hrun, Result.andThen]
  exact hK A c w' h2 h3
theorem many_int (l : List Int) : ∀ u ∈ l.map (Value.int .i64), u.oneCell' = true := by
  intro u hu
  obtain ⟨x, _, rfl⟩ := List.mem_map.1 hu
  rfl
def ClonedI (l : List Int) (w : World) (e : Ending) (w' : World) : Prop := ∃ A n c, e = .returned (.slice A n c) ∧ Has w' (irow (.slice A n c) l * old w w.heap.size) ∧ Ext w w'
theorem clone_int (l : List Int) (A : Option Addr) (n c : Nat) (R : HProp) (w : World) (hs : l.length ≤ 1000000) (h : Has w (irow (.slice A n c) l * R)) :
    Calls Try.prog 61 #[.slice A n c] w (ClonedI l w) := by
  have q22 : ∀ (w : World) (a : Option Addr) (n c n' c' : Nat), (binOp .eql 36 (.slice a n c) (.slice none n' c')).run Try.prog w = .ok (.bool a.isNone) w := fun w a n c n' c' => Lib.run_eql_slice_nil w _ _ a n c n' c' Try.underlying36
  have hl0 := irow_len h
  subst hl0
  cases A with
  | none =>
    have h0 : l = [] ∧ c = 0 := by
      rcases Has.rowCases (e := 3) (size := 1) h with ⟨hv, h0, _⟩ | ⟨g, cap, cur, hv, _⟩
      · injection hv with a b d
        exact ⟨List.eq_nil_of_length_eq_zero h0, d⟩
      · injection hv with a
        cases a
    obtain ⟨rfl, rfl⟩ := h0
    go_enter Try.func61, Try.ntmps61
    go_wp2_with fail
    go_ret
    exact ⟨none, 0, 0, rfl, Has.rowNil (has_old w), Ext.refl _⟩
  | some a =>
    have h0 : ∃ g, a = ⟨g, 0, none⟩ := by
      rcases Has.rowCases (e := 3) (size := 1) h with ⟨hv, h0, _⟩ | ⟨g, cap, cur, hv, _⟩
      · injection hv with a b d
        cases a
      · injection hv with a
        injection a with a
        exact ⟨g, a⟩
    obtain ⟨g, rfl⟩ := h0
    have h1 := (has_old w).new #[] 3
    have hrow : Has (w.alloc (.cells #[] 3)) (row 3 1 (.slice (some ⟨w.heap.size, 0, none⟩) 0 0) 0 [] * old w w.heap.size) := h1.rowOf rfl (Nat.le_refl _) (by unfold maxLen; omega) rfl rfl
    have hn := fun k (hk : k < l.length) => irow_at (h.alloc (.cells #[] 3)) hk
    have hne : Hid (∀ j u, (l.map (Value.int .i64))[j]? = some u → (w.alloc (.cells #[] 3)).cell? ((⟨g, 0, none⟩ : Addr).add j) = some u) := fun j u hu => by
      rw [Addr.add_lit, Nat.zero_add]
      obtain ⟨hj, e⟩ := List.getElem?_eq_some_iff.1 hu
      have hj' : j < l.length := by simpa using hj
      obtain ⟨b, e1, _, hc⟩ := hn j hj'
      injection e1 with e1
      injection e1 with e1
      subst e1
      rw [hc, ← e]
      simp
    have x1 := (Ext.refl w).alloc (.cells #[] 3)
    have hml : Hid ((l.map (Value.int .i64)).length = l.length * 1) := Lib.hid (by simp)
    clear hn h1 h
    go_enter Try.func61, Try.ntmps61
    go_wp2_with (at_builtin; refine wpList_append_has rfl _ _ 36 rfl Try.underlying36 elemI _ _ _ rfl hrow ⟨g, 0, none⟩ l.length c (l.map (Value.int .i64)) rfl hml.out hne.out (many_int l) ?c2 ?c3 ?_)
    case c2 => unfold maxLen; omega
    case c3 => omega
    intro v' w2 h' x'
    obtain ⟨A', c', rfl⟩ := h'.rowForm
    have h2 : Has w2 (irow (.slice A' l.length c') l * old w w.heap.size) := h'
    go_wp2_with fail
    go_ret
    exact ⟨A', _, c', rfl, h2, x1.trans x'⟩
end Go.Proofs.Ytegkimecdonfgaa
namespace Go.Proofs.Ytegkimecdonfgaa
open Go.RowKit
set_option maxRecDepth 100000
/-- What Insert comes to. -/
def InsertedT (f : Nat) (s : Ms) (r : Int) (x : Mp) (R : HProp) (w : World) (e : Ending) (w' : World) : Prop :=
  ∃ s', s'.Ok ∧ Agree s' (insS s r x) ∧ Res ((Value.int .i64) (insC s r x)) (framesAt f s' * R) w e w'
theorem insS_no {s : Ms} {r : Int} {x : Mp} (h : insC s r x ≠ 0) : insS s r x = s := by unfold insS; rw [if_neg h]
set_option maxHeartbeats 8000000 in
theorem insT (f : Nat) (s : Ms) (root : Int) (x : Mp) (R : HProp) (w : World) (hs : s.Ok) (h : Has w (framesAt f s * R)) :
    Calls Try.prog 13 #[.pointer (some ⟨f, 0, none⟩), (Value.int .i64) root, .agg #[(Value.int .i64) x.page, (Value.int .i64) x.size, (Value.int .i64) x.frame, (Value.int .i64) x.rights]] w (InsertedT f s root x R w) := by
  have h0 := h.new #[(Value.int .i64) x.page, (Value.int .i64) x.size, (Value.int .i64) x.frame, (Value.int .i64) x.rights] 24
  have x0 := (Ext.refl w).alloc (.cells #[(Value.int .i64) x.page, (Value.int .i64) x.size, (Value.int .i64) x.frame, (Value.int .i64) x.rights] 24)
  have HC := Lib.hid (check_any x)
  by_cases hck : check x = 0
  case neg =>
    have hic : insC s root x = check x := by unfold insC; rw [if_pos hck]
    have HI := Lib.hid (And.intro hic (insS_no (s := s) (r := root) (x := x) (by rw [hic]; exact hck)))
    have hn : (check x != 0) = true := by simpa using hck
    unfold InsertedT
    rw [HI.out.1, HI.out.2]
    generalize check x = cx at *
    clear hck h hic
    obtain ⟨c0, c1, c2, c3⟩ := h0.cells4
    go_enter Try.func13, Try.ntmps13
    go_wp2_with fail
    refine (HC.out _).mono ?_; rintro e w2 ⟨rfl, b2⟩
    go_wp2_with fail
    go_ret
    exact ⟨s, hs, Agree.refl s, rfl, (h0.right.below b2), x0.below b2⟩
  obtain ⟨hp, z, hz0, hz2⟩ := check_hasB hck
  have HZ := Lib.hid hz0
  clear hz0
  have W1 := Lib.hid (fun w' (h : Has w' (framesAt f s * (blk w.heap.size #[(Value.int .i64) x.page, (Value.int .i64) x.size, (Value.int .i64) x.frame, (Value.int .i64) x.rights] 24 * R))) => find_way f s root x.page _ w' hs h)
  rw [hck] at HC
  by_cases hcode : (way s root x.page).code = 0
  case neg =>
    have hic : insC s root x = (way s root x.page).code := by unfold insC; rw [if_neg (by rw [hck]; simp), if_pos hcode]
    have HI := Lib.hid (And.intro hic (insS_no (s := s) (r := root) (x := x) (by rw [hic]; exact hcode)))
    unfold InsertedT
    rw [HI.out.1, HI.out.2]
    clear hic hck h
    generalize way s root x.page = y at *
    have hn : (y.code != 0) = true := by simpa using hcode
    clear hcode
    obtain ⟨c0, c1, c2, c3⟩ := h0.cells4
    have cl := h0.lt
    go_enter Try.func13, Try.ntmps13
    go_wp2_with fail
    refine (HC.out _).mono ?_; rintro e w2 ⟨rfl, b2⟩
    have h2 := h0.below b2
    have x2 := x0.below b2
    clear h0 x0 b2 c0 c1 c2 c3 cl
    obtain ⟨c0, c1, c2, c3⟩ := h2.cells4
    have cl := h2.lt
    go_wp2_with fail
    refine (W1.out _ h2.p2).mono ?_; rintro e w3 hF
    obtain ⟨A, B, c, d, rfl, h3, x3⟩ : ∃ (A B : Option Addr) (c d : Nat), e = .returned (.tuple #[.agg #[(Value.int .i64) y.lev, Value.bool y.e.there, Value.bool y.e.leaf, (Value.int .i64) y.e.rights, Value.bool y.e.used, Value.bool y.e.dirty, (Value.int .i64) y.e.frame, .slice A y.tabs.length c, .slice B y.tabs.length d], (Value.int .i64) y.code]) ∧ Has w3 (irow (.slice A y.tabs.length c) y.tabs * (irow (.slice B y.tabs.length d) (placesOf x.page y.tabs.length) * old w2 w2.heap.size)) ∧ Ext w2 w3 := hF
    have h4 := ((h2.onto' (h3.a2)).a1).right.right.right
    go_wp2_with fail
    go_ret
    exact ⟨s, hs, Agree.refl s, rfl, h4.alloc _, (x2.trans x3).alloc _⟩
  by_cases hbad : (way s root x.page).e.there = true ∨ (way s root x.page).lev < x.size
  case pos =>
    have hic : insC s root x = 4 := by unfold insC; rw [if_neg (by rw [hck]; simp), if_neg (by rw [hcode]; simp), if_pos hbad]
    have HI := Lib.hid (And.intro hic (insS_no (s := s) (r := root) (x := x) (by rw [hic]; decide)))
    unfold InsertedT
    rw [HI.out.1, HI.out.2]
    clear hic hck h
    generalize way s root x.page = y at *
    obtain ⟨code, tabs, lev, th, lf, rg, us, di, fr⟩ := y
    dsimp only at *
    subst hcode
    cases th with
    | true =>
      clear hbad
      obtain ⟨c0, c1, c2, c3⟩ := h0.cells4
      have cl := h0.lt
      go_enter Try.func13, Try.ntmps13
      go_wp2_with fail
      refine (HC.out _).mono ?_; rintro e w2 ⟨rfl, b2⟩
      have h2 := h0.below b2
      have x2 := x0.below b2
      clear h0 x0 b2 c0 c1 c2 c3 cl
      obtain ⟨c0, c1, c2, c3⟩ := h2.cells4
      have cl := h2.lt
      go_wp2_with fail
      refine (W1.out _ h2.p2).mono ?_; rintro e w3 hF
      obtain ⟨A, B, c, d, rfl, h3, x3⟩ : ∃ (A B : Option Addr) (c d : Nat), e = .returned (.tuple #[.agg #[(Value.int .i64) lev, Value.bool true, Value.bool lf, (Value.int .i64) rg, Value.bool us, Value.bool di, (Value.int .i64) fr, .slice A tabs.length c, .slice B tabs.length d], (Value.int .i64) 0]) ∧ Has w3 (irow (.slice A tabs.length c) tabs * (irow (.slice B tabs.length d) (placesOf x.page tabs.length) * old w2 w2.heap.size)) ∧ Ext w2 w3 := hF
      have h5 : Has _ (blk w3.heap.size #[(Value.int .i64) lev, Value.bool true, Value.bool lf, (Value.int .i64) rg, Value.bool us, Value.bool di, (Value.int .i64) fr, .slice A tabs.length c, .slice B tabs.length d] 56 * (irow (.slice A tabs.length c) tabs * (irow (.slice B tabs.length d) (placesOf x.page tabs.length) * (blk w.heap.size #[(Value.int .i64) x.page, (Value.int .i64) x.size, (Value.int .i64) x.frame, (Value.int .i64) x.rights] 24 * (framesAt f s * R))))) := ((h2.onto' (h3.a2)).a1).new #[(Value.int .i64) lev, Value.bool true, Value.bool lf, (Value.int .i64) rg, Value.bool us, Value.bool di, (Value.int .i64) fr, .slice A tabs.length c, .slice B tabs.length d] 56
      have x5 := (x2.trans x3).alloc (.cells #[(Value.int .i64) lev, Value.bool true, Value.bool lf, (Value.int .i64) rg, Value.bool us, Value.bool di, (Value.int .i64) fr, .slice A tabs.length c, .slice B tabs.length d] 56)
      clear h2 x2 h3 x3 c0 c1 c2 c3 cl W1 HC
      go_upto_region 5 with fail
      generalize w3.alloc (.cells #[(Value.int .i64) lev, Value.bool true, Value.bool lf, (Value.int .i64) rg, Value.bool us, Value.bool di, (Value.int .i64) fr, .slice A tabs.length c, .slice B tabs.length d] 56) = w5 at *
      generalize w3.heap.size = X1 at *
      generalize w.heap.size = X0 at *
      obtain ⟨c0, c1, c2, c3⟩ := h5.right.right.right.cells4
      have cl := h5.right.right.right.lt
      obtain ⟨k0, k1, k2, k3, k4, k5, k6, k7, k8⟩ := h5.cells9
      have kl := h5.lt
      go_wp2_with fail
      go_ret
      exact ⟨s, hs, Agree.refl s, rfl, h5.right.right.right.right, x5⟩
    | false =>
      have hlt : lev < x.size := by rcases hbad with h | h; · cases h
                                    · exact h
      clear hbad
      obtain ⟨c0, c1, c2, c3⟩ := h0.cells4
      have cl := h0.lt
      go_enter Try.func13, Try.ntmps13
      go_wp2_with fail
      refine (HC.out _).mono ?_; rintro e w2 ⟨rfl, b2⟩
      have h2 := h0.below b2
      have x2 := x0.below b2
      clear h0 x0 b2 c0 c1 c2 c3 cl
      obtain ⟨c0, c1, c2, c3⟩ := h2.cells4
      have cl := h2.lt
      go_wp2_with fail
      refine (W1.out _ h2.p2).mono ?_; rintro e w3 hF
      obtain ⟨A, B, c, d, rfl, h3, x3⟩ : ∃ (A B : Option Addr) (c d : Nat), e = .returned (.tuple #[.agg #[(Value.int .i64) lev, Value.bool false, Value.bool lf, (Value.int .i64) rg, Value.bool us, Value.bool di, (Value.int .i64) fr, .slice A tabs.length c, .slice B tabs.length d], (Value.int .i64) 0]) ∧ Has w3 (irow (.slice A tabs.length c) tabs * (irow (.slice B tabs.length d) (placesOf x.page tabs.length) * old w2 w2.heap.size)) ∧ Ext w2 w3 := hF
      have h5 : Has _ (blk w3.heap.size #[(Value.int .i64) lev, Value.bool false, Value.bool lf, (Value.int .i64) rg, Value.bool us, Value.bool di, (Value.int .i64) fr, .slice A tabs.length c, .slice B tabs.length d] 56 * (irow (.slice A tabs.length c) tabs * (irow (.slice B tabs.length d) (placesOf x.page tabs.length) * (blk w.heap.size #[(Value.int .i64) x.page, (Value.int .i64) x.size, (Value.int .i64) x.frame, (Value.int .i64) x.rights] 24 * (framesAt f s * R))))) := ((h2.onto' (h3.a2)).a1).new #[(Value.int .i64) lev, Value.bool false, Value.bool lf, (Value.int .i64) rg, Value.bool us, Value.bool di, (Value.int .i64) fr, .slice A tabs.length c, .slice B tabs.length d] 56
      have x5 := (x2.trans x3).alloc (.cells #[(Value.int .i64) lev, Value.bool false, Value.bool lf, (Value.int .i64) rg, Value.bool us, Value.bool di, (Value.int .i64) fr, .slice A tabs.length c, .slice B tabs.length d] 56)
      clear h2 x2 h3 x3 c0 c1 c2 c3 cl W1 HC
      go_upto_region 5 with fail
      generalize w3.alloc (.cells #[(Value.int .i64) lev, Value.bool false, Value.bool lf, (Value.int .i64) rg, Value.bool us, Value.bool di, (Value.int .i64) fr, .slice A tabs.length c, .slice B tabs.length d] 56) = w5 at *
      generalize w3.heap.size = X1 at *
      generalize w.heap.size = X0 at *
      obtain ⟨c0, c1, c2, c3⟩ := h5.right.right.right.cells4
      have cl := h5.right.right.right.lt
      obtain ⟨k0, k1, k2, k3, k4, k5, k6, k7, k8⟩ := h5.cells9
      have kl := h5.lt
      go_wp2_with fail
      go_ret
      exact ⟨s, hs, Agree.refl s, rfl, h5.right.right.right.right, x5⟩
  obtain ⟨_, n, hn, hn3, hl, hu⟩ := way_tabs hcode
  have hth : (way s root x.page).e.there = false := by cases h : (way s root x.page).e.there; · rfl
                                                       · exact absurd (.inl h) hbad
  have hls : ¬ ((way s root x.page).lev < x.size) := fun h => hbad (.inr h)
  obtain ⟨m, hm⟩ : ∃ m : Nat, n + m + z = 3 := ⟨3 - n - z, by have := HZ.out; omega⟩
  have HT := Lib.hid (fun b R w h => takeB b f s hs m (by omega) R w h)
  unfold Took at HT
  by_cases hfull : s.frees.length < m
  case pos =>
    have hic : insC s root x = 6 := by
      unfold insC
      rw [if_neg (by rw [hck]; simp), if_neg (by rw [hcode]; simp), if_neg hbad, if_pos (by have := HZ.out; omega)]
    have HI := Lib.hid (And.intro hic (insS_no (s := s) (r := root) (x := x) (by rw [hic]; decide)))
    unfold InsertedT
    rw [HI.out.1, HI.out.2]
    have hmm : (way s root x.page).lev - x.size = (m : Int) := by have := HZ.out; omega
    have HN := Lib.hid hn
    clear hic hck h hu hn hl
    generalize way s root x.page = y at *
    obtain ⟨code, tabs, lev, th, lf, rg, us, di, fr⟩ := y
    dsimp only at *
    subst hcode hth
    clear hbad
    obtain ⟨c0, c1, c2, c3⟩ := h0.cells4
    have cl := h0.lt
    go_enter Try.func13, Try.ntmps13
    go_wp2_with fail
    refine (HC.out _).mono ?_; rintro e w2 ⟨rfl, b2⟩
    have h2 := h0.below b2
    have x2 := x0.below b2
    clear h0 x0 b2 c0 c1 c2 c3 cl
    obtain ⟨c0, c1, c2, c3⟩ := h2.cells4
    have cl := h2.lt
    go_wp2_with fail
    refine (W1.out _ h2.p2).mono ?_; rintro e w3 hF
    obtain ⟨A, B, c, d, rfl, h3, x3⟩ : ∃ (A B : Option Addr) (c d : Nat), e = .returned (.tuple #[.agg #[(Value.int .i64) lev, Value.bool false, Value.bool lf, (Value.int .i64) rg, Value.bool us, Value.bool di, (Value.int .i64) fr, .slice A tabs.length c, .slice B tabs.length d], (Value.int .i64) 0]) ∧ Has w3 (irow (.slice A tabs.length c) tabs * (irow (.slice B tabs.length d) (placesOf x.page tabs.length) * old w2 w2.heap.size)) ∧ Ext w2 w3 := hF
    have h5 : Has _ (blk w3.heap.size #[(Value.int .i64) lev, Value.bool false, Value.bool lf, (Value.int .i64) rg, Value.bool us, Value.bool di, (Value.int .i64) fr, .slice A tabs.length c, .slice B tabs.length d] 56 * (irow (.slice A tabs.length c) tabs * (irow (.slice B tabs.length d) (placesOf x.page tabs.length) * (blk w.heap.size #[(Value.int .i64) x.page, (Value.int .i64) x.size, (Value.int .i64) x.frame, (Value.int .i64) x.rights] 24 * (framesAt f s * R))))) := ((h2.onto' (h3.a2)).a1).new #[(Value.int .i64) lev, Value.bool false, Value.bool lf, (Value.int .i64) rg, Value.bool us, Value.bool di, (Value.int .i64) fr, .slice A tabs.length c, .slice B tabs.length d] 56
    have x5 := (x2.trans x3).alloc (.cells #[(Value.int .i64) lev, Value.bool false, Value.bool lf, (Value.int .i64) rg, Value.bool us, Value.bool di, (Value.int .i64) fr, .slice A tabs.length c, .slice B tabs.length d] 56)
    clear h2 x2 h3 x3 c0 c1 c2 c3 cl W1 HC
    go_upto_region 5 with fail
    generalize w3.alloc (.cells #[(Value.int .i64) lev, Value.bool false, Value.bool lf, (Value.int .i64) rg, Value.bool us, Value.bool di, (Value.int .i64) fr, .slice A tabs.length c, .slice B tabs.length d] 56) = w5 at *
    generalize w3.heap.size = X1 at *
    generalize w.heap.size = X0 at *
    obtain ⟨c0, c1, c2, c3⟩ := h5.right.right.right.cells4
    have cl := h5.right.right.right.lt
    obtain ⟨k0, k1, k2, k3, k4, k5, k6, k7, k8⟩ := h5.cells9
    have kl := h5.lt
    have h6 := h5.new #[.pointer (some ⟨f, 0, none⟩), .slice none 0 0] 107
    have x6 := x5.alloc (.cells #[.pointer (some ⟨f, 0, none⟩), .slice none 0 0] 107)
    go_upto_region 10 with fail
    generalize w5.alloc (.cells #[.pointer (some ⟨f, 0, none⟩), .slice none 0 0] 107) = w6 at *
    generalize w5.heap.size = Xb at *
    clear h5 x5 c0 c1 c2 c3 cl k0 k1 k2 k3 k4 k5 k6 k7 k8 kl
    obtain ⟨k0, k1, k2, k3, k4, k5, k6, k7, k8⟩ := h6.right.cells9
    have kl := h6.right.lt
    obtain ⟨c0, c1, c2, c3⟩ := h6.right.right.right.right.cells4
    have cl := h6.right.right.right.right.lt
    have hmw : IntKind.i64.wrap (m : Int) = (m : Int) := by rw [IntKind.wrap_i64]; omega
    have hmw2 : IntKind.i64.wrap (lev - x.size) = (m : Int) := by rw [hmm]; exact hmw
    have h7 : Has w6 (blk Xb #[.pointer (some ⟨f, 0, none⟩), .slice none 0 0] 107 * (framesAt f s * (blk X1 #[(Value.int .i64) lev, Value.bool false, Value.bool lf, (Value.int .i64) rg, Value.bool us, Value.bool di, (Value.int .i64) fr, .slice A tabs.length c, .slice B tabs.length d] 56 * (irow (.slice A tabs.length c) tabs * (irow (.slice B tabs.length d) (placesOf x.page tabs.length) * (blk X0 #[(Value.int .i64) x.page, (Value.int .i64) x.size, (Value.int .i64) x.frame, (Value.int .i64) x.rights] 24 * R)))))) := h6.eq (by ac_rfl)
    go_wp2_with fail
    refine (HT.out _ _ _ h7).mono ?_; rintro e w7 hF
    rcases hF with ⟨hle, _⟩ | ⟨_, s', hs', hag, rfl, h8, x8⟩
    · exact absurd hle (by omega)
    · go_wp2_with fail
      go_ret
      exact ⟨s', hs', hag, rfl, h8.eq (show _ = blk X1 #[(Value.int .i64) lev, Value.bool false, Value.bool lf, (Value.int .i64) rg, Value.bool us, Value.bool di, (Value.int .i64) fr, .slice A tabs.length c, .slice B tabs.length d] 56 * (irow (.slice A tabs.length c) tabs * (irow (.slice B tabs.length d) (placesOf x.page tabs.length) * (blk X0 #[(Value.int .i64) x.page, (Value.int .i64) x.size, (Value.int .i64) x.frame, (Value.int .i64) x.rights] 24 * (framesAt f s' * R)))) by ac_rfl) |>.right.right.right.right, x6.trans x8⟩
  have hic : insC s root x = 0 := by
    unfold insC
    rw [if_neg (by rw [hck]; simp), if_neg (by rw [hcode]; simp), if_neg hbad, if_neg (by have := HZ.out; omega)]
  have HAT : InsAt s root x n m z := ⟨hcode, hp, hn, hl, HZ.out, hm, by omega⟩
  have HFIN := Lib.hid (HAT.fin hs hic)
  have HLAST := Lib.hid (fun t ht σ lw => HAT.last (t := t) ht σ lw)
  have HSTEP := Lib.hid (fun j t k ht hk σ lw => HAT.step (j := j) (t := t) (k := k) ht hk σ lw)
  have HSTO := Lib.hid (fun σ hσ j t hj v => HAT.store hs (σ := σ) hσ (j := j) (t := t) hj v)
  have HALN := Lib.hid HAT.all_len
  have HAL := Lib.hid (show allI s root x m = (way s root x.page).tabs ++ tops s m from rfl)
  have HOKF := Lib.hid (fun (l : List Int) => upL_ok (takeN_ok hs m) x.page (encW_u64 (leafE x) x.size) z l)
  have HHAS := Lib.hid (fun (l : List Int) (u : Int) => upL_has (takeN s m) x.page (encW (leafE x) x.size) z u l)
  have HIC := Lib.hid hic
  have HN := Lib.hid hn
  have hmm : (way s root x.page).lev - x.size = (m : Int) := by have := HZ.out; omega
  have htl := tops_len s m
  unfold InsertedT
  rw [HIC.out]
  generalize insS s root x = sF at *
  generalize allI s root x m = al at *
  generalize tops s m = tp at *
  clear HAT hic hck h hu hn HIC
  generalize way s root x.page = y at *
  obtain ⟨code, tabs, lev, th, lf, rg, us, di, fr⟩ := y
  dsimp only at *
  subst hcode hth
  have HLV := Lib.hid hl
  clear hbad hl
  obtain ⟨c0, c1, c2, c3⟩ := h0.cells4
  have cl := h0.lt
  go_enter Try.func13, Try.ntmps13
  go_wp2_with fail
  refine (HC.out _).mono ?_; rintro e w2 ⟨rfl, b2⟩
  have h2 := h0.below b2
  have x2 := x0.below b2
  clear h0 x0 b2 c0 c1 c2 c3 cl
  obtain ⟨c0, c1, c2, c3⟩ := h2.cells4
  have cl := h2.lt
  go_wp2_with fail
  refine (W1.out _ h2.p2).mono ?_; rintro e w3 hF
  obtain ⟨A, B, c, d, rfl, h3, x3⟩ : ∃ (A B : Option Addr) (c d : Nat), e = .returned (.tuple #[.agg #[(Value.int .i64) lev, Value.bool false, Value.bool lf, (Value.int .i64) rg, Value.bool us, Value.bool di, (Value.int .i64) fr, .slice A tabs.length c, .slice B tabs.length d], (Value.int .i64) 0]) ∧ Has w3 (irow (.slice A tabs.length c) tabs * (irow (.slice B tabs.length d) (placesOf x.page tabs.length) * old w2 w2.heap.size)) ∧ Ext w2 w3 := hF
  have h5 : Has _ (blk w3.heap.size #[(Value.int .i64) lev, Value.bool false, Value.bool lf, (Value.int .i64) rg, Value.bool us, Value.bool di, (Value.int .i64) fr, .slice A tabs.length c, .slice B tabs.length d] 56 * (irow (.slice A tabs.length c) tabs * (irow (.slice B tabs.length d) (placesOf x.page tabs.length) * (blk w.heap.size #[(Value.int .i64) x.page, (Value.int .i64) x.size, (Value.int .i64) x.frame, (Value.int .i64) x.rights] 24 * (framesAt f s * R))))) := ((h2.onto' (h3.a2)).a1).new #[(Value.int .i64) lev, Value.bool false, Value.bool lf, (Value.int .i64) rg, Value.bool us, Value.bool di, (Value.int .i64) fr, .slice A tabs.length c, .slice B tabs.length d] 56
  have x5 := (x2.trans x3).alloc (.cells #[(Value.int .i64) lev, Value.bool false, Value.bool lf, (Value.int .i64) rg, Value.bool us, Value.bool di, (Value.int .i64) fr, .slice A tabs.length c, .slice B tabs.length d] 56)
  clear h2 x2 h3 x3 c0 c1 c2 c3 cl W1 HC
  go_upto_region 5 with fail
  generalize w3.alloc (.cells #[(Value.int .i64) lev, Value.bool false, Value.bool lf, (Value.int .i64) rg, Value.bool us, Value.bool di, (Value.int .i64) fr, .slice A tabs.length c, .slice B tabs.length d] 56) = w5 at *
  generalize w3.heap.size = X1 at *
  generalize w.heap.size = X0 at *
  obtain ⟨c0, c1, c2, c3⟩ := h5.right.right.right.cells4
  have cl := h5.right.right.right.lt
  obtain ⟨k0, k1, k2, k3, k4, k5, k6, k7, k8⟩ := h5.cells9
  have kl := h5.lt
  have h6 := h5.new #[.pointer (some ⟨f, 0, none⟩), .slice none 0 0] 107
  have x6 := x5.alloc (.cells #[.pointer (some ⟨f, 0, none⟩), .slice none 0 0] 107)
  go_upto_region 10 with fail
  generalize w5.alloc (.cells #[.pointer (some ⟨f, 0, none⟩), .slice none 0 0] 107) = w6 at *
  generalize w5.heap.size = Xb at *
  clear h5 x5 c0 c1 c2 c3 cl k0 k1 k2 k3 k4 k5 k6 k7 k8 kl
  obtain ⟨k0, k1, k2, k3, k4, k5, k6, k7, k8⟩ := h6.right.cells9
  have kl := h6.right.lt
  obtain ⟨c0, c1, c2, c3⟩ := h6.right.right.right.right.cells4
  have cl := h6.right.right.right.right.lt
  have hmw : IntKind.i64.wrap (m : Int) = (m : Int) := by rw [IntKind.wrap_i64]; omega
  have hmw2 : IntKind.i64.wrap (lev - x.size) = (m : Int) := by rw [hmm]; exact hmw
  have h7 : Has w6 (blk Xb #[.pointer (some ⟨f, 0, none⟩), .slice none 0 0] 107 * (framesAt f s * (blk X1 #[(Value.int .i64) lev, Value.bool false, Value.bool lf, (Value.int .i64) rg, Value.bool us, Value.bool di, (Value.int .i64) fr, .slice A tabs.length c, .slice B tabs.length d] 56 * (irow (.slice A tabs.length c) tabs * (irow (.slice B tabs.length d) (placesOf x.page tabs.length) * (blk X0 #[(Value.int .i64) x.page, (Value.int .i64) x.size, (Value.int .i64) x.frame, (Value.int .i64) x.rights] 24 * R)))))) := h6.eq (by ac_rfl)
  clear h6
  go_wp2_with fail
  refine (HT.out _ _ _ h7).mono ?_; rintro e w7 hF
  rcases hF with ⟨_, G, gc, rfl, h8, x8⟩ | ⟨hle, _⟩
  case inr => exact absurd hle (by omega)
  have x9 := x6.trans x8
  clear h7 x6 x8 HT hmw hmw2 hmm k0 k1 k2 k3 k4 k5 k6 k7 k8 kl c0 c1 c2 c3 cl
  have h9 : Has w7 (irow (.slice A tabs.length c) tabs * (row 3 1 (.slice G m gc) m (tp.map (Value.int .i64)) * (blk X1 #[(Value.int .i64) lev, Value.bool false, Value.bool lf, (Value.int .i64) rg, Value.bool us, Value.bool di, (Value.int .i64) fr, .slice A tabs.length c, .slice B tabs.length d] 56 * (blk Xb #[.pointer (some ⟨f, 0, none⟩), .slice G m gc] 107 * (irow (.slice B tabs.length d) (placesOf x.page tabs.length) * (framesAt f (takeN s m) * (blk X0 #[(Value.int .i64) x.page, (Value.int .i64) x.size, (Value.int .i64) x.frame, (Value.int .i64) x.rights] 24 * R))))))) := h8.eq (by ac_rfl)
  clear h8
  have hlen1 : ((tabs.length : Nat) : Int) - 1 = (n : Int) := by have := HN.out; omega
  have k7 := h9.right.right.cell 7
  have kl := h9.right.right.lt
  have HLN := Lib.hid hlen1
  clear hlen1
  go_upto_region 12 with fail
  go_cut [11] from 55 to 59 (fun s11 wx => s11 = (Value.int .i64) n ∧ wx = w7)
  case first =>
    have hlen1 := HLN.out
    go_wp2_with fail
    go_meet
    case rel => exact ⟨by first | rfl | (rw [← hlen1]; done) | (rw [← hlen1]; go_num), rfl⟩
  case rest =>
  obtain ⟨rfl, hwr⟩ := hcut
  replace hwr := hwr.symm
  subst hwr
  have HS := Lib.hid (fun (w' : World) (P Q : HProp) (h : Has w' (P * (Q * (blk X1 #[(Value.int .i64) lev, Value.bool false, Value.bool lf, (Value.int .i64) rg, Value.bool us, Value.bool di, (Value.int .i64) fr, .slice A tabs.length c, .slice B tabs.length d] 56 * (blk Xb #[.pointer (some ⟨f, 0, none⟩), .slice G m gc] 107 * (irow (.slice B tabs.length d) (placesOf x.page tabs.length) * (framesAt f (takeN s m) * (blk X0 #[(Value.int .i64) x.page, (Value.int .i64) x.size, (Value.int .i64) x.frame, (Value.int .i64) x.rights] 24 * R)))))))) => (⟨h.right.right.cell 7, h.right.right.right.cell 1⟩ : w'.cell? ⟨X1, 7, none⟩ = some (.slice A tabs.length c) ∧ w'.cell? ⟨Xb, 1, none⟩ = some (.slice G m gc)))
  have hbl := h9.right.right.right.lt
  have hnt : tabs.length = n + 1 := HN.out
  have hnt4 : tabs.length ≤ 1000000 := by omega
  have hntm : tabs.length + m ≤ 1000000 := by omega
  clear hnt
  go_upto_region 13 with fail
  go_cut [12] from 59 to 67 (fun s12 wx => ∃ (D : Option Addr) (dc : Nat), s12 = .slice D (tabs.length + m) dc ∧ Has wx (row 3 1 (.slice D (tabs.length + m) dc) (tabs.length + m) (tabs.map (Value.int .i64) ++ tp.map (Value.int .i64)) * (irow (.slice A tabs.length c) tabs * (row 3 1 (.slice G m gc) m (tp.map (Value.int .i64)) * (blk X1 #[(Value.int .i64) lev, Value.bool false, Value.bool lf, (Value.int .i64) rg, Value.bool us, Value.bool di, (Value.int .i64) fr, .slice A tabs.length c, .slice B tabs.length d] 56 * (blk Xb #[.pointer (some ⟨f, 0, none⟩), .slice G m gc] 107 * (irow (.slice B tabs.length d) (placesOf x.page tabs.length) * (framesAt f (takeN s m) * (blk X0 #[(Value.int .i64) x.page, (Value.int .i64) x.size, (Value.int .i64) x.frame, (Value.int .i64) x.rights] 24 * R)))))))) ∧ Ext w wx)
  case first =>
    refine wp_region_held_drew (S := fun w' => w'.cell? ⟨X1, 7, none⟩ = some (.slice A tabs.length c) ∧ w'.cell? ⟨Xb, 1, none⟩ = some (.slice G m gc)) (by kernel_rfl) (HS.out _ _ _ h9) (fun hHeld => ?_)
    refine wpAnyH_take (i := 0) (v := ?_) rfl (by kernel_rfl) (by kernel_rfl) (by kernel_rfl) (fun _ _ _ h => h) (Or.inl ⟨by kernel_rfl, ?_⟩) hHeld ?_
    rotate_left
    focus (intro wS hSw; (try dsimp only at hSw); go_simp; first | done | with_reducible rfl)
    try go_simp
    refine wpAnyH_take (i := 1) (v := ?_) rfl (by kernel_rfl) (by kernel_rfl) (by kernel_rfl) (fun _ _ _ h => h) (Or.inl ⟨by kernel_rfl, ?_⟩) hHeld ?_
    rotate_left
    focus (intro wS hSw; (try dsimp only at hSw); go_simp; first | done | with_reducible rfl)
    try go_simp
    refine wpAnyH_take (i := 3) (v := ?_) rfl (by kernel_rfl) (by kernel_rfl) (by kernel_rfl) (fun _ _ _ h => h) (Or.inl ⟨by kernel_rfl, ?_⟩) hHeld ?_
    rotate_left
    focus (intro wS hSw; (try dsimp only at hSw); go_simp; first | done | with_reducible rfl)
    try go_simp
    refine wpAnyH_take (i := 4) (v := ?_) rfl (by kernel_rfl) (by kernel_rfl) (by kernel_rfl) (fun _ _ _ h => h) (Or.inl ⟨by kernel_rfl, ?_⟩) hHeld ?_
    rotate_left
    focus (intro wS hSw; (try dsimp only at hSw); go_simp; first | done | with_reducible rfl)
    try go_simp
    refine wpAnyH_take (i := 5) (v := ?_) rfl (by kernel_rfl) (by kernel_rfl) (by kernel_rfl) (fun _ _ _ h => h) (Or.inl ⟨by kernel_rfl, ?_⟩) hHeld ?_
    rotate_left
    focus (intro wS hSw; (try dsimp only at hSw); go_simp; first | done | with_reducible rfl)
    try go_simp
    refine wpAnyH_take (i := 6) (v := ?_) rfl (by kernel_rfl) (by kernel_rfl) (by kernel_rfl) (fun _ _ _ h => h) (Or.inl ⟨by kernel_rfl, ?_⟩) hHeld ?_
    rotate_left
    focus (intro wS hSw; (try dsimp only at hSw); go_simp; first | done | with_reducible rfl)
    try go_simp
    refine wpAnyH_ready (rs := [2]) (by kernel_rfl) (by simp) (AllReadyH.cons rfl (fun K hK => ?_) AllReadyH.nil)
    go_simp
    go_wp2_with ((go_at_call 61; refine (clone_int tabs A _ c _ _ hnt4 h9.drew).mono ?_; rintro e w10 ⟨C, cn, cc, rfl, h10, x10⟩; have h11 := h9.drew.onto' h10; obtain rfl := irow_len h11))
    refine hK.out _ _ (HS.out _ _ _ h11.right) (fun hHeld => ?_)
    clear hK K
    have h12 : Has w10 (row 3 1 (.slice C tabs.length cc) tabs.length (tabs.map (Value.int .i64)) * (row 3 1 (.slice G m gc) m (tp.map (Value.int .i64)) * (irow (.slice A tabs.length c) tabs * (blk X1 #[(Value.int .i64) lev, Value.bool false, Value.bool lf, (Value.int .i64) rg, Value.bool us, Value.bool di, (Value.int .i64) fr, .slice A tabs.length c, .slice B tabs.length d] 56 * (blk Xb #[.pointer (some ⟨f, 0, none⟩), .slice G m gc] 107 * (irow (.slice B tabs.length d) (placesOf x.page tabs.length) * (framesAt f (takeN s m) * (blk X0 #[(Value.int .i64) x.page, (Value.int .i64) x.size, (Value.int .i64) x.frame, (Value.int .i64) x.rights] 24 * R)))))))) := h11.eq (by unfold irow; ac_rfl)
    refine wpAnyH_ready (rs := [7]) (by kernel_rfl) (by simp) (AllReadyH.cons rfl (fun K hK => ?_) AllReadyH.nil)
    refine step_append_row rfl (.tmp 61) (.tmp 65) 36 rfl Try.underlying36 elemI (.slice C tabs.length cc) tabs.length (tabs.map (Value.int .i64)) (by simp [Act.eval]) (.slice G m gc) m (tp.map (Value.int .i64)) (by simp [Act.eval]) h12 (many_int _) (by unfold maxLen; omega) (by omega) ?_
    intro D dc w13 h13 x13
    have h14 : Has w13 (row 3 1 (.slice D (tabs.length + m) dc) (tabs.length + m) (tabs.map (Value.int .i64) ++ tp.map (Value.int .i64)) * (irow (.slice A tabs.length c) tabs * (row 3 1 (.slice G m gc) m (tp.map (Value.int .i64)) * (blk X1 #[(Value.int .i64) lev, Value.bool false, Value.bool lf, (Value.int .i64) rg, Value.bool us, Value.bool di, (Value.int .i64) fr, .slice A tabs.length c, .slice B tabs.length d] 56 * (blk Xb #[.pointer (some ⟨f, 0, none⟩), .slice G m gc] 107 * (irow (.slice B tabs.length d) (placesOf x.page tabs.length) * (framesAt f (takeN s m) * (blk X0 #[(Value.int .i64) x.page, (Value.int .i64) x.size, (Value.int .i64) x.frame, (Value.int .i64) x.rights] 24 * R)))))))) := h13.eq (by ac_rfl)
    try go_simp
    refine hK.out _ _ (HS.out _ _ _ h14.right) (fun hHeld => ?_)
    clear hK K
    refine wpAnyH_take (i := 8) (v := ?_) rfl (by kernel_rfl) (by kernel_rfl) (by kernel_rfl) (fun _ _ _ h => h) (Or.inl ⟨by kernel_rfl, ?_⟩) hHeld ?_
    rotate_left
    focus (intro wS hSw; (try dsimp only at hSw); go_simp; first | done | with_reducible rfl)
    try go_simp
    refine wpAnyH_done (by kernel_rfl) ?_ _
    go_wp2_with fail
    go_meet
    case rel => exact ⟨D, dc, rfl, h14, (x9.drew.trans x10).trans x13⟩
  case rest =>
  clear h9 x9 k7 kl hbl HS
  obtain ⟨D, dc, rfl, h10, x10⟩ := hcut
  rw [← List.map_append, ← HAL.out] at h10
  have HPL := Lib.hid (placesOf_len x.page tabs.length)
  have h11 : Has wc (irow (.slice B tabs.length d) (placesOf x.page tabs.length) * (blk X1 #[(Value.int .i64) lev, Value.bool false, Value.bool lf, (Value.int .i64) rg, Value.bool us, Value.bool di, (Value.int .i64) fr, .slice A tabs.length c, .slice B tabs.length d] 56 * (row 3 1 (.slice D (tabs.length + m) dc) (tabs.length + m) (al.map (Value.int .i64)) * (framesAt f (takeN s m) * (blk Xb #[.pointer (some ⟨f, 0, none⟩), .slice G m gc] 107 * (blk X0 #[(Value.int .i64) x.page, (Value.int .i64) x.size, (Value.int .i64) x.frame, (Value.int .i64) x.rights] 24 * (irow (.slice A tabs.length c) tabs * (row 3 1 (.slice G m gc) m (tp.map (Value.int .i64)) * R)))))))) := h10.eq (by ac_rfl)
  have k8 := h11.right.cell 8
  have kl := h11.right.lt
  go_wp2_with fail
  refine (clone_int (placesOf x.page tabs.length) B _ d _ _ (by rw [HPL.out]; exact hnt4) h11).mono ?_; rintro e w12 ⟨P0, pn, pc, rfl, h12, x12⟩
  have h13 := h11.onto' h12
  have hpn := (irow_len h13).trans HPL.out
  obtain rfl := hpn
  have x13 := x10.trans x12
  obtain ⟨QQ, hQQ⟩ : ∃ Q : HProp, Q = (irow (.slice A tabs.length c) tabs * (row 3 1 (.slice G m gc) m (tp.map (Value.int .i64)) * (irow (.slice B tabs.length d) (placesOf x.page tabs.length) * blk X1 #[(Value.int .i64) lev, Value.bool false, Value.bool lf, (Value.int .i64) rg, Value.bool us, Value.bool di, (Value.int .i64) fr, .slice A tabs.length c, .slice B tabs.length d] 56))) := ⟨_, rfl⟩
  obtain ⟨N1, hN1⟩ : ∃ N1, N1 = tabs.length + m := ⟨_, rfl⟩
  have h14 : Has w12 (row 3 1 (.slice P0 tabs.length pc) tabs.length ((placesOf x.page tabs.length).map (Value.int .i64)) * (row 3 1 (.slice D N1 dc) N1 (al.map (Value.int .i64)) * (framesAt f (takeN s m) * (blk Xb #[.pointer (some ⟨f, 0, none⟩), .slice G m gc] 107 * (blk X0 #[(Value.int .i64) x.page, (Value.int .i64) x.size, (Value.int .i64) x.frame, (Value.int .i64) x.rights] 24 * (QQ * R)))))) := by
    rw [hQQ, hN1]
    have := h13
    unfold irow at this ⊢
    rw [HPL.out] at this ⊢
    exact this.eq (by ac_rfl)
  have k0 : w12.cell? ⟨X1, 0, none⟩ = some ((Value.int .i64) lev) := h13.right.right.cell 0
  have kl2 := h13.right.right.lt
  have HN1 := Lib.hid (show N1 = n + 1 + m by have := HN.out; omega)
  have HQQ := Lib.hid hQQ
  have hw15 : IntKind.i64.wrap (lev - 1) = 3 - ((n + 1 : Nat) : Int) := by rw [IntKind.wrap_i64, HLV.out]; omega
  have hN1c : Value.slice D (tabs.length + m) dc = Value.slice D N1 dc := by rw [hN1]
  rw [hN1c]
  have HNT := Lib.hid HN.out
  clear h10 x10 h11 x12 h12 h13 hQQ hN1 hN1c kl k8
  go_upto_region 15 with fail
  go_cut [14] from 70 to 73 (fun s14 wx => s14 = (Value.int .i64) (3 - ((n + 1 : Nat) : Int)) ∧ wx = w12)
  case first =>
    go_wp2_with fail
    go_meet
    case rel => exact ⟨by first | rfl | (rw [← hw15]; done) | (rw [← hw15]; go_num), rfl⟩
  case rest =>
  obtain ⟨rfl, hwr⟩ := hcut
  replace hwr := hwr.symm
  subst hwr
  clear k0 kl2 hw15 hnt4 hntm
  generalize hT : tabs.length = T at *
  have HTT := Lib.hid (show T = n + 1 from HNT.out)
  have h15 : Has w12 (row 3 1 (.slice P0 T pc) T ((placesOf x.page T).map (Value.int .i64)) * (row 3 1 (.slice D N1 dc) N1 (al.map (Value.int .i64)) * (framesAt f (takeN s m) * (blk Xb #[.pointer (some ⟨f, 0, none⟩), .slice G m gc] 107 * (blk X0 #[(Value.int .i64) x.page, (Value.int .i64) x.size, (Value.int .i64) x.frame, (Value.int .i64) x.rights] 24 * (QQ * R)))))) := h14
  clear h14
  have hnT : n + 1 = T := HTT.out.symm
  have HnT := Lib.hid hnT
  clear hnT hT
  go_upto_region 16 with fail
  go_loopw [13, 14] (fun t13 t14 wr => ∃ (q : Nat) (P : Option Addr) (pc : Nat), n + 1 ≤ q ∧ q ≤ N1 ∧ t14 = (Value.int .i64) (3 - (q : Int)) ∧ t13 = .slice P q pc ∧ Has wr (row 3 1 (.slice P q pc) q ((placesOf x.page q).map (Value.int .i64)) * (row 3 1 (.slice D N1 dc) N1 (al.map (Value.int .i64)) * (framesAt f (takeN s m) * (blk Xb #[.pointer (some ⟨f, 0, none⟩), .slice G m gc] 107 * (blk X0 #[(Value.int .i64) x.page, (Value.int .i64) x.size, (Value.int .i64) x.frame, (Value.int .i64) x.rights] 24 * (QQ * R)))))) ∧ Ext w wr) (fun _ t14 _ => (intOf t14 + 5).toNat)
  case atStart => exact ⟨T, P0, pc, by have := HTT.out; omega, by have := HTT.out; have := HN1.out; omega, by rw [HTT.out], rfl, h15, x13⟩
  case round =>
    clear h15 x13
    obtain ⟨q, P, pc', hq1, hq2, rfl, rfl, hr, hx⟩ := hrel
    have hN1o := HN1.out
    have hZo := HZ.out
    obtain ⟨c0, c1, c2, c3⟩ := hr.right.right.right.right.cells4
    have cl := hr.right.right.right.right.lt
    by_cases hlt : q < N1
    · have hge : x.size ≤ 3 - (q : Int) := by omega
      have hw14 : IntKind.i64.wrap (3 - (q : Int) - 1) = 3 - ((q + 1 : Nat) : Int) := by rw [IntKind.wrap_i64]; omega
      have hq4 : q ≤ 4 := by omega
      have HIX := Lib.hid (fun W => index_any x.page (3 - (q : Int)) W)
      have HPS := Lib.hid (placesOf_succ x.page q)
      have HQ1 := Lib.hid (And.intro hq1 hq2)
      have HLT := Lib.hid hlt
      clear hN1o hZo hq1 hq2 hlt
      generalize index x.page (3 - (q : Int)) = ix at *
      have hrow := hr.alloc (.cells #[(Value.int .i64) ix] 3)
      go_wp2_with (first | (go_at_call 62; refine (HIX.out _).mono ?_; rintro e w15 ⟨rfl, rfl⟩) | (at_builtin; refine wpList_append_has rfl _ _ 36 rfl Try.underlying36 elemI _ _ _ rfl hrow ⟨_, 0, none⟩ 1 1 [(Value.int .i64) ix] rfl rfl (news_one _ ((Value.int .i64) ix) 3) ?c1 ?c2 ?c3 ?_))
      case c1 => intro u hu; simp at hu; subst hu; rfl
      case c2 => unfold maxLen; omega
      case c3 => omega
      intro v' w16 h16 x16
      obtain ⟨P', pc2, rfl⟩ := h16.rowForm
      go_wp2_with fail
      go_roundw
      case rel => exact ⟨q + 1, P', pc2, by have := HQ1.out; omega, by have := HLT.out; omega, by first | rfl | exact congrArg (Value.int .i64) hw14 | (rw [hw14]), rfl, by rw [HPS.out, List.map_append]; exact h16, (hx.alloc _).trans x16⟩
      case measure => simp [intOf]; omega
    · obtain rfl : q = N1 := by omega
      have hge : ¬ (x.size ≤ 3 - (q : Int)) := by omega
      obtain ⟨e, he⟩ : ∃ e, e = n + m := ⟨_, rfl⟩
      have haln : al.length = q := by have := HALN.out; omega
      have hpln : (placesOf x.page q).length = q := placesOf_len x.page q
      have hqe : q = e + 1 := by omega
      -- where they stand
      obtain ⟨bP, hP1, -, -, -⟩ := Has.rowGet (e := 3) (size := 1) hr (i := e) (u := (Value.int .i64) ((placesOf x.page q)[e]'(by omega))) (by simp)
      obtain ⟨bD, hD1, -, -, -⟩ := Has.rowGet (e := 3) (size := 1) hr.right (i := e) (u := (Value.int .i64) (al[e]'(by omega))) (by simp)
      subst hP1; subst hD1
      have HRW := Lib.hid (fun (j : Nat) (t : Int) (hj : al[j]? = some t) (w' : World) (Z : HProp) (h : Has w' (row 3 1 (.slice (some ⟨bP, 0, none⟩) q pc') q ((placesOf x.page q).map (Value.int .i64)) * (row 3 1 (.slice (some ⟨bD, 0, none⟩) q dc) q (al.map (Value.int .i64)) * Z))) => (by
        obtain ⟨hjl, hje⟩ := List.getElem?_eq_some_iff.1 hj
        obtain ⟨b1, e1, l1, q1, _⟩ := Has.rowGet (e := 3) (size := 1) h (i := j) (u := (Value.int .i64) (index x.page (3 - (j : Int)))) (by rw [List.getElem?_map, placesOf_get x.page (by omega)]; rfl)
        obtain ⟨b2, e2, l2, q2, _⟩ := Has.rowGet (e := 3) (size := 1) h.right (i := j) (u := (Value.int .i64) t) (by rw [List.getElem?_map, hj]; rfl)
        injection e1 with e1; injection e1 with e1
        injection e2 with e2; injection e2 with e2
        subst e1; subst e2
        exact ⟨q2, q1, l2, l1⟩ : w'.cell? ⟨bD, j, none⟩ = some ((Value.int .i64) t) ∧ w'.cell? ⟨bP, j, none⟩ = some ((Value.int .i64) (index x.page (3 - (j : Int)))) ∧ bD < w'.heap.size ∧ bP < w'.heap.size))
      have hAlj := Lib.hid (fun (j : Nat) (hj : j < q) => (⟨_, List.getElem?_eq_getElem (by omega)⟩ : ∃ t, al[j]? = some t))
      obtain ⟨te, hte⟩ := hAlj.out e (by omega)
      have hHp : ∀ u, (takeN s m).has u = (takeN s m).has u := fun _ => rfl
      have hst1 := HSTO.out (takeN s m) hHp e te hte (encW (leafE x) x.size)
      have hla1 := HLAST.out te (by rw [← he]; exact hte) (takeN s m) (encW (leafE x) x.size)
      rw [← he] at hla1
      rw [← hla1] at hst1
      have HP1 := Lib.hid (fun R w h => putB Xb f te (index x.page (3 - (e : Int))) x.size (.slice G m gc) (leafE x) (takeN s m) R w h)
      rw [hst1] at HP1
      generalize hU : upL (takeN s m) x.page (encW (leafE x) x.size) z (al.drop e) = σ1 at HP1
      have HU := Lib.hid hU
      clear hU
      unfold leafE at HP1
      dsimp only at HP1
      have HTE := Lib.hid (HRW.out e te hte)
      have hq1' : (q : Int) - 1 = (e : Int) := by omega
      have hq2' : (q : Int) - 2 = (e : Int) - 1 := by omega
      have hwe : IntKind.i64.wrap (e : Int) = (e : Int) := by rw [IntKind.wrap_i64]; omega
      have hwe1 : IntKind.i64.wrap ((e : Int) - 1) = (e : Int) - 1 := by rw [IntKind.wrap_i64]; omega
      have hwq : IntKind.i64.wrap ((q : Int) - 1) = (e : Int) := by rw [hq1']; exact hwe
      have hwq2 : IntKind.i64.wrap ((q : Int) - 2) = (e : Int) - 1 := by rw [hq2']; exact hwe1
      have heq : (e : Int) < (q : Int) := by omega
      have he0 : ¬ ((e : Int) < 0) := by omega
      have he00 : (0 : Int) ≤ (e : Int) := by omega
      have HEE := Lib.hid (And.intro he hqe)
      have HNN := Lib.hid (show n ≤ e by omega)
      have HN3 := Lib.hid (show e ≤ 3 by omega)
      clear hst1 hla1 hHp haln hpln hqe he hN1o hZo hq1 hq2 hlt
      have HIXE := Lib.hid (show index x.page (3 - (e : Int)) = index x.page (3 - (e : Int)) from rfl)
      generalize hie : index x.page (3 - (e : Int)) = ie at HP1 HTE
      clear HIXE hie
      have h17 : Has _ (blk Xb #[.pointer (some ⟨f, 0, none⟩), .slice G m gc] 107 * (framesAt f (takeN s m) * (row 3 1 (.slice (some ⟨bP, 0, none⟩) q pc') q ((placesOf x.page q).map (Value.int .i64)) * (row 3 1 (.slice (some ⟨bD, 0, none⟩) q dc) q (al.map (Value.int .i64)) * (blk X0 #[(Value.int .i64) x.page, (Value.int .i64) x.size, (Value.int .i64) x.frame, (Value.int .i64) x.rights] 24 * (QQ * R)))))) := (hr.eq (by ac_rfl)).drew
      have x17 := hx.drew
      obtain ⟨tA, tB, _, _⟩ := HTE.out _ _ hr
      have HKK := Lib.hid (fun (w' : World) (P' Q' : HProp) (h : Has w' (P' * (Q' * (row 3 1 (.slice (some ⟨bP, 0, none⟩) q pc') q ((placesOf x.page q).map (Value.int .i64)) * (row 3 1 (.slice (some ⟨bD, 0, none⟩) q dc) q (al.map (Value.int .i64)) * (blk X0 #[(Value.int .i64) x.page, (Value.int .i64) x.size, (Value.int .i64) x.frame, (Value.int .i64) x.rights] 24 * (QQ * R))))))) => (by
        obtain ⟨a1, a2, _, _⟩ := HTE.out _ _ h.right.right
        obtain ⟨m0, m1, m2, m3⟩ := h.right.right.right.right.cells4
        exact ⟨a1, a2, m1, m2, m3⟩ : w'.cell? ⟨bD, e, none⟩ = some ((Value.int .i64) te) ∧ w'.cell? ⟨bP, e, none⟩ = some ((Value.int .i64) ie) ∧ w'.cell? ⟨X0, 1, none⟩ = some ((Value.int .i64) x.size) ∧ w'.cell? ⟨X0, 2, none⟩ = some ((Value.int .i64) x.frame) ∧ w'.cell? ⟨X0, 3, none⟩ = some ((Value.int .i64) x.rights)))
      go_upto_region 19 with fail
      go_region_held3 (fun w' => w'.cell? ⟨bD, e, none⟩ = some ((Value.int .i64) te) ∧ w'.cell? ⟨bP, e, none⟩ = some ((Value.int .i64) ie) ∧ w'.cell? ⟨X0, 1, none⟩ = some ((Value.int .i64) x.size) ∧ w'.cell? ⟨X0, 2, none⟩ = some ((Value.int .i64) x.frame) ∧ w'.cell? ⟨X0, 3, none⟩ = some ((Value.int .i64) x.rights)) (first | (with_reducible exact HKK.out _ _ _ h17) | (with_reducible exact HKK.out _ _ _ h18) | go_keep) (first | (go_at_call 63; (with_reducible refine (HP1.out _ _ h17).mono ?_); rintro e9 w18 ⟨rfl, h18, x18⟩))
      have x19 := x17.trans x18
      rw [← HU.out] at h18
      clear h17 x17 x18 HP1 HTE HKK tA tB hr hx c0 c1 c2 c3 cl
      clear HU
      go_upto_region 20 with fail
      go_cut [15] from 107 to 110 (fun s15 wx => s15 = (Value.int .i64) ((e : Int) - 1) ∧ wx = w18)
      case first =>
        go_wp2_with fail
        go_meet
        case rel => exact ⟨by first | rfl | (rw [← hwq2]; done) | (rw [← hwq2]; go_num), rfl⟩
      case rest =>
      obtain ⟨rfl, hwr⟩ := hcut
      replace hwr := hwr.symm
      subst hwr
      clear hq1' hq2' hwe hwe1 hwq hwq2 heq he0 he00 hge
      go_upto_region 21 with fail
      go_loopw [15] (fun t15 wr => ∃ g : Nat, n ≤ g ∧ g ≤ e ∧ t15 = (Value.int .i64) ((g : Int) - 1) ∧ Has wr (blk Xb #[.pointer (some ⟨f, 0, none⟩), .slice G m gc] 107 * (framesAt f (upL (takeN s m) x.page (encW (leafE x) x.size) z (al.drop g)) * (row 3 1 (.slice (some ⟨bP, 0, none⟩) q pc') q ((placesOf x.page q).map (Value.int .i64)) * (row 3 1 (.slice (some ⟨bD, 0, none⟩) q dc) q (al.map (Value.int .i64)) * (blk X0 #[(Value.int .i64) x.page, (Value.int .i64) x.size, (Value.int .i64) x.frame, (Value.int .i64) x.rights] 24 * (QQ * R)))))) ∧ Ext w wr) (fun t15 _ => (intOf t15 + 1).toNat)
      case atStart => exact ⟨e, HNN.out, Nat.le_refl _, rfl, h18, x19⟩
      case round =>
        clear h18 x19
        obtain ⟨g, hg1, hg2, rfl, hr, hx⟩ := hrel
        by_cases hgn : g = n
        · have hnge : ¬ ((n : Int) ≤ (g : Int) - 1) := by omega
          have hfin : upL (takeN s m) x.page (encW (leafE x) x.size) z (al.drop g) = sF := by rw [hgn]; exact HFIN.out
          have hok2 := HOKF.out (al.drop g)
          rw [hfin] at hr hok2
          have HGN := Lib.hid hgn
          have hend : Has _ (framesAt f sF * (QQ * R)) := (hr.eq (show _ = blk Xb #[.pointer (some ⟨f, 0, none⟩), .slice G m gc] 107 * (row 3 1 (.slice (some ⟨bP, 0, none⟩) q pc') q ((placesOf x.page q).map (Value.int .i64)) * (row 3 1 (.slice (some ⟨bD, 0, none⟩) q dc) q (al.map (Value.int .i64)) * (blk X0 #[(Value.int .i64) x.page, (Value.int .i64) x.size, (Value.int .i64) x.frame, (Value.int .i64) x.rights] 24 * (framesAt f sF * (QQ * R))))) by ac_rfl)).right.right.right.right
          clear hgn hfin
          go_wp2_with fail
          go_ret
          exact ⟨sF, hok2, Agree.refl sF, rfl, hend.p2.right, hx⟩
        · obtain ⟨j, hj⟩ : ∃ j, g = j + 1 := ⟨g - 1, by omega⟩
          have hge : (n : Int) ≤ (g : Int) - 1 := by omega
          have hgj : (g : Int) - 1 = (j : Int) := by omega
          have hjg : (j : Int) + 1 = (g : Int) := by omega
          have hqe := HEE.out.2
          have hn3e := HN3.out
          have hjq : (j : Int) < (q : Int) := by omega
          have hgq : (g : Int) < (q : Int) := by omega
          have hj0 : ¬ ((j : Int) < 0) := by omega
          have hj00 : (0 : Int) ≤ (j : Int) := by omega
          have hg0 : ¬ ((g : Int) < 0) := by omega
          have hg00 : (0 : Int) ≤ (g : Int) := by omega
          have hw1 : IntKind.i64.wrap (j : Int) = (j : Int) := by rw [IntKind.wrap_i64]; omega
          have hw2 : IntKind.i64.wrap (g : Int) = (g : Int) := by rw [IntKind.wrap_i64]; omega
          have hw3 : IntKind.i64.wrap (3 - (j : Int)) = 3 - (j : Int) := by rw [IntKind.wrap_i64]; omega
          have hw4 : IntKind.i64.wrap ((j : Int) - 1) = (j : Int) - 1 := by rw [IntKind.wrap_i64]; omega
          obtain ⟨t, ht⟩ := hAlj.out j (by omega)
          obtain ⟨k, hk⟩ := hAlj.out (j + 1) (by omega)
          have hstep := HSTEP.out j t k ht hk (takeN s m) (encW (leafE x) x.size)
          have hsto := HSTO.out (upL (takeN s m) x.page (encW (leafE x) x.size) z (al.drop (j + 1))) (HHAS.out _) j t ht (encW ⟨true, false, 7, false, false, k⟩ (3 - (j : Int)))
          rw [← hstep] at hsto
          have HPU := Lib.hid (fun R w h => putB Xb f t (index x.page (3 - (j : Int))) (3 - (j : Int)) (.slice G m gc) ⟨true, false, 7, false, false, k⟩ (upL (takeN s m) x.page (encW (leafE x) x.size) z (al.drop (j + 1))) R w h)
          rw [hsto] at HPU
          dsimp only at HPU
          rw [← hj] at HPU hk
          have HTJ := Lib.hid (HRW.out j t ht)
          have HTG := Lib.hid (HRW.out g k hk)
          have HGG := Lib.hid (And.intro hg1 (And.intro hg2 hj))
          clear hstep hsto hj ht hk hqe hn3e hg1 hg2 hgn
          generalize index x.page (3 - (j : Int)) = ij at HPU HTJ
          generalize index x.page (3 - (g : Int)) = ig at HTG
          have h17 : Has _ (blk Xb #[.pointer (some ⟨f, 0, none⟩), .slice G m gc] 107 * (framesAt f (upL (takeN s m) x.page (encW (leafE x) x.size) z (al.drop g)) * (row 3 1 (.slice (some ⟨bP, 0, none⟩) q pc') q ((placesOf x.page q).map (Value.int .i64)) * (row 3 1 (.slice (some ⟨bD, 0, none⟩) q dc) q (al.map (Value.int .i64)) * (blk X0 #[(Value.int .i64) x.page, (Value.int .i64) x.size, (Value.int .i64) x.frame, (Value.int .i64) x.rights] 24 * (QQ * R)))))) := hr.drew
          have x17 := hx.drew
          obtain ⟨tA, tB, lD, lP⟩ := HTJ.out _ _ hr.right.right
          obtain ⟨gA, gB, _, _⟩ := HTG.out _ _ hr.right.right
          have HKK := Lib.hid (fun (w' : World) (P' Q' : HProp) (h : Has w' (P' * (Q' * (row 3 1 (.slice (some ⟨bP, 0, none⟩) q pc') q ((placesOf x.page q).map (Value.int .i64)) * (row 3 1 (.slice (some ⟨bD, 0, none⟩) q dc) q (al.map (Value.int .i64)) * (blk X0 #[(Value.int .i64) x.page, (Value.int .i64) x.size, (Value.int .i64) x.frame, (Value.int .i64) x.rights] 24 * (QQ * R))))))) => (by
            obtain ⟨a1, a2, _, _⟩ := HTJ.out _ _ h.right.right
            obtain ⟨a3, _, _, _⟩ := HTG.out _ _ h.right.right
            exact ⟨a1, a2, a3⟩ : w'.cell? ⟨bD, j, none⟩ = some ((Value.int .i64) t) ∧ w'.cell? ⟨bP, j, none⟩ = some ((Value.int .i64) ij) ∧ w'.cell? ⟨bD, g, none⟩ = some ((Value.int .i64) k)))
          generalize upL (takeN s m) x.page (encW (leafE x) x.size) z (al.drop g) = σg at *
          go_upto_region 23 with fail
          go_region_held3 (fun w' => w'.cell? ⟨bD, j, none⟩ = some ((Value.int .i64) t) ∧ w'.cell? ⟨bP, j, none⟩ = some ((Value.int .i64) ij) ∧ w'.cell? ⟨bD, g, none⟩ = some ((Value.int .i64) k)) (first | (with_reducible exact HKK.out _ _ _ h17) | (with_reducible exact HKK.out _ _ _ h18) | go_keep) (first | (go_at_call 63; (with_reducible refine (HPU.out _ _ h17).mono ?_); rintro e9 w18 ⟨rfl, h18, x18⟩))
          have x19 := x17.trans x18
          go_wp2_with fail
          go_roundw
          case rel => exact ⟨j, by have := HGG.out.2.2; omega, by have := HGG.out.2.2; have := HGG.out.2.1; omega, rfl, h18, x19⟩
          case measure => simp [intOf]; omega
end Go.Proofs.Ytegkimecdonfgaa
