/- The law WalkList: the walk. -/
import Derived.Test.YtacnjjjdkpbeaaaWkBegun
import Derived.Test.YtacnjjjdkpbeaaaRefIn
namespace Go.Proofs.Ytacnjjjdkpbeaaa
open Go.RowKit
set_option maxRecDepth 100000

theorem leafMap_page (e : En) (l a : Int) : i64 (leafMap e l a).page := by
  unfold leafMap
  split
  · rename_i h
    obtain ⟨_, _, h0, h4⟩ := h
    have hs : 0 ≤ span l ∧ span l ≤ 64 := by unfold span; split <;> (try split) <;> (try split) <;> omega
    have h1 : 0 ≤ a / span l * span l := Int.mul_nonneg (Int.ediv_nonneg h0 hs.1) hs.1
    have h2 : a / span l * span l ≤ a := by
      rcases Int.lt_or_eq_of_le hs.1 with h | h
      · exact Int.ediv_mul_le a (by omega)
      · rw [← h]; omega
    exact ⟨by show _ ≤ a / span l * span l; omega, by show a / span l * span l ≤ _; omega⟩
  · exact ⟨by decide, by decide⟩
theorem mapsOf_page (vs : List Vis) : ∀ m ∈ mapsOf vs, i64 m.page := by
  intro m hm
  obtain ⟨v, _, hv⟩ := List.mem_filterMap.1 hm
  split at hv
  · injection hv with hv
    rw [← hv]
    exact leafMap_page _ _ _
  · cases hv
theorem filter_snoc {p : Mp → Bool} {l : List Mp} {j : Nat} (hj : j < l.length) : ((l.take (j + 1)).filter p).length = ((l.take j).filter p).length + (if p l[j] then 1 else 0) := by
  rw [List.take_succ_eq_append_getElem hj, List.filter_append]
  cases hq : p l[j] <;> simp [hq]
set_option maxHeartbeats 4000000 in
theorem walkList_walk (N : Int) (A : Option Addr) (n c : Nat) (l : List Int) (p : Int) (w : World) (_ : i64 N) (h : Arr w A n 1 (l.map cellsU)) (hok : ∀ x ∈ l, u64 x) (hp64 : i64 p) :
    Calls Try.prog 7 #[(Value.int .i64) N, .slice A n c, (Value.int .i64) p] w (Pure (Value.bool true) w) := by
  have hm := h.2.1
  have hA := Lib.hid h
  clear h
  have h0 := has_old w
  have HB := Lib.hid (walkBegun_any w)
  by_cases hN0 : N < 1
  · go_enter Try.func7, Try.ntmps7
    go_wp2_with (refine HB.out.mono ?_; rintro e w1 ⟨rfl, hb⟩)
    go_ret
    exact ⟨rfl, hb⟩
  by_cases hN1 : 128 < N
  · go_enter Try.func7, Try.ntmps7
    go_wp2_with (refine HB.out.mono ?_; rintro e w1 ⟨rfl, hb⟩)
    go_ret
    exact ⟨rfl, hb⟩
  by_cases hbig : 2000 < n
  · go_enter Try.func7, Try.ntmps7
    go_wp2_with (refine HB.out.mono ?_; rintro e w1 ⟨rfl, hb⟩)
    go_ret
    exact ⟨rfl, hb⟩
  have hs := memS_ok (n := N) (taken := N) (ws := l) (by omega) (by omega) hok
  go_enter Try.func7, Try.ntmps7
  go_wp2_with fail
  refine HB.out.mono ?_; rintro e w1 ⟨rfl, hb⟩
  have h1 := h0.below hb
  have x1 := (Ext.refl w).below hb
  have hA1 := hA.out.old1 h1 x1
  clear h0 hb
  go_wp2_with fail
  refine (memory_any N N A n c l _ (by omega) (by omega) hA1 hok).mono ?_; rintro e w2 ⟨f, q, rfl, h2, x2⟩
  have h3 := (h1.onto' h2.a2).a1
  have x3 := x1.trans x2
  clear h1 x1 h2 x2 hA1
  generalize memS N N l = s at *
  have F1 := Lib.hid (fun R w h => find_way f s 0 p R w hs h)
  have L1 := Lib.hid (fun R w h => list_any f s 0 R w hs h)
  have T1 := Lib.hid (fun R w h => tables_any f s 0 R w hs h)
  have hz := Lib.hid (fun (h0 : 0 ≤ p) (h1 : p < 4096) => list_way s p h0 h1 3 (by omega) 0 0 [])
  have hwy := Lib.hid (show way s 0 p = if hasB p = true then wayA s p 3 0 [] else .err 1 from rfl)
  generalize eachV s 3 0 0 = z at *
  go_wp2_with fail
  refine (L1.out _ _ h3).mono ?_; rintro e w4 ⟨a1, c1, rfl, h4, x4⟩
  have x4 := x3.trans x4
  go_wp2_with fail
  refine (T1.out _ _ h4.p2).mono ?_; rintro e w5 ⟨a2, c2, rfl, h5, x5⟩
  have x5 := x4.trans x5
  clear h3 h4 x3 x4 L1 T1
  by_cases hc : z.code = 0
  case neg =>
    have hlm : listM z = [] := by unfold listM; rw [if_neg hc]
    have hlt : listT z 0 = [] := by unfold listT; rw [if_neg hc]
    rw [hlm, hlt] at h5
    rw [hlt]
    have hfin := below_of1 h5.right.right.right.right x5
    have hn : (z.code != 0) = true := by simpa using hc
    rw [hlm]
    clear hlm hlt
    go_wp2_with fail
    go_ret
    exact ⟨by simp, hfin⟩
  have hlm : listM z = mapsOf z.vs := by unfold listM; rw [if_pos hc]
  have hlt : listT z 0 = 0 :: tabsOf z.vs := by unfold listT; rw [if_pos hc]
  rw [hlm, hlt] at h5
  rw [hlt, hlm]
  clear hlm hlt
  have hfr : Has w5 (framesAt f s * (irow (.slice a2 (0 :: tabsOf z.vs).length c2) (0 :: tabsOf z.vs) * (mrow (.slice a1 (mapsOf z.vs).length c1) (mapsOf z.vs) * (memAt q s * old w w.heap.size)))) := h5.eq (by ac_rfl)
  clear h5
  by_cases hp : hasB p = true
  case neg =>
    have hw1 : way s 0 p = .err 1 := by rw [hwy.out, if_neg hp]
    rw [hw1] at F1
    rw [hc]
    clear hw1 hwy hz
    go_wp2_with fail
    refine (F1.out _ _ hfr).mono ?_; rintro e w6 hF
    obtain ⟨b1, b2, d1, d2, rfl, h6, x6⟩ : ∃ (A B : Option Addr) (c d : Nat), e = .returned (.tuple #[.agg #[(Value.int .i64) 0, Value.bool false, Value.bool false, (Value.int .i64) 0, Value.bool false, Value.bool false, (Value.int .i64) 0, .slice A 0 c, .slice B 0 d], (Value.int .i64) 1]) ∧ Has w6 (irow (.slice A 0 c) [] * (irow (.slice B 0 d) [] * old w5 w5.heap.size)) ∧ Ext w5 w6 := hF
    have h7 := (hfr.onto' h6.a2).a1.right.right.right.right.right.right.alloc (.cells #[(Value.int .i64) 0, Value.bool false, Value.bool false, (Value.int .i64) 0, Value.bool false, Value.bool false, (Value.int .i64) 0, .slice b1 0 d1, .slice b2 0 d2] 62)
    have x7 := (x5.trans x6).alloc (.cells #[(Value.int .i64) 0, Value.bool false, Value.bool false, (Value.int .i64) 0, Value.bool false, Value.bool false, (Value.int .i64) 0, .slice b1 0 d1, .slice b2 0 d2] 62)
    have hfin := below_of1 h7 x7
    clear h7 x7 h6 x6
    go_wp2_with fail
    go_ret
    exact ⟨rfl, hfin⟩
  have hp' : 0 ≤ p ∧ p < 4096 := by unfold hasB at hp; simpa using hp
  obtain ⟨hyc, hyf, hyt, hyx⟩ := (hz.out hp'.1 hp'.2 hc (by omega) (by decide)).2 (by show p / 4096 = 0; omega)
  have hw1 : way s 0 p = wayA s p 3 0 [] := by rw [hwy.out, if_pos hp]
  rw [hw1] at F1
  clear hw1 hwy hz hp
  have hmp := Lib.hid (mapsOf_page z.vs)
  rw [hc]
  clear hc
  generalize wayA s p 3 0 [] = y at *
  generalize mapsOf z.vs = ms at *
  obtain ⟨yc, yt, yl, ye⟩ := y
  dsimp only at hyc hyf hyt hyx
  subst hyc
  have hin := Lib.hid (show ∀ x ∈ yt, inB (0 :: tabsOf z.vs) x = true from fun x hx => by
    unfold inB
    rw [List.any_eq_true]
    rcases hyx x hx with h | h | h
    · cases h
    · exact ⟨0, List.mem_cons_self .., by simp [h]⟩
    · exact ⟨x, List.mem_cons_of_mem _ h, by simp⟩)
  generalize (0 :: tabsOf z.vs) = ts at *
  have hYF := Lib.hid hyf
  have hYT := Lib.hid hyt
  clear hyx hyf hyt
  go_wp2_with fail
  refine (F1.out _ _ hfr).mono ?_; rintro e w6 hF
  obtain ⟨b1, b2, d1, d2, rfl, h6, x6⟩ : ∃ (A B : Option Addr) (c d : Nat), e = .returned (.tuple #[.agg #[(Value.int .i64) yl, Value.bool ye.there, Value.bool ye.leaf, (Value.int .i64) ye.rights, Value.bool ye.used, Value.bool ye.dirty, (Value.int .i64) ye.frame, .slice A yt.length c, .slice B yt.length d], (Value.int .i64) 0]) ∧ Has w6 (irow (.slice A yt.length c) yt * (irow (.slice B yt.length d) (placesOf p yt.length) * old w5 w5.heap.size)) ∧ Ext w5 w6 := hF
  have h7 := (hfr.onto' h6.a2).a1.new #[(Value.int .i64) yl, Value.bool ye.there, Value.bool ye.leaf, (Value.int .i64) ye.rights, Value.bool ye.used, Value.bool ye.dirty, (Value.int .i64) ye.frame, .slice b1 yt.length d1, .slice b2 yt.length d2] 62
  have x7 := (x5.trans x6).alloc (.cells #[(Value.int .i64) yl, Value.bool ye.there, Value.bool ye.leaf, (Value.int .i64) ye.rights, Value.bool ye.used, Value.bool ye.dirty, (Value.int .i64) ye.frame, .slice b1 yt.length d1, .slice b2 yt.length d2] 62)
  clear hfr h6 x6 F1 x4
  have H8 : Has _ (blk w6.heap.size #[(Value.int .i64) yl, Value.bool ye.there, Value.bool ye.leaf, (Value.int .i64) ye.rights, Value.bool ye.used, Value.bool ye.dirty, (Value.int .i64) ye.frame, .slice b1 yt.length d1, .slice b2 yt.length d2] 62 * (irow (.slice b1 yt.length d1) yt * (irow (.slice a2 ts.length c2) ts * (mrow (.slice a1 ms.length c1) ms * (irow (.slice b2 yt.length d2) (placesOf p yt.length) * (framesAt f s * (memAt q s * old w w.heap.size))))))) := h7.eq (by ac_rfl)
  clear h7
  have hsz : yt.length ≤ 9223372036854775807 := irow_small H8.right
  have hsz2 : ms.length ≤ 9223372036854775807 := mrow_small H8.right.right.right
  obtain ⟨s0, s1, s2, s3, s4, s5, s6, s7, s8⟩ := H8.cells9
  have sl := H8.lt
  go_upto_region 16 with fail
  generalize w6.alloc (.cells #[(Value.int .i64) yl, Value.bool ye.there, Value.bool ye.leaf, (Value.int .i64) ye.rights, Value.bool ye.used, Value.bool ye.dirty, (Value.int .i64) ye.frame, .slice b1 yt.length d1, .slice b2 yt.length d2] 62) = w8 at *
  generalize hS' : w6.heap.size = ES at *
  clear hS'
  clear s0 s1 s2 s3 s4 s5 s6 s7 s8 sl
  go_loopw [15] (fun s15 wz => ∃ i : Nat, i ≤ yt.length ∧ s15 = (Value.int .i64) i ∧ Below w8.heap.size w8 wz) (fun s15 _ => yt.length - (intOf s15).toNat)
  case atStart => exact ⟨0, Nat.zero_le _, rfl, Below.refl _ _⟩
  case round =>
    obtain ⟨i, hi, rfl, BW⟩ := hrel
    have HZ := H8.below BW
    have BW' := Lib.hid BW
    clear BW
    obtain ⟨_, _, _, _, _, _, _, s7, _⟩ := HZ.cells9
    have sl := HZ.lt
    by_cases hlt : i < yt.length
    · obtain ⟨g, rfl, hg, d0⟩ := irow_at HZ.right (k := i) hlt
      have hI := Lib.hid (in_any a2 ts.length c2 ts yt[i] wr (Has.rd (e := 3) HZ.right.right).1)
      rw [hin.out _ (List.getElem_mem hlt)] at hI
      generalize yt[i] = x at *
      clear HZ
      go_wp2_with fail
      refine hI.out.mono ?_; rintro e w9 ⟨rfl, rfl⟩
      go_wp2_with fail
      go_roundw
      case rel => exact ⟨i + 1, by omega, by go_num, BW'.out⟩
      case measure => simp [intOf]; omega
    · go_wp2_with fail
      clear s7 sl hlt hsz
      go_loopw [16, 17] (fun s16 s17 wz => ∃ j : Nat, j ≤ ms.length ∧ s16 = (Value.int .i64) (((ms.take j).filter fun m => over m p).length : Nat) ∧ s17 = (Value.int .i64) j ∧ Below w8.heap.size w8 wz) (fun _ s17 _ => ms.length - (intOf s17).toNat)
      case atStart => exact ⟨0, Nat.zero_le _, rfl, rfl, BW'.out⟩
      case round =>
        clear HZ BW'
        obtain ⟨j, hj, rfl, rfl, BW⟩ := hrel
        have HY := H8.below BW
        have BW' := Lib.hid BW
        clear BW
        by_cases hlt : j < ms.length
        · obtain ⟨g, rfl, hg, d0, d1, d2, d3⟩ := mrow_at HY.right.right.right hlt
          obtain ⟨s0, s1, s2, s3, s4, s5, s6, _, _⟩ := HY.cells9
          have sl := HY.lt
          have hmj := hmp.out _ (List.getElem_mem hlt)
          have hcnt := filter_snoc (p := fun m => over m p) hlt
          have hmem := Lib.hid (fun (h : over ms[j] p = true) => show ms[j] = leafMap ye yl p from by
            have := (List.mem_filter (p := fun m => over m p)).2 ⟨List.getElem_mem hlt, h⟩
            rw [hYF.out] at this
            split at this
            · simpa using this
            · cases this)
          have hkl : ((ms.take j).filter fun m => over m p).length ≤ j := by
            have := List.length_filter_le (fun m => over m p) (ms.take j)
            rw [List.length_take] at this
            omega
          have HS := Lib.hid (fun W => refHas_any ms[j] p W hmj hp64)
          clear HY
          generalize ms[j] = m at *
          go_wp2_with fail
          refine (HS.out _).mono ?_; rintro e w9 ⟨rfl, b9⟩
          cases ho : over m p with
          | false =>
            rw [ho] at hcnt
            go_wp2_with fail
            go_roundw
            case rel => exact ⟨j + 1, by omega, by rw [hcnt]; rfl, by go_num, BW'.out.trans (b9.mono BW'.out.size)⟩
            case measure => simp [intOf]; omega
          | true =>
            rw [ho] at hcnt
            have hm2 := hmem.out ho
            have HL := Lib.hid (fun W => refLeafMap_any ye yl p W)
            rw [← hm2] at HL
            have cl := fun {a : Addr} {v : Value} (h : wr.cell? a = some v) => via_cell ((b9.cell (World.block_lt_of_cell? _ _ h)).trans h)
            have v0 := cl d0
            have v1 := cl d1
            have v2 := cl d2
            have v3 := cl d3
            have u0 := cl s0
            have u1 := cl s1
            have u2 := cl s2
            have u3 := cl s3
            have u4 := cl s4
            have u5 := cl s5
            have u6 := cl s6
            have hs9 := b9.size
            have hg9 : g < w9.heap.size := by omega
            have hE9 : ES < w9.heap.size := by omega
            clear cl hm2 d0 d1 d2 d3 s0 s1 s2 s3 s4 s5 s6 sl hg hmem ho HS hmj
            go_upto_region 26 with fail
            refine wp_region_via (by kernel_rfl) (by kernel_rfl) ?_
            repeat (first | go_big_quiet_step ((go_at_call 39; exact Pure.via (HL.out _))) | quiet_step ((go_at_call 39; exact Pure.via (HL.out _))))
            refine wpQuiet_nil ?_
            intro _ hw'
            obtain ⟨uq, hw''⟩ := hw'
            subst hw''
            go_wp2_with fail
            go_roundw
            case rel => exact ⟨j + 1, by omega, by rw [hcnt, if_pos trivial]; go_num, by go_num, BW'.out.trans ((b9.trans ((via_below _ _).mono b9.size)).mono BW'.out.size)⟩
            case measure => simp [intOf]; omega
        · obtain rfl : j = ms.length := by omega
          obtain ⟨_, s1, _, _, _, _, _, _, _⟩ := HY.cells9
          have sl := HY.lt
          have hk : ((ms.take ms.length).filter fun m => over m p).length = if ye.leaf = true then 1 else 0 := by
            rw [List.take_length, hYF.out]
            split <;> rfl
          rw [hk]
          have hfin := below_of1 HY.right.right.right.right.right.right.right (x7.below BW'.out)
          have hyt := hYT.out
          clear hYT hYF hk
          cases hl : ye.leaf with
          | true =>
            rw [hl] at hyt
            rw [hyt] at s1
            go_wp2_with fail
            go_ret
            exact ⟨rfl, hfin⟩
          | false =>
            rw [hl] at hyt
            rw [hyt] at s1
            go_wp2_with fail
            go_ret
            exact ⟨rfl, hfin⟩
end Go.Proofs.Ytacnjjjdkpbeaaa
