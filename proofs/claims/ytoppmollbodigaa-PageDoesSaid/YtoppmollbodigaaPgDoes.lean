/- The law PageDoes: the walk. -/
import Derived.Test.YtoppmollbodigaaRefPage2
namespace Go.Proofs.Ytoppmollbodigaa
open Go.RowKit
set_option maxRecDepth 100000

set_option maxHeartbeats 4000000 in
theorem pageDoes_walk (m n : Mp) (a : Ac) (p level rights : Int) (w : World) (om : m.ok) (on : n.ok) (oa : a.ok) (op : i64 p) (_ : i64 level) (_ : i64 rights) :
    Calls Try.prog 9 #[.agg #[vi m.page, vi m.size, vi m.frame, vi m.rights], .agg #[vi n.page, vi n.size, vi n.frame, vi n.rights], .agg #[vi a.page, vi a.kind, vb a.user], vi p, vi level, vi rights] w (Pure (vb true) w) := by
  obtain ⟨mp, ms, mf, mr⟩ := m
  obtain ⟨np, ns, nf, nr⟩ := n
  obtain ⟨p1, k, u⟩ := a
  have om := om.1
  have on := on.1
  have oa := oa.1
  have h1 := ((Has.new (has_old w) #[vi mp, vi ms, vi mf, vi mr] 28).new #[vi np, vi ns, vi nf, vi nr] 28).new #[vi p1, vi k, vb u] 41
  have x1 := (((Ext.refl w).alloc (.cells #[vi mp, vi ms, vi mf, vi mr] 28)).alloc (.cells #[vi np, vi ns, vi nf, vi nr] 28)).alloc (.cells #[vi p1, vi k, vb u] 41)
  simp only [World.size_alloc] at h1
  go_enter Try.func9, Try.ntmps9
  go_wp2_with fail
  refine (pageBegun_any _).mono ?_; rintro e w2 ⟨rfl, b2⟩
  have h2' := h1.below b2
  have h2 : Has w2 (blk w.heap.size #[vi mp, vi ms, vi mf, vi mr] 28 * (blk (w.heap.size + 1) #[vi np, vi ns, vi nf, vi nr] 28 * (blk (w.heap.size + 1 + 1) #[vi p1, vi k, vb u] 41 * old w w.heap.size))) := h2'.eq (by simp only [star_left_comm])
  have x2 := x1.below b2
  clear h1 x1 b2 h2'
  by_cases p0 : 0 ≤ p
  · have hH : ∀ W, Calls Try.prog 22 #[vi p] W (Same (vb (decide (p < 4096))) W) := fun W => by
      have := has_any p W
      rw [show hasB p = decide (p < 4096) by unfold hasB; simp [p0]] at this
      exact this
    go_wp2_with fail
    clear p0
    have HH := Lib.hid hH
    clear hH
    obtain ⟨c0, c1, c2, c3⟩ := (h2).cells4
    obtain ⟨d0, d1, d2, d3⟩ := (h2).right.cells4
    obtain ⟨e0, e1, e2⟩ := (h2).right.right.cells3
    have v0 := via_cell c0
    have v1 := via_cell c1
    have v2 := via_cell c2
    have v3 := via_cell c3
    have u0 := via_cell d0
    have u1 := via_cell d1
    have u2 := via_cell d2
    have u3 := via_cell d3
    clear c0 c1 c2 c3 d0 d1 d2 d3 e0 e1 e2
    refine wp_region_via (by kernel_rfl) (by kernel_rfl) ?_
    repeat (first | go_big_quiet_step ((first | (go_at_call 26; exact Same.via (span_any _ _)) | (go_at_call 43; exact Same.via (spanOf_any _ _)) | (go_at_call 22; exact Same.via (HH.out _)) | (go_at_call 21; exact Same.via (index_any _ _ _)) | (go_at_call 44; exact Pure.via (indexOf_any _ _ _)) | (go_at_call 23; exact Pure.via (check_any ⟨mp, ms, mf, mr⟩ _)) | (go_at_call 45; exact Pure.via (mapFault_any ⟨mp, ms, mf, mr⟩ _)) | (go_at_call 24; exact Pure.via (over_page ⟨mp, ms, mf, mr⟩ _ _ om op)) | (go_at_call 46; exact Pure.via (refHas_any ⟨mp, ms, mf, mr⟩ _ _ om op)) | (go_at_call 28; exact Pure.via (meet_any ⟨mp, ms, mf, mr⟩ ⟨np, ns, nf, nr⟩ _ om on)) | (go_at_call 47; exact Pure.via (both_any ⟨mp, ms, mf, mr⟩ ⟨np, ns, nf, nr⟩ _ om on)))) | quiet_step ((first | (go_at_call 26; exact Same.via (span_any _ _)) | (go_at_call 43; exact Same.via (spanOf_any _ _)) | (go_at_call 22; exact Same.via (HH.out _)) | (go_at_call 21; exact Same.via (index_any _ _ _)) | (go_at_call 44; exact Pure.via (indexOf_any _ _ _)) | (go_at_call 23; exact Pure.via (check_any ⟨mp, ms, mf, mr⟩ _)) | (go_at_call 45; exact Pure.via (mapFault_any ⟨mp, ms, mf, mr⟩ _)) | (go_at_call 24; exact Pure.via (over_page ⟨mp, ms, mf, mr⟩ _ _ om op)) | (go_at_call 46; exact Pure.via (refHas_any ⟨mp, ms, mf, mr⟩ _ _ om op)) | (go_at_call 28; exact Pure.via (meet_any ⟨mp, ms, mf, mr⟩ ⟨np, ns, nf, nr⟩ _ om on)) | (go_at_call 47; exact Pure.via (both_any ⟨mp, ms, mf, mr⟩ ⟨np, ns, nf, nr⟩ _ om on)))))
    refine wpQuiet_nil ?_
    intro _ hw'
    obtain ⟨uq, hw''⟩ := hw'
    subst hw''
    have h3 := h2.via uq
    have x3 := x2.below (via_below w2 uq)
    generalize via w2 uq = w3 at *
    clear h2 x2 v0 v1 v2 v3 u0 u1 u2 u3
    obtain ⟨c0, c1, c2, c3⟩ := (h3).cells4
    obtain ⟨d0, d1, d2, d3⟩ := (h3).right.cells4
    obtain ⟨e0, e1, e2⟩ := (h3).right.right.cells3
    have v0 := via_cell e0
    have v1 := via_cell e1
    have v2 := via_cell e2
    clear c0 c1 c2 c3 d0 d1 d2 d3 e0 e1 e2
    go_wp2
    refine wp_region_via (by kernel_rfl) (by kernel_rfl) ?_
    repeat (first | go_big_quiet_step ((first | (go_at_call 25; exact Pure.via (may_any _ _ _ _ _)) | (go_at_call 48; exact Pure.via (lets_any _ _ _ _ _)) | (go_at_call 49; exact Pure.via (checkAccess_any _ _ _ _)) | (go_at_call 50; exact Pure.via (accessFault_any _ _ _ _)))) | quiet_step ((first | (go_at_call 25; exact Pure.via (may_any _ _ _ _ _)) | (go_at_call 48; exact Pure.via (lets_any _ _ _ _ _)) | (go_at_call 49; exact Pure.via (checkAccess_any _ _ _ _)) | (go_at_call 50; exact Pure.via (accessFault_any _ _ _ _)))))
    refine wpQuiet_nil ?_
    intro _ hw'
    obtain ⟨uq, hw''⟩ := hw'
    subst hw''
    have h4 := h3.via uq
    have x4 := x3.below (via_below w3 uq)
    generalize via w3 uq = w4 at *
    clear h3 x3 v0 v1 v2
    obtain ⟨c0, c1, c2, c3⟩ := (h4).cells4
    obtain ⟨d0, d1, d2, d3⟩ := (h4).right.cells4
    obtain ⟨e0, e1, e2⟩ := (h4).right.right.cells3
    go_wp2_with fail
    refine (answer_any ⟨mp, ms, mf, mr⟩ p1 k u _).mono ?_; rintro e w5 ⟨rfl, b5⟩
    have h5 := h4.below b5
    have x5 := x4.below b5
    clear h4 x4 b5 c0 c1 c2 c3 d0 d1 d2 d3 e0 e1 e2
    generalize hans : answer ⟨mp, ms, mf, mr⟩ ⟨p1, k, u⟩ = an
    have hA : ∀ W, Calls Try.prog 51 #[.agg #[vi mp, vi ms, vi mf, vi mr], .agg #[vi p1, vi k, vb u]] W (Pure an.val W) := fun W => by rw [← hans]; exact answerOf_any ⟨mp, ms, mf, mr⟩ p1 k u W
    have HA := Lib.hid hA
    clear hA hans
    obtain ⟨af, ag, ar⟩ := an
    have h6 := h5.new #[vi af, vi ag, vi ar] 45
    have x6 := x5.alloc (.cells #[vi af, vi ag, vi ar] 45)
    go_wp2_with fail
    generalize w5.alloc (.cells #[vi af, vi ag, vi ar] 45) = w6 at *
    generalize w5.heap.size = B at *
    obtain ⟨c0, c1, c2, c3⟩ := (h6.right).cells4
    obtain ⟨d0, d1, d2, d3⟩ := (h6.right).right.cells4
    obtain ⟨e0, e1, e2⟩ := (h6.right).right.right.cells3
    obtain ⟨a0, a1, a2⟩ := h6.cells3
    have v0 := via_cell c0
    have v1 := via_cell c1
    have v2 := via_cell c2
    have v3 := via_cell c3
    have u0 := via_cell e0
    have u1 := via_cell e1
    have u2 := via_cell e2
    have g0 := via_cell a0
    have g1 := via_cell a1
    have g2 := via_cell a2
    clear c0 c1 c2 c3 d0 d1 d2 d3 e0 e1 e2 a0 a1 a2
    by_cases hc : check ⟨mp, ms, mf, mr⟩ = 0
    · cases ho : over ⟨mp, ms, mf, mr⟩ p1 with
      | true =>
        refine wp_region_via (by kernel_rfl) (by kernel_rfl) ?_
        repeat (first | go_big_quiet_step ((first | (go_at_call 45; exact Pure.via (mapFault_any ⟨mp, ms, mf, mr⟩ _)) | (go_at_call 46; exact Pure.via (refHas_any ⟨mp, ms, mf, mr⟩ _ _ om oa)) | (go_at_call 51; exact Pure.via (HA.out _)))) | quiet_step ((first | (go_at_call 45; exact Pure.via (mapFault_any ⟨mp, ms, mf, mr⟩ _)) | (go_at_call 46; exact Pure.via (refHas_any ⟨mp, ms, mf, mr⟩ _ _ om oa)) | (go_at_call 51; exact Pure.via (HA.out _)))))
        refine wpQuiet_nil ?_
        intro _ hw'
        obtain ⟨uq, hw''⟩ := hw'
        subst hw''
        go_wp2
        go_ret
        exact ⟨rfl, below_of1 (h6.via _).right.right.right.right (x6.below (via_below _ _))⟩
      | false =>
        refine wp_region_via (by kernel_rfl) (by kernel_rfl) ?_
        repeat (first | go_big_quiet_step ((first | (go_at_call 45; exact Pure.via (mapFault_any ⟨mp, ms, mf, mr⟩ _)) | (go_at_call 46; exact Pure.via (refHas_any ⟨mp, ms, mf, mr⟩ _ _ om oa)) | (go_at_call 51; exact Pure.via (HA.out _)))) | quiet_step ((first | (go_at_call 45; exact Pure.via (mapFault_any ⟨mp, ms, mf, mr⟩ _)) | (go_at_call 46; exact Pure.via (refHas_any ⟨mp, ms, mf, mr⟩ _ _ om oa)) | (go_at_call 51; exact Pure.via (HA.out _)))))
        refine wpQuiet_nil ?_
        intro _ hw'
        obtain ⟨uq, hw''⟩ := hw'
        subst hw''
        go_wp2
        go_ret
        exact ⟨rfl, below_of1 (h6.via _).right.right.right.right (x6.below (via_below _ _))⟩
    · have hc' : (check ⟨mp, ms, mf, mr⟩ != 0) = true := by simpa using hc
      clear hc
      refine wp_region_via (by kernel_rfl) (by kernel_rfl) ?_
      repeat (first | go_big_quiet_step ((first | (go_at_call 45; exact Pure.via (mapFault_any ⟨mp, ms, mf, mr⟩ _)) | (go_at_call 46; exact Pure.via (refHas_any ⟨mp, ms, mf, mr⟩ _ _ om oa)) | (go_at_call 51; exact Pure.via (HA.out _)))) | quiet_step ((first | (go_at_call 45; exact Pure.via (mapFault_any ⟨mp, ms, mf, mr⟩ _)) | (go_at_call 46; exact Pure.via (refHas_any ⟨mp, ms, mf, mr⟩ _ _ om oa)) | (go_at_call 51; exact Pure.via (HA.out _)))))
      refine wpQuiet_nil ?_
      intro _ hw'
      obtain ⟨uq, hw''⟩ := hw'
      subst hw''
      go_wp2
      go_ret
      exact ⟨rfl, below_of1 (h6.via _).right.right.right.right (x6.below (via_below _ _))⟩
  · have hd : decide (0 ≤ p) = false := by simpa using p0
    have hH : ∀ W, Calls Try.prog 22 #[vi p] W (Same (vb false) W) := fun W => by
      have := has_any p W
      rw [show hasB p = false by unfold hasB; rw [hd]; rfl] at this
      exact this
    go_wp2_with fail
    clear p0 hd
    have HH := Lib.hid hH
    clear hH
    obtain ⟨c0, c1, c2, c3⟩ := (h2).cells4
    obtain ⟨d0, d1, d2, d3⟩ := (h2).right.cells4
    obtain ⟨e0, e1, e2⟩ := (h2).right.right.cells3
    have v0 := via_cell c0
    have v1 := via_cell c1
    have v2 := via_cell c2
    have v3 := via_cell c3
    have u0 := via_cell d0
    have u1 := via_cell d1
    have u2 := via_cell d2
    have u3 := via_cell d3
    clear c0 c1 c2 c3 d0 d1 d2 d3 e0 e1 e2
    refine wp_region_via (by kernel_rfl) (by kernel_rfl) ?_
    repeat (first | go_big_quiet_step ((first | (go_at_call 26; exact Same.via (span_any _ _)) | (go_at_call 43; exact Same.via (spanOf_any _ _)) | (go_at_call 22; exact Same.via (HH.out _)) | (go_at_call 21; exact Same.via (index_any _ _ _)) | (go_at_call 44; exact Pure.via (indexOf_any _ _ _)) | (go_at_call 23; exact Pure.via (check_any ⟨mp, ms, mf, mr⟩ _)) | (go_at_call 45; exact Pure.via (mapFault_any ⟨mp, ms, mf, mr⟩ _)) | (go_at_call 24; exact Pure.via (over_page ⟨mp, ms, mf, mr⟩ _ _ om op)) | (go_at_call 46; exact Pure.via (refHas_any ⟨mp, ms, mf, mr⟩ _ _ om op)) | (go_at_call 28; exact Pure.via (meet_any ⟨mp, ms, mf, mr⟩ ⟨np, ns, nf, nr⟩ _ om on)) | (go_at_call 47; exact Pure.via (both_any ⟨mp, ms, mf, mr⟩ ⟨np, ns, nf, nr⟩ _ om on)))) | quiet_step ((first | (go_at_call 26; exact Same.via (span_any _ _)) | (go_at_call 43; exact Same.via (spanOf_any _ _)) | (go_at_call 22; exact Same.via (HH.out _)) | (go_at_call 21; exact Same.via (index_any _ _ _)) | (go_at_call 44; exact Pure.via (indexOf_any _ _ _)) | (go_at_call 23; exact Pure.via (check_any ⟨mp, ms, mf, mr⟩ _)) | (go_at_call 45; exact Pure.via (mapFault_any ⟨mp, ms, mf, mr⟩ _)) | (go_at_call 24; exact Pure.via (over_page ⟨mp, ms, mf, mr⟩ _ _ om op)) | (go_at_call 46; exact Pure.via (refHas_any ⟨mp, ms, mf, mr⟩ _ _ om op)) | (go_at_call 28; exact Pure.via (meet_any ⟨mp, ms, mf, mr⟩ ⟨np, ns, nf, nr⟩ _ om on)) | (go_at_call 47; exact Pure.via (both_any ⟨mp, ms, mf, mr⟩ ⟨np, ns, nf, nr⟩ _ om on)))))
    refine wpQuiet_nil ?_
    intro _ hw'
    obtain ⟨uq, hw''⟩ := hw'
    subst hw''
    have h3 := h2.via uq
    have x3 := x2.below (via_below w2 uq)
    generalize via w2 uq = w3 at *
    clear h2 x2 v0 v1 v2 v3 u0 u1 u2 u3
    obtain ⟨c0, c1, c2, c3⟩ := (h3).cells4
    obtain ⟨d0, d1, d2, d3⟩ := (h3).right.cells4
    obtain ⟨e0, e1, e2⟩ := (h3).right.right.cells3
    have v0 := via_cell e0
    have v1 := via_cell e1
    have v2 := via_cell e2
    clear c0 c1 c2 c3 d0 d1 d2 d3 e0 e1 e2
    go_wp2
    refine wp_region_via (by kernel_rfl) (by kernel_rfl) ?_
    repeat (first | go_big_quiet_step ((first | (go_at_call 25; exact Pure.via (may_any _ _ _ _ _)) | (go_at_call 48; exact Pure.via (lets_any _ _ _ _ _)) | (go_at_call 49; exact Pure.via (checkAccess_any _ _ _ _)) | (go_at_call 50; exact Pure.via (accessFault_any _ _ _ _)))) | quiet_step ((first | (go_at_call 25; exact Pure.via (may_any _ _ _ _ _)) | (go_at_call 48; exact Pure.via (lets_any _ _ _ _ _)) | (go_at_call 49; exact Pure.via (checkAccess_any _ _ _ _)) | (go_at_call 50; exact Pure.via (accessFault_any _ _ _ _)))))
    refine wpQuiet_nil ?_
    intro _ hw'
    obtain ⟨uq, hw''⟩ := hw'
    subst hw''
    have h4 := h3.via uq
    have x4 := x3.below (via_below w3 uq)
    generalize via w3 uq = w4 at *
    clear h3 x3 v0 v1 v2
    obtain ⟨c0, c1, c2, c3⟩ := (h4).cells4
    obtain ⟨d0, d1, d2, d3⟩ := (h4).right.cells4
    obtain ⟨e0, e1, e2⟩ := (h4).right.right.cells3
    go_wp2_with fail
    refine (answer_any ⟨mp, ms, mf, mr⟩ p1 k u _).mono ?_; rintro e w5 ⟨rfl, b5⟩
    have h5 := h4.below b5
    have x5 := x4.below b5
    clear h4 x4 b5 c0 c1 c2 c3 d0 d1 d2 d3 e0 e1 e2
    generalize hans : answer ⟨mp, ms, mf, mr⟩ ⟨p1, k, u⟩ = an
    have hA : ∀ W, Calls Try.prog 51 #[.agg #[vi mp, vi ms, vi mf, vi mr], .agg #[vi p1, vi k, vb u]] W (Pure an.val W) := fun W => by rw [← hans]; exact answerOf_any ⟨mp, ms, mf, mr⟩ p1 k u W
    have HA := Lib.hid hA
    clear hA hans
    obtain ⟨af, ag, ar⟩ := an
    have h6 := h5.new #[vi af, vi ag, vi ar] 45
    have x6 := x5.alloc (.cells #[vi af, vi ag, vi ar] 45)
    go_wp2_with fail
    generalize w5.alloc (.cells #[vi af, vi ag, vi ar] 45) = w6 at *
    generalize w5.heap.size = B at *
    obtain ⟨c0, c1, c2, c3⟩ := (h6.right).cells4
    obtain ⟨d0, d1, d2, d3⟩ := (h6.right).right.cells4
    obtain ⟨e0, e1, e2⟩ := (h6.right).right.right.cells3
    obtain ⟨a0, a1, a2⟩ := h6.cells3
    have v0 := via_cell c0
    have v1 := via_cell c1
    have v2 := via_cell c2
    have v3 := via_cell c3
    have u0 := via_cell e0
    have u1 := via_cell e1
    have u2 := via_cell e2
    have g0 := via_cell a0
    have g1 := via_cell a1
    have g2 := via_cell a2
    clear c0 c1 c2 c3 d0 d1 d2 d3 e0 e1 e2 a0 a1 a2
    by_cases hc : check ⟨mp, ms, mf, mr⟩ = 0
    · cases ho : over ⟨mp, ms, mf, mr⟩ p1 with
      | true =>
        refine wp_region_via (by kernel_rfl) (by kernel_rfl) ?_
        repeat (first | go_big_quiet_step ((first | (go_at_call 45; exact Pure.via (mapFault_any ⟨mp, ms, mf, mr⟩ _)) | (go_at_call 46; exact Pure.via (refHas_any ⟨mp, ms, mf, mr⟩ _ _ om oa)) | (go_at_call 51; exact Pure.via (HA.out _)))) | quiet_step ((first | (go_at_call 45; exact Pure.via (mapFault_any ⟨mp, ms, mf, mr⟩ _)) | (go_at_call 46; exact Pure.via (refHas_any ⟨mp, ms, mf, mr⟩ _ _ om oa)) | (go_at_call 51; exact Pure.via (HA.out _)))))
        refine wpQuiet_nil ?_
        intro _ hw'
        obtain ⟨uq, hw''⟩ := hw'
        subst hw''
        go_wp2
        go_ret
        exact ⟨rfl, below_of1 (h6.via _).right.right.right.right (x6.below (via_below _ _))⟩
      | false =>
        refine wp_region_via (by kernel_rfl) (by kernel_rfl) ?_
        repeat (first | go_big_quiet_step ((first | (go_at_call 45; exact Pure.via (mapFault_any ⟨mp, ms, mf, mr⟩ _)) | (go_at_call 46; exact Pure.via (refHas_any ⟨mp, ms, mf, mr⟩ _ _ om oa)) | (go_at_call 51; exact Pure.via (HA.out _)))) | quiet_step ((first | (go_at_call 45; exact Pure.via (mapFault_any ⟨mp, ms, mf, mr⟩ _)) | (go_at_call 46; exact Pure.via (refHas_any ⟨mp, ms, mf, mr⟩ _ _ om oa)) | (go_at_call 51; exact Pure.via (HA.out _)))))
        refine wpQuiet_nil ?_
        intro _ hw'
        obtain ⟨uq, hw''⟩ := hw'
        subst hw''
        go_wp2
        go_ret
        exact ⟨rfl, below_of1 (h6.via _).right.right.right.right (x6.below (via_below _ _))⟩
    · have hc' : (check ⟨mp, ms, mf, mr⟩ != 0) = true := by simpa using hc
      clear hc
      refine wp_region_via (by kernel_rfl) (by kernel_rfl) ?_
      repeat (first | go_big_quiet_step ((first | (go_at_call 45; exact Pure.via (mapFault_any ⟨mp, ms, mf, mr⟩ _)) | (go_at_call 46; exact Pure.via (refHas_any ⟨mp, ms, mf, mr⟩ _ _ om oa)) | (go_at_call 51; exact Pure.via (HA.out _)))) | quiet_step ((first | (go_at_call 45; exact Pure.via (mapFault_any ⟨mp, ms, mf, mr⟩ _)) | (go_at_call 46; exact Pure.via (refHas_any ⟨mp, ms, mf, mr⟩ _ _ om oa)) | (go_at_call 51; exact Pure.via (HA.out _)))))
      refine wpQuiet_nil ?_
      intro _ hw'
      obtain ⟨uq, hw''⟩ := hw'
      subst hw''
      go_wp2
      go_ret
      exact ⟨rfl, below_of1 (h6.via _).right.right.right.right (x6.below (via_below _ _))⟩
end Go.Proofs.Ytoppmollbodigaa
