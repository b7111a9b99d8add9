-- Printed by a program of this repository (wip/xprint.py), over contracts of its own for what the kit's print does not take. Lean checks it.
import Derived.Test.YtpedlkhfeoeogaaDoorPFnLinesStretchedx0
import Derived.Test.YtpedlkhfeoeogaaDoorPFnLinesStretchedx1
import Derived.Test.YtpedlkhfeoeogaaDoorPFnLinesStretchedx2
import Derived.Test.YtpedlkhfeoeogaaDoorPFnLinesStretchedx3
import Derived.Test.YtpedlkhfeoeogaaDoorPFnLinesStretchedx4
import Derived.Test.YtpedlkhfeoeogaaDoorPFnLinesStretchedx5
import Derived.Test.YtpedlkhfeoeogaaDoorPFnLinesStretchedx6
import Derived.Test.YtpedlkhfeoeogaaDoorPFnLinesStretchedx7
import Derived.Test.YtpedlkhfeoeogaaDoorPFnLinesStretchedx8
import Derived.Test.YtpedlkhfeoeogaaDoorPFnLinesStretchedx9
import Derived.Test.YtpedlkhfeoeogaaDoorPFnLinesStretchedx22
namespace Go.Proofs.YtpedlkhfeoeogaaDoor.PFnLinesStretched
open Go.RowKit Go.Proofs.YtpedlkhfeoeogaaDoorW.PrintWords Go.Proofs.YtpedlkhfeoeogaaDoorW.PrintLast Go.Proofs.YtpedlkhfeoeogaaDoorW.PrintMore
attribute [local go_sem] max2_int min2_int max_two min_two max_three min_three max_four min_four   -- for this text's walks alone
set_option linter.unusedVariables false
set_option linter.unusedSimpArgs false

set_option maxHeartbeats 400000000 in
set_option maxRecDepth 100000 in
theorem laws_FnLinesStretched.calls (k : Nat) (A0 : Option Addr) (c0 : Nat) (l0 : List Int) (A1 : Option Addr) (c1 : Nat) (l1 : List Int) (r : Bool) (w : World) (hr0 : Kd.C (Kd.int .u8) w A0 l0.length l0) (hc0 : l0.length ≤ c0) (hr1 : Kd.C (Kd.int .u8) w A1 l1.length l1) (hc1 : l1.length ≤ c1) (hT : TabA w) (hr_ : Aside0 (r = true)) (h : laws_FnLinesStretched.f k l0 l1 = some r) :
  Calls Tryd.prog 5 #[.slice A0 l0.length c0, .slice A1 l1.length c1] w fun e w' => e = .returned (.bool r) ∧ Below w.heap.size w w' := by
 have HR0 := Aside0.mk hr0
 have HC0 := Aside0.mk hc0
 clear hr0 hc0
 have HR1 := Aside0.mk hr1
 have HC1 := Aside0.mk hc1
 clear hr1 hc1
 have HB := Aside0.mk (Below.refl w.heap.size w)
 have HT := Aside0.mk hT
 clear hT
 have H : ((laws_big.f l0 l1).bind fun t469 => (if t469 = true then (some true) else ((spec_DrawStretchSpaces.f k l0).bind fun bt470 => ((impl_StretchSpaces.f k bt470.1 bt470.2).bind fun bt474 => ((spec_StretchSpaces.f k bt470.1 bt470.2).bind fun bt478 => (if (bt474.2 != bt478.2) = true then (laws_FnLinesStretched.j0 k l1 bt470.1 bt470.2 bt474.1 bt474.2 true) else ((laws_xSame.f k bt474.1 bt478.1).bind fun t482 => (laws_FnLinesStretched.j0 k l1 bt470.1 bt470.2 bt474.1 bt474.2 (!t482))))))))) = some r := h
 clear h
 replace H := Option.bind_eq_some_iff.mp H
 obtain ⟨t469, A30, H⟩ := H
 (try dsimp only at H)
 have A3 := Aside0.mk A30
 clear A30
 by_cases c4 : t469 = true
 ·subst c4
  have H1 : (some true) = some r := by rw [if_pos rfl] at H; exact H
  clear H
  have H := H1
  clear H1
  obtain rfl := Option.some.inj H
  simp only [Option.some.injEq, Prod.mk.injEq] at H
  obtain ⟨rfl⟩ := H
  go_enter Tryd.func5, Tryd.ntmps5
  go_wp2_with (first | (go_at_call 6; (with_reducible refine (laws_big.calls _ _ l0 _ _ l1 true _ ?side1 ?side2 ?side3 ?side4 A3.out).mono ?_); (case side1 => exact cr_ HR0.out); (case side2 => exact HC0.out); (case side3 => exact cr_ HR1.out); (case side4 => exact HC1.out); rintro e w' ⟨rfl, ⟨nd, rfl⟩⟩; (try exact dd_)))
  repeat (go_quiet (first | (go_at_call 6; (with_reducible refine (laws_big.calls _ _ l0 _ _ l1 true _ ?side1 ?side2 ?side3 ?side4 A3.out).mono ?_); (case side1 => exact cr_ HR0.out); (case side2 => exact HC0.out); (case side3 => exact cr_ HR1.out); (case side4 => exact HC1.out); rintro e w' ⟨rfl, ⟨nd, rfl⟩⟩; (try exact dd_))); try go_wp2_with (first | (go_at_call 6; (with_reducible refine (laws_big.calls _ _ l0 _ _ l1 true _ ?side1 ?side2 ?side3 ?side4 A3.out).mono ?_); (case side1 => exact cr_ HR0.out); (case side2 => exact HC0.out); (case side3 => exact cr_ HR1.out); (case side4 => exact HC1.out); rintro e w' ⟨rfl, ⟨nd, rfl⟩⟩; (try exact dd_))))
  go_ret
  exact ⟨by first | rfl | (simp [errW_none, errW_some] <;> rfl) | (simp [*, errW_none, errW_some] <;> rfl), bw_⟩
 ·replace c4 := Bool.eq_false_iff.mpr c4
  subst c4
  have H1 : ((spec_DrawStretchSpaces.f k l0).bind fun bt470 => ((impl_StretchSpaces.f k bt470.1 bt470.2).bind fun bt474 => ((spec_StretchSpaces.f k bt470.1 bt470.2).bind fun bt478 => (if (bt474.2 != bt478.2) = true then (laws_FnLinesStretched.j0 k l1 bt470.1 bt470.2 bt474.1 bt474.2 true) else ((laws_xSame.f k bt474.1 bt478.1).bind fun t482 => (laws_FnLinesStretched.j0 k l1 bt470.1 bt470.2 bt474.1 bt474.2 (!t482))))))) = some r := by rw [if_neg (show ¬ (false = true) by decide)] at H; exact H
  clear H
  have H := H1
  clear H1
  replace H := Option.bind_eq_some_iff.mp H
  obtain ⟨⟨t470, t471⟩, A50, H⟩ := H
  (try dsimp only at H)
  have A5 := Aside0.mk A50
  clear A50
  replace H := Option.bind_eq_some_iff.mp H
  obtain ⟨⟨t474, t475⟩, A60, H⟩ := H
  (try dsimp only at H)
  have A6 := Aside0.mk A60
  clear A60
  replace H := Option.bind_eq_some_iff.mp H
  obtain ⟨⟨t478, t479⟩, A70, H⟩ := H
  (try dsimp only at H)
  have A7 := Aside0.mk A70
  clear A70
  have HC8 := Aside0.mk H
  clear H
  go_enter Tryd.func5, Tryd.ntmps5
  go_upto_region 6 with (first | (go_at_call 6; (with_reducible refine (laws_big.calls _ _ l0 _ _ l1 false _ ?side1 ?side2 ?side3 ?side4 A3.out).mono ?_); (case side1 => exact cr_ HR0.out); (case side2 => exact HC0.out); (case side3 => exact cr_ HR1.out); (case side4 => exact HC1.out); rintro e w' ⟨rfl, ⟨nd, rfl⟩⟩; (try exact dd_)) | (go_at_call 62; (with_reducible refine (spec_DrawStretchSpaces.calls k _ _ l0 t470 t471 _ ?side1 ?side2 A5.out).mono ?_); (case side1 => exact cr_ HR0.out); (case side2 => exact HC0.out); rintro e w9 ⟨v472, rfl, ho0, hb⟩; have n0_ := Aside0.mk (Kd.R_lower ho0 (below_size bw_)); have n1_ := Aside0.mk (below_step bw_ hb); clear HB; have HO473 := n0_; have HB := n1_; clear n0_ n1_; (try clear hb); (try clear hb2); (try clear hk); (try clear hi); (try clear ho0); obtain ⟨Ao10, co10, eo10⟩ := Kd.R_slice HO473.out; subst eo10) | (go_at_call 63; (with_reducible refine (impl_StretchSpaces.calls k _ _ t470 t471 t474 t475 _ ?side1 ?side2 A6.out).mono ?_); (case side1 => exact cr_ (Kd.R_reads' HO473.out).2.2); (case side2 => exact (Kd.R_reads' HO473.out).2.1); rintro e w11 ⟨v476, rfl, ho0, hb⟩; have n0_ := Aside0.mk (Kd.R_elder' (rr_ HO473.out) (Kd.R_base ho0) hb); have n1_ := Aside0.mk (Kd.R_lower (Kd.R_new' ho0 (Kd.R_lt (rr_ HO473.out))) (below_size bw_)); have n2_ := Aside0.mk (below_step bw_ hb); clear HO473; clear HB; have HO473 := n0_; have HO477 := n1_; have HB := n2_; clear n0_ n1_ n2_; (try clear hb); (try clear hb2); (try clear hk); (try clear hi); (try clear ho0)) | (go_at_call 64; (with_reducible refine (spec_StretchSpaces.calls k _ _ t470 t471 t478 t479 _ ?side1 ?side2 A7.out).mono ?_); (case side1 => exact cr_ (Kd.R_reads' HO473.out).2.2); (case side2 => exact (Kd.R_reads' HO473.out).2.1); rintro e w12 ⟨v480, rfl, ho0, hb⟩; have n0_ := Aside0.mk (Kd.R_elder' (rr_ HO473.out) (Kd.R_base ho0) hb); have n1_ := Aside0.mk (Kd.R_elder' (rr_ HO477.out) (Kd.R_base ho0) hb); have n2_ := Aside0.mk (Kd.R_lower (Kd.R_new' (Kd.R_new' ho0 (Kd.R_lt (rr_ HO473.out))) (Kd.R_lt (rr_ HO477.out))) (below_size bw_)); have n3_ := Aside0.mk (below_step bw_ hb); clear HO473; clear HO477; clear HB; have HO473 := n0_; have HO477 := n1_; have HO481 := n2_; have HB := n3_; clear n0_ n1_ n2_ n3_; (try clear hb); (try clear hb2); (try clear hk); (try clear hi); (try clear ho0)))
  repeat (go_quiet (first | (go_at_call 6; (with_reducible refine (laws_big.calls _ _ l0 _ _ l1 false _ ?side1 ?side2 ?side3 ?side4 A3.out).mono ?_); (case side1 => exact cr_ HR0.out); (case side2 => exact HC0.out); (case side3 => exact cr_ HR1.out); (case side4 => exact HC1.out); rintro e w' ⟨rfl, ⟨nd, rfl⟩⟩; (try exact dd_)) | (go_at_call 62; (with_reducible refine (spec_DrawStretchSpaces.calls k _ _ l0 t470 t471 _ ?side1 ?side2 A5.out).mono ?_); (case side1 => exact cr_ HR0.out); (case side2 => exact HC0.out); rintro e w9 ⟨v472, rfl, ho0, hb⟩; have n0_ := Aside0.mk (Kd.R_lower ho0 (below_size bw_)); have n1_ := Aside0.mk (below_step bw_ hb); clear HB; have HO473 := n0_; have HB := n1_; clear n0_ n1_; (try clear hb); (try clear hb2); (try clear hk); (try clear hi); (try clear ho0); obtain ⟨Ao10, co10, eo10⟩ := Kd.R_slice HO473.out; subst eo10) | (go_at_call 63; (with_reducible refine (impl_StretchSpaces.calls k _ _ t470 t471 t474 t475 _ ?side1 ?side2 A6.out).mono ?_); (case side1 => exact cr_ (Kd.R_reads' HO473.out).2.2); (case side2 => exact (Kd.R_reads' HO473.out).2.1); rintro e w11 ⟨v476, rfl, ho0, hb⟩; have n0_ := Aside0.mk (Kd.R_elder' (rr_ HO473.out) (Kd.R_base ho0) hb); have n1_ := Aside0.mk (Kd.R_lower (Kd.R_new' ho0 (Kd.R_lt (rr_ HO473.out))) (below_size bw_)); have n2_ := Aside0.mk (below_step bw_ hb); clear HO473; clear HB; have HO473 := n0_; have HO477 := n1_; have HB := n2_; clear n0_ n1_ n2_; (try clear hb); (try clear hb2); (try clear hk); (try clear hi); (try clear ho0)) | (go_at_call 64; (with_reducible refine (spec_StretchSpaces.calls k _ _ t470 t471 t478 t479 _ ?side1 ?side2 A7.out).mono ?_); (case side1 => exact cr_ (Kd.R_reads' HO473.out).2.2); (case side2 => exact (Kd.R_reads' HO473.out).2.1); rintro e w12 ⟨v480, rfl, ho0, hb⟩; have n0_ := Aside0.mk (Kd.R_elder' (rr_ HO473.out) (Kd.R_base ho0) hb); have n1_ := Aside0.mk (Kd.R_elder' (rr_ HO477.out) (Kd.R_base ho0) hb); have n2_ := Aside0.mk (Kd.R_lower (Kd.R_new' (Kd.R_new' ho0 (Kd.R_lt (rr_ HO473.out))) (Kd.R_lt (rr_ HO477.out))) (below_size bw_)); have n3_ := Aside0.mk (below_step bw_ hb); clear HO473; clear HO477; clear HB; have HO473 := n0_; have HO477 := n1_; have HO481 := n2_; have HB := n3_; clear n0_ n1_ n2_ n3_; (try clear hb); (try clear hb2); (try clear hk); (try clear hi); (try clear ho0))); go_upto_region 6 with (first | (go_at_call 6; (with_reducible refine (laws_big.calls _ _ l0 _ _ l1 false _ ?side1 ?side2 ?side3 ?side4 A3.out).mono ?_); (case side1 => exact cr_ HR0.out); (case side2 => exact HC0.out); (case side3 => exact cr_ HR1.out); (case side4 => exact HC1.out); rintro e w' ⟨rfl, ⟨nd, rfl⟩⟩; (try exact dd_)) | (go_at_call 62; (with_reducible refine (spec_DrawStretchSpaces.calls k _ _ l0 t470 t471 _ ?side1 ?side2 A5.out).mono ?_); (case side1 => exact cr_ HR0.out); (case side2 => exact HC0.out); rintro e w9 ⟨v472, rfl, ho0, hb⟩; have n0_ := Aside0.mk (Kd.R_lower ho0 (below_size bw_)); have n1_ := Aside0.mk (below_step bw_ hb); clear HB; have HO473 := n0_; have HB := n1_; clear n0_ n1_; (try clear hb); (try clear hb2); (try clear hk); (try clear hi); (try clear ho0); obtain ⟨Ao10, co10, eo10⟩ := Kd.R_slice HO473.out; subst eo10) | (go_at_call 63; (with_reducible refine (impl_StretchSpaces.calls k _ _ t470 t471 t474 t475 _ ?side1 ?side2 A6.out).mono ?_); (case side1 => exact cr_ (Kd.R_reads' HO473.out).2.2); (case side2 => exact (Kd.R_reads' HO473.out).2.1); rintro e w11 ⟨v476, rfl, ho0, hb⟩; have n0_ := Aside0.mk (Kd.R_elder' (rr_ HO473.out) (Kd.R_base ho0) hb); have n1_ := Aside0.mk (Kd.R_lower (Kd.R_new' ho0 (Kd.R_lt (rr_ HO473.out))) (below_size bw_)); have n2_ := Aside0.mk (below_step bw_ hb); clear HO473; clear HB; have HO473 := n0_; have HO477 := n1_; have HB := n2_; clear n0_ n1_ n2_; (try clear hb); (try clear hb2); (try clear hk); (try clear hi); (try clear ho0)) | (go_at_call 64; (with_reducible refine (spec_StretchSpaces.calls k _ _ t470 t471 t478 t479 _ ?side1 ?side2 A7.out).mono ?_); (case side1 => exact cr_ (Kd.R_reads' HO473.out).2.2); (case side2 => exact (Kd.R_reads' HO473.out).2.1); rintro e w12 ⟨v480, rfl, ho0, hb⟩; have n0_ := Aside0.mk (Kd.R_elder' (rr_ HO473.out) (Kd.R_base ho0) hb); have n1_ := Aside0.mk (Kd.R_elder' (rr_ HO477.out) (Kd.R_base ho0) hb); have n2_ := Aside0.mk (Kd.R_lower (Kd.R_new' (Kd.R_new' ho0 (Kd.R_lt (rr_ HO473.out))) (Kd.R_lt (rr_ HO477.out))) (below_size bw_)); have n3_ := Aside0.mk (below_step bw_ hb); clear HO473; clear HO477; clear HB; have HO473 := n0_; have HO477 := n1_; have HO481 := n2_; have HB := n3_; clear n0_ n1_ n2_ n3_; (try clear hb); (try clear hb2); (try clear hk); (try clear hi); (try clear ho0))))
  (try simp only [Act.put, List.setIfInBounds_toArray, List.set_cons_zero, List.set_cons_succ])
  go_cut [86] from 78 to 85 (fun v86 wc => ∃ (kq : Nat) (x86_7 : Bool), v86 = .bool x86_7 ∧ Aside0 (laws_FnLinesStretched.j0 kq l1 t470 t471 t474 t475 x86_7 = some r) ∧ Aside0 (kq ≤ k) ∧ Aside0 (Kd.R (Kd.int .i64) 3 wc w.heap.size (fun k_ => some k_ ≠ (v476 : Value).ownBlock) (.slice Ao10 t470.length co10) t470) ∧ Aside0 (Kd.R (Kd.int .i64) 3 wc w.heap.size (fun k_ => some k_ ≠ ((.slice Ao10 t470.length co10) : Value).ownBlock) v476 t474) ∧ Aside0 (Below w.heap.size w wc))
  case first => as_aux_lemma =>
   have H := HC8.out
   clear HC8
   by_cases c13 : (t475 != t479) = true
   ·rw [if_pos c13] at H
    have c13b0 : (t475 != t479) = true := c13
    (try (have c13b1 : decide (t475 = t479) = false := by simpa using c13))
    (try (have c13b2 : (t475 == t479) = false := by simpa using c13))
    (try (have c13b3 : ¬ (t475 = t479) := by simpa using c13))
    clear c13
    (first | rw [c13b0] | skip)
    exact (laws_FnLinesStretched.j0_no H hr_.out).elim
   ·rw [if_neg c13] at H
    have c13b0 : (t475 != t479) = false := by simpa using c13
    (try (have c13b1 : decide (t475 = t479) = true := by simpa using c13))
    (try (have c13b2 : (t475 == t479) = true := by simpa using c13))
    clear c13
    (first | rw [c13b0] | skip)
    replace H := Option.bind_eq_some_iff.mp H
    obtain ⟨t482, A140, H⟩ := H
    (try dsimp only at H)
    have A14 := Aside0.mk A140
    clear A140
    have H' := Aside0.mk H
    clear H
    obtain ⟨Ao15, co15, eo15⟩ := Kd.R_slice HO477.out
    subst eo15
    obtain ⟨Ao16, co16, eo16⟩ := Kd.R_slice HO481.out
    subst eo16
    go_wp2_with (first | (go_at_call 12; (with_reducible refine (laws_xSame.calls k _ _ t474 _ _ t478 t482 _ ?side1 ?side2 ?side3 ?side4 A14.out).mono ?_); (case side1 => exact cr_ (Kd.R_reads' HO477.out).2.2); (case side2 => exact (Kd.R_reads' HO477.out).2.1); (case side3 => exact cr_ (Kd.R_reads' HO481.out).2.2); (case side4 => exact (Kd.R_reads' HO481.out).2.1); rintro e w' ⟨rfl, ⟨nd, rfl⟩⟩; (try exact dd_)))
    repeat (go_quiet (first | (go_at_call 12; (with_reducible refine (laws_xSame.calls k _ _ t474 _ _ t478 t482 _ ?side1 ?side2 ?side3 ?side4 A14.out).mono ?_); (case side1 => exact cr_ (Kd.R_reads' HO477.out).2.2); (case side2 => exact (Kd.R_reads' HO477.out).2.1); (case side3 => exact cr_ (Kd.R_reads' HO481.out).2.2); (case side4 => exact (Kd.R_reads' HO481.out).2.1); rintro e w' ⟨rfl, ⟨nd, rfl⟩⟩; (try exact dd_))); try go_wp2_with (first | (go_at_call 12; (with_reducible refine (laws_xSame.calls k _ _ t474 _ _ t478 t482 _ ?side1 ?side2 ?side3 ?side4 A14.out).mono ?_); (case side1 => exact cr_ (Kd.R_reads' HO477.out).2.2); (case side2 => exact (Kd.R_reads' HO477.out).2.1); (case side3 => exact cr_ (Kd.R_reads' HO481.out).2.2); (case side4 => exact (Kd.R_reads' HO481.out).2.1); rintro e w' ⟨rfl, ⟨nd, rfl⟩⟩; (try exact dd_))))
    go_meet
    case rel => exact ⟨_, (!t482), rs_, H', ⟨by first | omega | exact Nat.le_refl _⟩, ⟨by (with_reducible repeat (first | apply Kd.R_alloc | apply Kd.R_drewN | apply Kd.R_drew)); exact Kd.R_mono HO473.out (fun _ hk => hk.1.2)⟩, ⟨by (with_reducible repeat (first | apply Kd.R_alloc | apply Kd.R_drewN | apply Kd.R_drew)); exact Kd.R_mono HO477.out (fun _ hk => hk.1.2)⟩, ⟨bw_⟩⟩
  case rest =>
   clear HC8
   (try clear c1); (try clear p2); (try clear c4); (try clear c5); (try clear c13); (try clear c13b0); (try clear c13b1); (try clear c13b2)
   obtain ⟨kq, x86_7, rfl, HA, HJ7, HO_5, HO_7, HB⟩ := hcut
   cases kq with
   | zero => exact absurd HA.out (by simp [laws_FnLinesStretched.j0])
   | succ kj7 =>
    have H := HA.out
    clear HA
    simp only [laws_FnLinesStretched.j0] at H
    by_cases c17 : x86_7 = true
    ·subst c17
     have H1 : (some false) = some r := by rw [if_pos rfl] at H; exact H
     clear H
     have H := H1
     clear H1
     obtain rfl := Option.some.inj H
     exact absurd hr_.out (by decide)
    ·replace c17 := Bool.eq_false_iff.mpr c17
     subst c17
     have H1 : (if t475 = true then (if (t474.length : Int) = (wrap64 ((t470.length : Int) - 1)) then ((laws_xSum.f kj7 t474).bind fun t483 => ((laws_xSum.f kj7 t470).bind fun t484 => (laws_FnLinesStretched.j1 kj7 l1 t474 ((wrap64 (t483 + t484)) != t471)))) else (laws_FnLinesStretched.j1 kj7 l1 t474 true)) else (laws_FnLinesStretched.j3 kj7 l1)) = some r := by rw [if_neg (show ¬ (false = true) by decide)] at H; exact H
     clear H
     have H := H1
     clear H1
     have HC18 := Aside0.mk H
     clear H
     go_upto_if 87 with (fail)
     repeat (go_quiet (fail); go_upto_if 87 with (fail))
     go_cut [11, 12] from 88 to 133 (fun v11 v12 wc => ∃ (kq : Nat), Aside0 (laws_FnLinesStretched.j3 kq l1 = some r) ∧ Aside0 (kq ≤ kj7) ∧ Aside0 (Below w.heap.size w wc))
     case first => as_aux_lemma =>
      have H := HC18.out
      clear HC18
      by_cases c19 : t475 = true
      ·subst c19
       have H1 : (if (t474.length : Int) = (wrap64 ((t470.length : Int) - 1)) then ((laws_xSum.f kj7 t474).bind fun t483 => ((laws_xSum.f kj7 t470).bind fun t484 => (laws_FnLinesStretched.j1 kj7 l1 t474 ((wrap64 (t483 + t484)) != t471)))) else (laws_FnLinesStretched.j1 kj7 l1 t474 true)) = some r := by rw [if_pos rfl] at H; exact H
       clear H
       have H := H1
       clear H1
       have HC20 := Aside0.mk H
       clear H
       go_upto_region 9 with (fail)
       repeat (go_quiet (fail); go_upto_region 9 with (fail))
       go_cut [102] from 88 to 101 (fun v102 wc => ∃ (kq : Nat) (x102_19 : Bool), v102 = .bool x102_19 ∧ Aside0 (laws_FnLinesStretched.j1 kq l1 t474 x102_19 = some r) ∧ Aside0 (kq ≤ kj7) ∧ Aside0 (Kd.R (Kd.int .i64) 3 wc w.heap.size (fun _ => True) v476 t474) ∧ Aside0 (Below w.heap.size w wc))
       case first => as_aux_lemma =>
        have H := HC20.out
        clear HC20
        by_cases c21 : (t474.length : Int) = (wrap64 ((t470.length : Int) - 1))
        ·rw [if_pos c21] at H
         have c21b0 : ((t474.length : Int) == (wrap64 ((t470.length : Int) - 1))) = true := beq_iff_eq.mpr c21
         have c21b1 : ((t474.length : Int) != (wrap64 ((t470.length : Int) - 1))) = false := bne_eq_false_iff_eq.mpr c21
         clear c21
         (first | rw [c21b0] | skip)
         replace H := Option.bind_eq_some_iff.mp H
         obtain ⟨t483, A220, H⟩ := H
         (try dsimp only at H)
         have A22 := Aside0.mk A220
         clear A220
         replace H := Option.bind_eq_some_iff.mp H
         obtain ⟨t484, A230, H⟩ := H
         (try dsimp only at H)
         have A23 := Aside0.mk A230
         clear A230
         have H' := Aside0.mk H
         clear H
         obtain ⟨Ao24, co24, eo24⟩ := Kd.R_slice HO_7.out
         subst eo24
         go_wp2_with (first | (go_at_call 13; (with_reducible refine (laws_xSum.calls kj7 _ _ t474 t483 _ ?side1 ?side2 A22.out).mono ?_); (case side1 => exact cr_ (Kd.R_reads' HO_7.out).2.2); (case side2 => exact (Kd.R_reads' HO_7.out).2.1); rintro e w' ⟨rfl, ⟨nd, rfl⟩⟩; (try exact dd_)) | (go_at_call 13; (with_reducible refine (laws_xSum.calls kj7 _ _ t470 t484 _ ?side1 ?side2 A23.out).mono ?_); (case side1 => exact cr_ (Kd.R_reads' HO_5.out).2.2); (case side2 => exact (Kd.R_reads' HO_5.out).2.1); rintro e w' ⟨rfl, ⟨nd, rfl⟩⟩; (try exact dd_)))
         repeat (go_quiet (first | (go_at_call 13; (with_reducible refine (laws_xSum.calls kj7 _ _ t474 t483 _ ?side1 ?side2 A22.out).mono ?_); (case side1 => exact cr_ (Kd.R_reads' HO_7.out).2.2); (case side2 => exact (Kd.R_reads' HO_7.out).2.1); rintro e w' ⟨rfl, ⟨nd, rfl⟩⟩; (try exact dd_)) | (go_at_call 13; (with_reducible refine (laws_xSum.calls kj7 _ _ t470 t484 _ ?side1 ?side2 A23.out).mono ?_); (case side1 => exact cr_ (Kd.R_reads' HO_5.out).2.2); (case side2 => exact (Kd.R_reads' HO_5.out).2.1); rintro e w' ⟨rfl, ⟨nd, rfl⟩⟩; (try exact dd_))); try go_wp2_with (first | (go_at_call 13; (with_reducible refine (laws_xSum.calls kj7 _ _ t474 t483 _ ?side1 ?side2 A22.out).mono ?_); (case side1 => exact cr_ (Kd.R_reads' HO_7.out).2.2); (case side2 => exact (Kd.R_reads' HO_7.out).2.1); rintro e w' ⟨rfl, ⟨nd, rfl⟩⟩; (try exact dd_)) | (go_at_call 13; (with_reducible refine (laws_xSum.calls kj7 _ _ t470 t484 _ ?side1 ?side2 A23.out).mono ?_); (case side1 => exact cr_ (Kd.R_reads' HO_5.out).2.2); (case side2 => exact (Kd.R_reads' HO_5.out).2.1); rintro e w' ⟨rfl, ⟨nd, rfl⟩⟩; (try exact dd_))))
         go_meet
         case rel => exact ⟨_, (((wrap64 (t483 + t484)) != t471)), rs_, H', ⟨by have := HJ7.out; first | omega | exact Nat.le_refl _⟩, ⟨by (with_reducible repeat (first | apply Kd.R_alloc | apply Kd.R_drewN | apply Kd.R_drew)); exact Kd.R_mono HO_7.out (fun _ hk => trivial)⟩, ⟨bw_⟩⟩
        ·rw [if_neg c21] at H
         have c21b0 : ((t474.length : Int) == (wrap64 ((t470.length : Int) - 1))) = false := beq_eq_false_iff_ne.mpr c21
         have c21b1 : ((t474.length : Int) != (wrap64 ((t470.length : Int) - 1))) = true := bne_iff_ne.mpr c21
         (first | rw [c21b0] | skip)
         exact (laws_FnLinesStretched.j1_no H hr_.out).elim
       case rest =>
        clear HC20
        (try clear c1); (try clear c2); (try clear p2); (try clear c4); (try clear c5); (try clear p6); (try clear c13); (try clear c13b0); (try clear c13b1); (try clear c13b2); (try clear c17); (try clear c19); (try clear c21); (try clear c21b0); (try clear c21b1)
        obtain ⟨kq, x102_19, rfl, HA, HJ19, HO_7, HB⟩ := hcut
        cases kq with
        | zero => exact absurd HA.out (by simp [laws_FnLinesStretched.j1])
        | succ kj19 =>
         have H := HA.out
         clear HA
         simp only [laws_FnLinesStretched.j1] at H
         by_cases c26 : x102_19 = true
         ·subst c26
          have H1 : (some false) = some r := by rw [if_pos rfl] at H; exact H
          clear H
          have H := H1
          clear H1
          obtain rfl := Option.some.inj H
          exact absurd hr_.out (by decide)
         ·replace c26 := Bool.eq_false_iff.mpr c26
          subst c26
          have H1 : (laws_FnLinesStretched.l0 kj19 l1 t474 t474 (t474.length : Int) 0) = some r := by rw [if_neg (show ¬ (false = true) by decide)] at H; exact H
          clear H
          have H := H1
          clear H1
          have H' := Aside0.mk H
          clear H
          obtain ⟨Ao27, co27, eo27⟩ := Kd.R_slice HO_7.out
          subst eo27
          go_wp2
          repeat (go_quiet (fail); try go_wp2)
          go_loopg [105] kj19 (fun kq v105 w' => ∃ (x105_3 : Int), v105 = .int .i64 x105_3 ∧ Aside0 (laws_FnLinesStretched.l0 kq l1 t474 t474 (t474.length : Int) x105_3 = some r) ∧ Aside0 (kq ≤ kj19) ∧ Aside0 (Kd.R (Kd.int .i64) 3 w' w.heap.size (fun _ => True) (.slice Ao27 t474.length co27) t474) ∧ Aside0 (Kd.R (Kd.int .i64) 3 w' w.heap.size (fun _ => True) (.slice Ao27 t474.length co27) t474) ∧ Aside0 (Below w.heap.size w w'))
          case atStart => exact ⟨(0), rs_, H', ⟨Nat.le_refl _⟩, ⟨rr_ HO_7.out⟩, ⟨rr_ HO_7.out⟩, ⟨bw_⟩⟩
          case round =>
           clear H'
           (try clear c1); (try clear c2); (try clear p2); (try clear c4); (try clear c5); (try clear p6); (try clear c13); (try clear c13b0); (try clear c13b1); (try clear c13b2); (try clear c17); (try clear c19); (try clear c21); (try clear c21b0); (try clear c21b1); (try clear c26)
           obtain ⟨x105_3, rfl, HA, HK3, HO_7, HO_103, HB⟩ := hrel
           cases gk with
           | zero => exact absurd HA.out (by simp [laws_FnLinesStretched.l0])
           | succ k3 =>
            have H := HA.out
            clear HA
            simp only [laws_FnLinesStretched.l0] at H
            by_cases c28 : x105_3 < (t474.length : Int)
            ·rw [if_pos c28] at H
             have c28b0 : decide (x105_3 < (t474.length : Int)) = true := decide_eq_true c28
             clear c28
             by_cases c29 : 0 ≤ x105_3
             ·rw [if_pos c29] at H
              have c29b0 : decide (0 ≤ x105_3) = true := decide_eq_true c29
              clear c29
              by_cases c30 : x105_3 < (t474.length : Int)
              ·rw [if_pos c30] at H
               have c30b0 : decide (x105_3 < (t474.length : Int)) = true := decide_eq_true c30
               clear c30
               by_cases c31 : (rd t474 x105_3) < 1
               ·rw [if_pos c31] at H
                have c31b0 : decide ((rd t474 x105_3) < 1) = true := decide_eq_true c31
                clear c31
                obtain rfl := Option.some.inj H
                exact absurd hr_.out (by decide)
               ·rw [if_neg c31] at H
                have c31b0 : decide ((rd t474 x105_3) < 1) = false := decide_eq_false c31
                clear c31
                by_cases c32 : 0 < (t474.length : Int)
                ·rw [if_pos c32] at H
                 have c32b0 : decide (0 < (t474.length : Int)) = true := decide_eq_true c32
                 have c32b1 : decide (0 < t474.length) = true := decide_eq_true (by omega)
                 clear c32
                 by_cases c33 : (wrap64 ((rd t474 0) - (rd t474 x105_3))) > 1
                 ·rw [if_pos c33] at H
                  have c33b0 : decide (1 < (wrap64 ((rd t474 0) - (rd t474 x105_3)))) = true := decide_eq_true c33
                  clear c33
                  obtain rfl := Option.some.inj H
                  exact absurd hr_.out (by decide)
                 ·rw [if_neg c33] at H
                  have c33b0 : decide (1 < (wrap64 ((rd t474 0) - (rd t474 x105_3)))) = false := decide_eq_false c33
                  clear c33
                  by_cases c34 : x105_3 > 0
                  ·rw [if_pos c34] at H
                   have c34b0 : decide (0 < x105_3) = true := decide_eq_true c34
                   clear c34
                   obtain ⟨ji35, hji35⟩ : ∃ j_ : Int, (wrap64 (x105_3 - 1)) = j_ := ⟨_, rfl⟩
                   replace H : (if 0 ≤ (ji35) then (if (ji35) < (t474.length : Int) then (if (rd t474 (ji35)) < (rd t474 x105_3) then (some false) else (laws_FnLinesStretched.l0 k3 l1 t474 t474 (t474.length : Int) (wrap64 (x105_3 + 1)))) else (none)) else (none)) = some r := by first | (rw [hji35] at H; exact H) | (simp only [hji35] at H ⊢; exact H)
                   have hji35w : (IntKind.i64.wrap (x105_3 - 1)) = ji35 := (i64_w _).trans hji35
                   by_cases c36 : 0 ≤ (ji35)
                   ·rw [if_pos c36] at H
                    have c36b0 : decide (0 ≤ (ji35)) = true := decide_eq_true c36
                    clear c36
                    by_cases c37 : (ji35) < (t474.length : Int)
                    ·rw [if_pos c37] at H
                     have c37b0 : decide ((ji35) < (t474.length : Int)) = true := decide_eq_true c37
                     clear c37
                     by_cases c38 : (rd t474 (ji35)) < (rd t474 x105_3)
                     ·rw [if_pos c38] at H
                      have c38b0 : decide ((rd t474 (ji35)) < (rd t474 x105_3)) = true := decide_eq_true c38
                      clear c38
                      obtain rfl := Option.some.inj H
                      exact absurd hr_.out (by decide)
                     ·rw [if_neg c38] at H
                      have c38b0 : decide ((rd t474 (ji35)) < (rd t474 x105_3)) = false := decide_eq_false c38
                      clear c38
                      have H' := Aside0.mk H
                      clear H
                      have p485 : 0 ≤ (x105_3 : Int) := of_decide_eq_true (by first | (with_reducible assumption) | assumption)
                      have q485 : x105_3 < (t474.length : Int) := of_decide_eq_true (by first | (with_reducible assumption) | assumption)
                      obtain ⟨ad485, e485, hx485_0⟩ := Kd.at_int (Kd.R_reads' HO_103.out).2.2 x105_3 p485 q485
                      cases e485
                      replace p485 := eq_true p485
                      replace q485 := eq_true q485
                      have p486 : 0 ≤ (0 : Int) := (by omega)
                      have q486 : 0 < (t474.length : Int) := of_decide_eq_true (by first | (with_reducible assumption) | assumption)
                      obtain ⟨ad486, e486, hx486_0⟩ := Kd.at_int (Kd.R_reads' HO_7.out).2.2 0 p486 q486
                      obtain rfl : ad485 = ad486 := (by injection e486)
                      have qi486 : (0 < t474.length) = True := eq_true (by omega)
                      (try rw [show ((0 : Int)).toNat = 0 from rfl] at hx486_0)
                      (try rw [Addr.add_zero'] at hx486_0)
                      replace p486 := eq_true p486
                      replace q486 := eq_true q486
                      have p487 : 0 ≤ ((ji35) : Int) := of_decide_eq_true (by first | (with_reducible assumption) | assumption)
                      have q487 : (ji35) < (t474.length : Int) := of_decide_eq_true (by first | (with_reducible assumption) | assumption)
                      obtain ⟨ad487, e487, hx487_0⟩ := Kd.at_int (Kd.R_reads' HO_7.out).2.2 (ji35) p487 q487
                      obtain rfl : ad485 = ad487 := (by injection e487)
                      replace p487 := eq_true p487
                      replace q487 := eq_true q487
                      go_wp2
                      repeat (go_quiet (fail); try go_wp2)
                      go_roundg k3
                      case measure => have := HJ7.out; have := HJ19.out; have := HK3.out; omega
                      case rel => exact ⟨(wrap64 (x105_3 + 1)), rs_, H', ⟨by have := HJ7.out; have := HJ19.out; have := HK3.out; omega⟩, ⟨rr_ HO_7.out⟩, ⟨rr_ HO_103.out⟩, ⟨bw_⟩⟩
                    ·rw [if_neg c37] at H
                     exact absurd H (by simp)
                   ·rw [if_neg c36] at H
                    exact absurd H (by simp)
                  ·rw [if_neg c34] at H
                   have c34b0 : decide (0 < x105_3) = false := decide_eq_false c34
                   clear c34
                   have H' := Aside0.mk H
                   clear H
                   have p485 : 0 ≤ (x105_3 : Int) := of_decide_eq_true (by first | (with_reducible assumption) | assumption)
                   have q485 : x105_3 < (t474.length : Int) := of_decide_eq_true (by first | (with_reducible assumption) | assumption)
                   obtain ⟨ad485, e485, hx485_0⟩ := Kd.at_int (Kd.R_reads' HO_103.out).2.2 x105_3 p485 q485
                   cases e485
                   replace p485 := eq_true p485
                   replace q485 := eq_true q485
                   have p486 : 0 ≤ (0 : Int) := (by omega)
                   have q486 : 0 < (t474.length : Int) := of_decide_eq_true (by first | (with_reducible assumption) | assumption)
                   obtain ⟨ad486, e486, hx486_0⟩ := Kd.at_int (Kd.R_reads' HO_7.out).2.2 0 p486 q486
                   obtain rfl : ad485 = ad486 := (by injection e486)
                   have qi486 : (0 < t474.length) = True := eq_true (by omega)
                   (try rw [show ((0 : Int)).toNat = 0 from rfl] at hx486_0)
                   (try rw [Addr.add_zero'] at hx486_0)
                   replace p486 := eq_true p486
                   replace q486 := eq_true q486
                   go_wp2
                   repeat (go_quiet (fail); try go_wp2)
                   go_roundg k3
                   case measure => have := HJ7.out; have := HJ19.out; have := HK3.out; omega
                   case rel => exact ⟨(wrap64 (x105_3 + 1)), rs_, H', ⟨by have := HJ7.out; have := HJ19.out; have := HK3.out; omega⟩, ⟨rr_ HO_7.out⟩, ⟨rr_ HO_103.out⟩, ⟨bw_⟩⟩
                ·rw [if_neg c32] at H
                 exact absurd H (by simp)
              ·rw [if_neg c30] at H
               exact absurd H (by simp)
             ·rw [if_neg c29] at H
              exact absurd H (by simp)
            ·rw [if_neg c28] at H
             have c28b0 : decide (x105_3 < (t474.length : Int)) = false := decide_eq_false c28
             clear c28
             have H' := Aside0.mk H
             clear H
             go_wp2
             repeat (go_quiet (fail); try go_wp2)
             go_meet
             case rel => exact ⟨_, H', ⟨by have := HJ7.out; have := HJ19.out; have := HK3.out; first | omega | exact Nat.le_refl _⟩, ⟨bw_⟩⟩
      ·replace c19 := Bool.eq_false_iff.mpr c19
       subst c19
       have H1 : (laws_FnLinesStretched.j3 kj7 l1) = some r := by rw [if_neg (show ¬ (false = true) by decide)] at H; exact H
       clear H
       have H := H1
       clear H1
       have H' := Aside0.mk H
       clear H
       go_wp2
       repeat (go_quiet (fail); try go_wp2)
       go_meet
       case rel => exact ⟨_, H', ⟨by have := HJ7.out; first | omega | exact Nat.le_refl _⟩, ⟨bw_⟩⟩
     case rest =>
      clear HC18
      (try clear c1); (try clear c2); (try clear p2); (try clear c3); (try clear c4); (try clear p4); (try clear q4); (try clear hx4); (try clear qi4); (try clear c5); (try clear p6); (try clear c13); (try clear c13b0); (try clear c13b1); (try clear c13b2); (try clear c17); (try clear c19); (try clear c21); (try clear c21b0); (try clear c21b1); (try clear c26); (try clear c28); (try clear c28b0); (try clear c29); (try clear c29b0); (try clear c30); (try clear c30b0); (try clear c31); (try clear c31b0); (try clear c32); (try clear c32b0); (try clear c32b1); (try clear c33); (try clear c33b0); (try clear c34); (try clear c34b0); (try clear c36); (try clear c36b0); (try clear c37); (try clear c37b0); (try clear c38); (try clear c38b0); (try clear hx485_0); (try clear hx486_0); (try clear hx487_0); (try clear p485); (try clear p486); (try clear p487); (try clear q485); (try clear q486); (try clear q487)
      obtain ⟨kq, HA, HJ17, HB⟩ := hcut
      cases kq with
      | zero => exact absurd HA.out (by simp [laws_FnLinesStretched.j3])
      | succ kj17 =>
       have H := HA.out
       clear HA
       simp only [laws_FnLinesStretched.j3] at H
       replace H := Option.bind_eq_some_iff.mp H
       obtain ⟨⟨t488, t489⟩, A390, H⟩ := H
       (try dsimp only at H)
       have A39 := Aside0.mk A390
       clear A390
       replace H := Option.bind_eq_some_iff.mp H
       obtain ⟨⟨t490, t491⟩, A400, H⟩ := H
       (try dsimp only at H)
       have A40 := Aside0.mk A400
       clear A400
       replace H := Option.bind_eq_some_iff.mp H
       obtain ⟨⟨t492, t493⟩, A410, H⟩ := H
       (try dsimp only at H)
       have A41 := Aside0.mk A410
       clear A410
       replace H := Option.bind_eq_some_iff.mp H
       obtain ⟨⟨t494, t495⟩, A420, H⟩ := H
       (try dsimp only at H)
       have A42 := Aside0.mk A420
       clear A420
       replace H := Option.bind_eq_some_iff.mp H
       obtain ⟨⟨t496, t497⟩, A430, H⟩ := H
       (try dsimp only at H)
       have A43 := Aside0.mk A430
       clear A430
       replace H := Option.bind_eq_some_iff.mp H
       obtain ⟨⟨t498, t499⟩, A440, H⟩ := H
       (try dsimp only at H)
       have A44 := Aside0.mk A440
       clear A440
       replace H := Option.bind_eq_some_iff.mp H
       obtain ⟨⟨t500, t501⟩, A450, H⟩ := H
       (try dsimp only at H)
       have A45 := Aside0.mk A450
       clear A450
       replace H := Option.bind_eq_some_iff.mp H
       obtain ⟨⟨t504, t505⟩, A460, H⟩ := H
       (try dsimp only at H)
       have A46 := Aside0.mk A460
       clear A460
       replace H := Option.bind_eq_some_iff.mp H
       obtain ⟨⟨t508, t509⟩, A470, H⟩ := H
       (try dsimp only at H)
       have A47 := Aside0.mk A470
       clear A470
       replace H := Option.bind_eq_some_iff.mp H
       obtain ⟨⟨t512, t513⟩, A480, H⟩ := H
       (try dsimp only at H)
       have A48 := Aside0.mk A480
       clear A480
       replace H := Option.bind_eq_some_iff.mp H
       obtain ⟨⟨t516, t517⟩, A490, H⟩ := H
       (try dsimp only at H)
       have A49 := Aside0.mk A490
       clear A490
       replace H := Option.bind_eq_some_iff.mp H
       obtain ⟨⟨t520, t521⟩, A500, H⟩ := H
       (try dsimp only at H)
       have A50 := Aside0.mk A500
       clear A500
       replace H := Option.bind_eq_some_iff.mp H
       obtain ⟨⟨t522, t523⟩, A510, H⟩ := H
       (try dsimp only at H)
       have A51 := Aside0.mk A510
       clear A510
       replace H := Option.bind_eq_some_iff.mp H
       obtain ⟨⟨t524, t525⟩, A520, H⟩ := H
       (try dsimp only at H)
       have A52 := Aside0.mk A520
       clear A520
       replace H := Option.bind_eq_some_iff.mp H
       obtain ⟨⟨t528, t529⟩, A530, H⟩ := H
       (try dsimp only at H)
       have A53 := Aside0.mk A530
       clear A530
       have HC54 := Aside0.mk H
       clear H
       go_upto_region 32 with (first | (go_at_call 65; (with_reducible refine (spec_DrawStretchText.calls kj17 _ _ l1 t488 t489 _ ?side1 ?side2 A39.out).mono ?_); (case side1 => exact cr_ (Kd.C_below HR1.out HB.out)); (case side2 => exact HC1.out); rintro e w55 ⟨rfl, hb⟩; have n0_ := Aside0.mk (below_step bw_ hb); clear HB; have HB := n0_; clear n0_; (try clear hb); (try clear hb2); (try clear hk); (try clear hi)) | (go_at_call 66; (with_reducible refine (impl_StretchText.calls kj17 t488 t489 t490 t491 _ ?side1 A40.out).mono ?_); (case side1 => exact TabA.below HT.out bw_); rintro e w56 ⟨rfl, hb⟩; have n0_ := Aside0.mk (below_step bw_ hb); clear HB; have HB := n0_; clear n0_; (try clear hb); (try clear hb2); (try clear hk); (try clear hi)) | (go_at_call 67; (with_reducible refine (spec_StretchText.calls kj17 t488 t489 t492 t493 _ A41.out).mono ?_); rintro e w57 ⟨rfl, hb⟩; have n0_ := Aside0.mk (below_step bw_ hb); clear HB; have HB := n0_; clear n0_; (try clear hb); (try clear hb2); (try clear hk); (try clear hi)) | (go_at_call 68; (with_reducible refine (spec_DrawCentreText.calls kj17 _ _ l1 t494 t495 _ ?side1 ?side2 A42.out).mono ?_); (case side1 => exact cr_ (Kd.C_below HR1.out HB.out)); (case side2 => exact HC1.out); rintro e w58 ⟨rfl, hb⟩; have n0_ := Aside0.mk (below_step bw_ hb); clear HB; have HB := n0_; clear n0_; (try clear hb); (try clear hb2); (try clear hk); (try clear hi)) | (go_at_call 69; (with_reducible refine (impl_CentreText.calls kj17 t494 t495 t496 t497 _ ?side1 A43.out).mono ?_); (case side1 => exact TabA.below HT.out bw_); rintro e w59 ⟨rfl, hb⟩; have n0_ := Aside0.mk (below_step bw_ hb); clear HB; have HB := n0_; clear n0_; (try clear hb); (try clear hb2); (try clear hk); (try clear hi)) | (go_at_call 70; (with_reducible refine (spec_CentreText.calls kj17 t494 t495 t498 t499 _ A44.out).mono ?_); rintro e w' ⟨rfl, ⟨nd, rfl⟩⟩; (try exact dd_)) | (go_at_call 71; (with_reducible refine (spec_DrawParagraphBreaks.calls kj17 _ _ l1 t500 t501 _ ?side1 ?side2 A45.out).mono ?_); (case side1 => exact cr_ (Kd.C_below HR1.out bw_)); (case side2 => exact HC1.out); rintro e w60 ⟨v502, rfl, ho0, hb⟩; have n0_ := Aside0.mk (Kd.R_lower ho0 (below_size bw_)); have n1_ := Aside0.mk (below_step bw_ hb); clear HB; have HO503 := n0_; have HB := n1_; clear n0_ n1_; (try clear hb); (try clear hb2); (try clear hk); (try clear hi); (try clear ho0); obtain ⟨Ao61, co61, eo61⟩ := Kd.R_slice HO503.out; subst eo61) | (go_at_call 72; (with_reducible refine (impl_ParagraphBreaks.calls kj17 _ _ t500 t501 t504 t505 _ ?side1 ?side2 A46.out).mono ?_); (case side1 => exact cr_ (Kd.R_reads' HO503.out).2.2); (case side2 => exact (Kd.R_reads' HO503.out).2.1); rintro e w62 ⟨v506, rfl, ho0, hb⟩; have n0_ := Aside0.mk (Kd.R_elder' (rr_ HO503.out) (Kd.R_base ho0) hb); have n1_ := Aside0.mk (Kd.R_lower (Kd.R_new' ho0 (Kd.R_lt (rr_ HO503.out))) (below_size bw_)); have n2_ := Aside0.mk (below_step bw_ hb); clear HO503; clear HB; have HO503 := n0_; have HO507 := n1_; have HB := n2_; clear n0_ n1_ n2_; (try clear hb); (try clear hb2); (try clear hk); (try clear hi); (try clear ho0)) | (go_at_call 73; (with_reducible refine (spec_ParagraphBreaks.calls kj17 _ _ t500 t501 t508 t509 _ ?side1 ?side2 A47.out).mono ?_); (case side1 => exact cr_ (Kd.R_reads' HO503.out).2.2); (case side2 => exact (Kd.R_reads' HO503.out).2.1); rintro e w63 ⟨v510, rfl, ho0, hb⟩; have n0_ := Aside0.mk (Kd.R_elder' (rr_ HO503.out) (Kd.R_base ho0) hb); have n1_ := Aside0.mk (Kd.R_elder' (rr_ HO507.out) (Kd.R_base ho0) hb); have n2_ := Aside0.mk (Kd.R_lower (Kd.R_new' (Kd.R_new' ho0 (Kd.R_lt (rr_ HO503.out))) (Kd.R_lt (rr_ HO507.out))) (below_size bw_)); have n3_ := Aside0.mk (below_step bw_ hb); clear HO503; clear HO507; clear HB; have HO503 := n0_; have HO507 := n1_; have HO511 := n2_; have HB := n3_; clear n0_ n1_ n2_ n3_; (try clear hb); (try clear hb2); (try clear hk); (try clear hi); (try clear ho0)) | (go_at_call 74; (with_reducible refine (impl_BreaksAllowed.calls kj17 _ _ t500 t501 t512 t513 _ ?side1 ?side2 A48.out).mono ?_); (case side1 => exact cr_ (Kd.R_reads' HO503.out).2.2); (case side2 => exact (Kd.R_reads' HO503.out).2.1); rintro e w64 ⟨v514, rfl, ho0, hb⟩; have n0_ := Aside0.mk (Kd.R_elder' (rr_ HO503.out) (Kd.R_base ho0) hb); have n1_ := Aside0.mk (Kd.R_elder' (rr_ HO507.out) (Kd.R_base ho0) hb); have n2_ := Aside0.mk (Kd.R_elder' (rr_ HO511.out) (Kd.R_base ho0) hb); have n3_ := Aside0.mk (Kd.R_lower (Kd.R_new' (Kd.R_new' (Kd.R_new' ho0 (Kd.R_lt (rr_ HO503.out))) (Kd.R_lt (rr_ HO507.out))) (Kd.R_lt (rr_ HO511.out))) (below_size bw_)); have n4_ := Aside0.mk (below_step bw_ hb); clear HO503; clear HO507; clear HO511; clear HB; have HO503 := n0_; have HO507 := n1_; have HO511 := n2_; have HO515 := n3_; have HB := n4_; clear n0_ n1_ n2_ n3_ n4_; (try clear hb); (try clear hb2); (try clear hk); (try clear hi); (try clear ho0)) | (go_at_call 75; (with_reducible refine (spec_BreaksAllowed.calls kj17 _ _ t500 t501 t516 t517 _ ?side1 ?side2 A49.out).mono ?_); (case side1 => exact cr_ (Kd.R_reads' HO503.out).2.2); (case side2 => exact (Kd.R_reads' HO503.out).2.1); rintro e w65 ⟨v518, rfl, ho0, hb⟩; have n0_ := Aside0.mk (Kd.R_elder' (rr_ HO503.out) (Kd.R_base ho0) hb); have n1_ := Aside0.mk (Kd.R_elder' (rr_ HO507.out) (Kd.R_base ho0) hb); have n2_ := Aside0.mk (Kd.R_elder' (rr_ HO511.out) (Kd.R_base ho0) hb); have n3_ := Aside0.mk (Kd.R_elder' (rr_ HO515.out) (Kd.R_base ho0) hb); have n4_ := Aside0.mk (Kd.R_lower (Kd.R_new' (Kd.R_new' (Kd.R_new' (Kd.R_new' ho0 (Kd.R_lt (rr_ HO503.out))) (Kd.R_lt (rr_ HO507.out))) (Kd.R_lt (rr_ HO511.out))) (Kd.R_lt (rr_ HO515.out))) (below_size bw_)); have n5_ := Aside0.mk (below_step bw_ hb); clear HO503; clear HO507; clear HO511; clear HO515; clear HB; have HO503 := n0_; have HO507 := n1_; have HO511 := n2_; have HO515 := n3_; have HO519 := n4_; have HB := n5_; clear n0_ n1_ n2_ n3_ n4_ n5_; (try clear hb); (try clear hb2); (try clear hk); (try clear hi); (try clear ho0)) | (go_at_call 76; (with_reducible refine (impl_PagesOfParagraphs.calls kj17 _ _ t500 t501 t520 t521 _ ?side1 ?side2 A50.out).mono ?_); (case side1 => exact cr_ (Kd.R_reads' HO503.out).2.2); (case side2 => exact (Kd.R_reads' HO503.out).2.1); rintro e w66 ⟨rfl, hb⟩; have n0_ := Aside0.mk (Kd.R_below (rr_ HO503.out) hb); have n1_ := Aside0.mk (Kd.R_below (rr_ HO507.out) hb); have n2_ := Aside0.mk (Kd.R_below (rr_ HO511.out) hb); have n3_ := Aside0.mk (Kd.R_below (rr_ HO515.out) hb); have n4_ := Aside0.mk (Kd.R_below (rr_ HO519.out) hb); have n5_ := Aside0.mk (below_step bw_ hb); clear HO503; clear HO507; clear HO511; clear HO515; clear HO519; clear HB; have HO503 := n0_; have HO507 := n1_; have HO511 := n2_; have HO515 := n3_; have HO519 := n4_; have HB := n5_; clear n0_ n1_ n2_ n3_ n4_ n5_; (try clear hb); (try clear hb2); (try clear hk); (try clear hi)) | (go_at_call 77; (with_reducible refine (spec_PagesOfParagraphs.calls kj17 _ _ t500 t501 t522 t523 _ ?side1 ?side2 A51.out).mono ?_); (case side1 => exact cr_ (Kd.R_reads' HO503.out).2.2); (case side2 => exact (Kd.R_reads' HO503.out).2.1); rintro e w67 ⟨rfl, hb⟩; have n0_ := Aside0.mk (Kd.R_below (rr_ HO503.out) hb); have n1_ := Aside0.mk (Kd.R_below (rr_ HO507.out) hb); have n2_ := Aside0.mk (Kd.R_below (rr_ HO511.out) hb); have n3_ := Aside0.mk (Kd.R_below (rr_ HO515.out) hb); have n4_ := Aside0.mk (Kd.R_below (rr_ HO519.out) hb); have n5_ := Aside0.mk (below_step bw_ hb); clear HO503; clear HO507; clear HO511; clear HO515; clear HO519; clear HB; have HO503 := n0_; have HO507 := n1_; have HO511 := n2_; have HO515 := n3_; have HO519 := n4_; have HB := n5_; clear n0_ n1_ n2_ n3_ n4_ n5_; (try clear hb); (try clear hb2); (try clear hk); (try clear hi)) | (go_at_call 78; (with_reducible refine (impl_LinesLeftOver.calls kj17 _ _ t500 t501 t524 t525 _ ?side1 ?side2 A52.out).mono ?_); (case side1 => exact cr_ (Kd.R_reads' HO503.out).2.2); (case side2 => exact (Kd.R_reads' HO503.out).2.1); rintro e w68 ⟨v526, rfl, ho0, hb⟩; have n0_ := Aside0.mk (Kd.R_elder' (rr_ HO503.out) (Kd.R_base ho0) hb); have n1_ := Aside0.mk (Kd.R_elder' (rr_ HO507.out) (Kd.R_base ho0) hb); have n2_ := Aside0.mk (Kd.R_elder' (rr_ HO511.out) (Kd.R_base ho0) hb); have n3_ := Aside0.mk (Kd.R_elder' (rr_ HO515.out) (Kd.R_base ho0) hb); have n4_ := Aside0.mk (Kd.R_elder' (rr_ HO519.out) (Kd.R_base ho0) hb); have n5_ := Aside0.mk (Kd.R_lower (Kd.R_new' (Kd.R_new' (Kd.R_new' (Kd.R_new' (Kd.R_new' ho0 (Kd.R_lt (rr_ HO503.out))) (Kd.R_lt (rr_ HO507.out))) (Kd.R_lt (rr_ HO511.out))) (Kd.R_lt (rr_ HO515.out))) (Kd.R_lt (rr_ HO519.out))) (below_size bw_)); have n6_ := Aside0.mk (below_step bw_ hb); clear HO503; clear HO507; clear HO511; clear HO515; clear HO519; clear HB; have HO503 := n0_; have HO507 := n1_; have HO511 := n2_; have HO515 := n3_; have HO519 := n4_; have HO527 := n5_; have HB := n6_; clear n0_ n1_ n2_ n3_ n4_ n5_ n6_; (try clear hb); (try clear hb2); (try clear hk); (try clear hi); (try clear ho0)) | (go_at_call 79; (with_reducible refine (spec_LinesLeftOver.calls kj17 _ _ t500 t501 t528 t529 _ ?side1 ?side2 A53.out).mono ?_); (case side1 => exact cr_ (Kd.R_reads' HO503.out).2.2); (case side2 => exact (Kd.R_reads' HO503.out).2.1); rintro e w69 ⟨v530, rfl, ho0, hb⟩; have n0_ := Aside0.mk (Kd.R_elder' (rr_ HO503.out) (Kd.R_base ho0) hb); have n1_ := Aside0.mk (Kd.R_elder' (rr_ HO507.out) (Kd.R_base ho0) hb); have n2_ := Aside0.mk (Kd.R_elder' (rr_ HO511.out) (Kd.R_base ho0) hb); have n3_ := Aside0.mk (Kd.R_elder' (rr_ HO515.out) (Kd.R_base ho0) hb); have n4_ := Aside0.mk (Kd.R_elder' (rr_ HO519.out) (Kd.R_base ho0) hb); have n5_ := Aside0.mk (Kd.R_elder' (rr_ HO527.out) (Kd.R_base ho0) hb); have n6_ := Aside0.mk (Kd.R_lower (Kd.R_new' (Kd.R_new' (Kd.R_new' (Kd.R_new' (Kd.R_new' (Kd.R_new' ho0 (Kd.R_lt (rr_ HO503.out))) (Kd.R_lt (rr_ HO507.out))) (Kd.R_lt (rr_ HO511.out))) (Kd.R_lt (rr_ HO515.out))) (Kd.R_lt (rr_ HO519.out))) (Kd.R_lt (rr_ HO527.out))) (below_size bw_)); have n7_ := Aside0.mk (below_step bw_ hb); clear HO503; clear HO507; clear HO511; clear HO515; clear HO519; clear HO527; clear HB; have HO503 := n0_; have HO507 := n1_; have HO511 := n2_; have HO515 := n3_; have HO519 := n4_; have HO527 := n5_; have HO531 := n6_; have HB := n7_; clear n0_ n1_ n2_ n3_ n4_ n5_ n6_ n7_; (try clear hb); (try clear hb2); (try clear hk); (try clear hi); (try clear ho0)))
       repeat (go_quiet (first | (go_at_call 65; (with_reducible refine (spec_DrawStretchText.calls kj17 _ _ l1 t488 t489 _ ?side1 ?side2 A39.out).mono ?_); (case side1 => exact cr_ (Kd.C_below HR1.out HB.out)); (case side2 => exact HC1.out); rintro e w55 ⟨rfl, hb⟩; have n0_ := Aside0.mk (below_step bw_ hb); clear HB; have HB := n0_; clear n0_; (try clear hb); (try clear hb2); (try clear hk); (try clear hi)) | (go_at_call 66; (with_reducible refine (impl_StretchText.calls kj17 t488 t489 t490 t491 _ ?side1 A40.out).mono ?_); (case side1 => exact TabA.below HT.out bw_); rintro e w56 ⟨rfl, hb⟩; have n0_ := Aside0.mk (below_step bw_ hb); clear HB; have HB := n0_; clear n0_; (try clear hb); (try clear hb2); (try clear hk); (try clear hi)) | (go_at_call 67; (with_reducible refine (spec_StretchText.calls kj17 t488 t489 t492 t493 _ A41.out).mono ?_); rintro e w57 ⟨rfl, hb⟩; have n0_ := Aside0.mk (below_step bw_ hb); clear HB; have HB := n0_; clear n0_; (try clear hb); (try clear hb2); (try clear hk); (try clear hi)) | (go_at_call 68; (with_reducible refine (spec_DrawCentreText.calls kj17 _ _ l1 t494 t495 _ ?side1 ?side2 A42.out).mono ?_); (case side1 => exact cr_ (Kd.C_below HR1.out HB.out)); (case side2 => exact HC1.out); rintro e w58 ⟨rfl, hb⟩; have n0_ := Aside0.mk (below_step bw_ hb); clear HB; have HB := n0_; clear n0_; (try clear hb); (try clear hb2); (try clear hk); (try clear hi)) | (go_at_call 69; (with_reducible refine (impl_CentreText.calls kj17 t494 t495 t496 t497 _ ?side1 A43.out).mono ?_); (case side1 => exact TabA.below HT.out bw_); rintro e w59 ⟨rfl, hb⟩; have n0_ := Aside0.mk (below_step bw_ hb); clear HB; have HB := n0_; clear n0_; (try clear hb); (try clear hb2); (try clear hk); (try clear hi)) | (go_at_call 70; (with_reducible refine (spec_CentreText.calls kj17 t494 t495 t498 t499 _ A44.out).mono ?_); rintro e w' ⟨rfl, ⟨nd, rfl⟩⟩; (try exact dd_)) | (go_at_call 71; (with_reducible refine (spec_DrawParagraphBreaks.calls kj17 _ _ l1 t500 t501 _ ?side1 ?side2 A45.out).mono ?_); (case side1 => exact cr_ (Kd.C_below HR1.out bw_)); (case side2 => exact HC1.out); rintro e w60 ⟨v502, rfl, ho0, hb⟩; have n0_ := Aside0.mk (Kd.R_lower ho0 (below_size bw_)); have n1_ := Aside0.mk (below_step bw_ hb); clear HB; have HO503 := n0_; have HB := n1_; clear n0_ n1_; (try clear hb); (try clear hb2); (try clear hk); (try clear hi); (try clear ho0); obtain ⟨Ao61, co61, eo61⟩ := Kd.R_slice HO503.out; subst eo61) | (go_at_call 72; (with_reducible refine (impl_ParagraphBreaks.calls kj17 _ _ t500 t501 t504 t505 _ ?side1 ?side2 A46.out).mono ?_); (case side1 => exact cr_ (Kd.R_reads' HO503.out).2.2); (case side2 => exact (Kd.R_reads' HO503.out).2.1); rintro e w62 ⟨v506, rfl, ho0, hb⟩; have n0_ := Aside0.mk (Kd.R_elder' (rr_ HO503.out) (Kd.R_base ho0) hb); have n1_ := Aside0.mk (Kd.R_lower (Kd.R_new' ho0 (Kd.R_lt (rr_ HO503.out))) (below_size bw_)); have n2_ := Aside0.mk (below_step bw_ hb); clear HO503; clear HB; have HO503 := n0_; have HO507 := n1_; have HB := n2_; clear n0_ n1_ n2_; (try clear hb); (try clear hb2); (try clear hk); (try clear hi); (try clear ho0)) | (go_at_call 73; (with_reducible refine (spec_ParagraphBreaks.calls kj17 _ _ t500 t501 t508 t509 _ ?side1 ?side2 A47.out).mono ?_); (case side1 => exact cr_ (Kd.R_reads' HO503.out).2.2); (case side2 => exact (Kd.R_reads' HO503.out).2.1); rintro e w63 ⟨v510, rfl, ho0, hb⟩; have n0_ := Aside0.mk (Kd.R_elder' (rr_ HO503.out) (Kd.R_base ho0) hb); have n1_ := Aside0.mk (Kd.R_elder' (rr_ HO507.out) (Kd.R_base ho0) hb); have n2_ := Aside0.mk (Kd.R_lower (Kd.R_new' (Kd.R_new' ho0 (Kd.R_lt (rr_ HO503.out))) (Kd.R_lt (rr_ HO507.out))) (below_size bw_)); have n3_ := Aside0.mk (below_step bw_ hb); clear HO503; clear HO507; clear HB; have HO503 := n0_; have HO507 := n1_; have HO511 := n2_; have HB := n3_; clear n0_ n1_ n2_ n3_; (try clear hb); (try clear hb2); (try clear hk); (try clear hi); (try clear ho0)) | (go_at_call 74; (with_reducible refine (impl_BreaksAllowed.calls kj17 _ _ t500 t501 t512 t513 _ ?side1 ?side2 A48.out).mono ?_); (case side1 => exact cr_ (Kd.R_reads' HO503.out).2.2); (case side2 => exact (Kd.R_reads' HO503.out).2.1); rintro e w64 ⟨v514, rfl, ho0, hb⟩; have n0_ := Aside0.mk (Kd.R_elder' (rr_ HO503.out) (Kd.R_base ho0) hb); have n1_ := Aside0.mk (Kd.R_elder' (rr_ HO507.out) (Kd.R_base ho0) hb); have n2_ := Aside0.mk (Kd.R_elder' (rr_ HO511.out) (Kd.R_base ho0) hb); have n3_ := Aside0.mk (Kd.R_lower (Kd.R_new' (Kd.R_new' (Kd.R_new' ho0 (Kd.R_lt (rr_ HO503.out))) (Kd.R_lt (rr_ HO507.out))) (Kd.R_lt (rr_ HO511.out))) (below_size bw_)); have n4_ := Aside0.mk (below_step bw_ hb); clear HO503; clear HO507; clear HO511; clear HB; have HO503 := n0_; have HO507 := n1_; have HO511 := n2_; have HO515 := n3_; have HB := n4_; clear n0_ n1_ n2_ n3_ n4_; (try clear hb); (try clear hb2); (try clear hk); (try clear hi); (try clear ho0)) | (go_at_call 75; (with_reducible refine (spec_BreaksAllowed.calls kj17 _ _ t500 t501 t516 t517 _ ?side1 ?side2 A49.out).mono ?_); (case side1 => exact cr_ (Kd.R_reads' HO503.out).2.2); (case side2 => exact (Kd.R_reads' HO503.out).2.1); rintro e w65 ⟨v518, rfl, ho0, hb⟩; have n0_ := Aside0.mk (Kd.R_elder' (rr_ HO503.out) (Kd.R_base ho0) hb); have n1_ := Aside0.mk (Kd.R_elder' (rr_ HO507.out) (Kd.R_base ho0) hb); have n2_ := Aside0.mk (Kd.R_elder' (rr_ HO511.out) (Kd.R_base ho0) hb); have n3_ := Aside0.mk (Kd.R_elder' (rr_ HO515.out) (Kd.R_base ho0) hb); have n4_ := Aside0.mk (Kd.R_lower (Kd.R_new' (Kd.R_new' (Kd.R_new' (Kd.R_new' ho0 (Kd.R_lt (rr_ HO503.out))) (Kd.R_lt (rr_ HO507.out))) (Kd.R_lt (rr_ HO511.out))) (Kd.R_lt (rr_ HO515.out))) (below_size bw_)); have n5_ := Aside0.mk (below_step bw_ hb); clear HO503; clear HO507; clear HO511; clear HO515; clear HB; have HO503 := n0_; have HO507 := n1_; have HO511 := n2_; have HO515 := n3_; have HO519 := n4_; have HB := n5_; clear n0_ n1_ n2_ n3_ n4_ n5_; (try clear hb); (try clear hb2); (try clear hk); (try clear hi); (try clear ho0)) | (go_at_call 76; (with_reducible refine (impl_PagesOfParagraphs.calls kj17 _ _ t500 t501 t520 t521 _ ?side1 ?side2 A50.out).mono ?_); (case side1 => exact cr_ (Kd.R_reads' HO503.out).2.2); (case side2 => exact (Kd.R_reads' HO503.out).2.1); rintro e w66 ⟨rfl, hb⟩; have n0_ := Aside0.mk (Kd.R_below (rr_ HO503.out) hb); have n1_ := Aside0.mk (Kd.R_below (rr_ HO507.out) hb); have n2_ := Aside0.mk (Kd.R_below (rr_ HO511.out) hb); have n3_ := Aside0.mk (Kd.R_below (rr_ HO515.out) hb); have n4_ := Aside0.mk (Kd.R_below (rr_ HO519.out) hb); have n5_ := Aside0.mk (below_step bw_ hb); clear HO503; clear HO507; clear HO511; clear HO515; clear HO519; clear HB; have HO503 := n0_; have HO507 := n1_; have HO511 := n2_; have HO515 := n3_; have HO519 := n4_; have HB := n5_; clear n0_ n1_ n2_ n3_ n4_ n5_; (try clear hb); (try clear hb2); (try clear hk); (try clear hi)) | (go_at_call 77; (with_reducible refine (spec_PagesOfParagraphs.calls kj17 _ _ t500 t501 t522 t523 _ ?side1 ?side2 A51.out).mono ?_); (case side1 => exact cr_ (Kd.R_reads' HO503.out).2.2); (case side2 => exact (Kd.R_reads' HO503.out).2.1); rintro e w67 ⟨rfl, hb⟩; have n0_ := Aside0.mk (Kd.R_below (rr_ HO503.out) hb); have n1_ := Aside0.mk (Kd.R_below (rr_ HO507.out) hb); have n2_ := Aside0.mk (Kd.R_below (rr_ HO511.out) hb); have n3_ := Aside0.mk (Kd.R_below (rr_ HO515.out) hb); have n4_ := Aside0.mk (Kd.R_below (rr_ HO519.out) hb); have n5_ := Aside0.mk (below_step bw_ hb); clear HO503; clear HO507; clear HO511; clear HO515; clear HO519; clear HB; have HO503 := n0_; have HO507 := n1_; have HO511 := n2_; have HO515 := n3_; have HO519 := n4_; have HB := n5_; clear n0_ n1_ n2_ n3_ n4_ n5_; (try clear hb); (try clear hb2); (try clear hk); (try clear hi)) | (go_at_call 78; (with_reducible refine (impl_LinesLeftOver.calls kj17 _ _ t500 t501 t524 t525 _ ?side1 ?side2 A52.out).mono ?_); (case side1 => exact cr_ (Kd.R_reads' HO503.out).2.2); (case side2 => exact (Kd.R_reads' HO503.out).2.1); rintro e w68 ⟨v526, rfl, ho0, hb⟩; have n0_ := Aside0.mk (Kd.R_elder' (rr_ HO503.out) (Kd.R_base ho0) hb); have n1_ := Aside0.mk (Kd.R_elder' (rr_ HO507.out) (Kd.R_base ho0) hb); have n2_ := Aside0.mk (Kd.R_elder' (rr_ HO511.out) (Kd.R_base ho0) hb); have n3_ := Aside0.mk (Kd.R_elder' (rr_ HO515.out) (Kd.R_base ho0) hb); have n4_ := Aside0.mk (Kd.R_elder' (rr_ HO519.out) (Kd.R_base ho0) hb); have n5_ := Aside0.mk (Kd.R_lower (Kd.R_new' (Kd.R_new' (Kd.R_new' (Kd.R_new' (Kd.R_new' ho0 (Kd.R_lt (rr_ HO503.out))) (Kd.R_lt (rr_ HO507.out))) (Kd.R_lt (rr_ HO511.out))) (Kd.R_lt (rr_ HO515.out))) (Kd.R_lt (rr_ HO519.out))) (below_size bw_)); have n6_ := Aside0.mk (below_step bw_ hb); clear HO503; clear HO507; clear HO511; clear HO515; clear HO519; clear HB; have HO503 := n0_; have HO507 := n1_; have HO511 := n2_; have HO515 := n3_; have HO519 := n4_; have HO527 := n5_; have HB := n6_; clear n0_ n1_ n2_ n3_ n4_ n5_ n6_; (try clear hb); (try clear hb2); (try clear hk); (try clear hi); (try clear ho0)) | (go_at_call 79; (with_reducible refine (spec_LinesLeftOver.calls kj17 _ _ t500 t501 t528 t529 _ ?side1 ?side2 A53.out).mono ?_); (case side1 => exact cr_ (Kd.R_reads' HO503.out).2.2); (case side2 => exact (Kd.R_reads' HO503.out).2.1); rintro e w69 ⟨v530, rfl, ho0, hb⟩; have n0_ := Aside0.mk (Kd.R_elder' (rr_ HO503.out) (Kd.R_base ho0) hb); have n1_ := Aside0.mk (Kd.R_elder' (rr_ HO507.out) (Kd.R_base ho0) hb); have n2_ := Aside0.mk (Kd.R_elder' (rr_ HO511.out) (Kd.R_base ho0) hb); have n3_ := Aside0.mk (Kd.R_elder' (rr_ HO515.out) (Kd.R_base ho0) hb); have n4_ := Aside0.mk (Kd.R_elder' (rr_ HO519.out) (Kd.R_base ho0) hb); have n5_ := Aside0.mk (Kd.R_elder' (rr_ HO527.out) (Kd.R_base ho0) hb); have n6_ := Aside0.mk (Kd.R_lower (Kd.R_new' (Kd.R_new' (Kd.R_new' (Kd.R_new' (Kd.R_new' (Kd.R_new' ho0 (Kd.R_lt (rr_ HO503.out))) (Kd.R_lt (rr_ HO507.out))) (Kd.R_lt (rr_ HO511.out))) (Kd.R_lt (rr_ HO515.out))) (Kd.R_lt (rr_ HO519.out))) (Kd.R_lt (rr_ HO527.out))) (below_size bw_)); have n7_ := Aside0.mk (below_step bw_ hb); clear HO503; clear HO507; clear HO511; clear HO515; clear HO519; clear HO527; clear HB; have HO503 := n0_; have HO507 := n1_; have HO511 := n2_; have HO515 := n3_; have HO519 := n4_; have HO527 := n5_; have HO531 := n6_; have HB := n7_; clear n0_ n1_ n2_ n3_ n4_ n5_ n6_ n7_; (try clear hb); (try clear hb2); (try clear hk); (try clear hi); (try clear ho0))); go_upto_region 32 with (first | (go_at_call 65; (with_reducible refine (spec_DrawStretchText.calls kj17 _ _ l1 t488 t489 _ ?side1 ?side2 A39.out).mono ?_); (case side1 => exact cr_ (Kd.C_below HR1.out HB.out)); (case side2 => exact HC1.out); rintro e w55 ⟨rfl, hb⟩; have n0_ := Aside0.mk (below_step bw_ hb); clear HB; have HB := n0_; clear n0_; (try clear hb); (try clear hb2); (try clear hk); (try clear hi)) | (go_at_call 66; (with_reducible refine (impl_StretchText.calls kj17 t488 t489 t490 t491 _ ?side1 A40.out).mono ?_); (case side1 => exact TabA.below HT.out bw_); rintro e w56 ⟨rfl, hb⟩; have n0_ := Aside0.mk (below_step bw_ hb); clear HB; have HB := n0_; clear n0_; (try clear hb); (try clear hb2); (try clear hk); (try clear hi)) | (go_at_call 67; (with_reducible refine (spec_StretchText.calls kj17 t488 t489 t492 t493 _ A41.out).mono ?_); rintro e w57 ⟨rfl, hb⟩; have n0_ := Aside0.mk (below_step bw_ hb); clear HB; have HB := n0_; clear n0_; (try clear hb); (try clear hb2); (try clear hk); (try clear hi)) | (go_at_call 68; (with_reducible refine (spec_DrawCentreText.calls kj17 _ _ l1 t494 t495 _ ?side1 ?side2 A42.out).mono ?_); (case side1 => exact cr_ (Kd.C_below HR1.out HB.out)); (case side2 => exact HC1.out); rintro e w58 ⟨rfl, hb⟩; have n0_ := Aside0.mk (below_step bw_ hb); clear HB; have HB := n0_; clear n0_; (try clear hb); (try clear hb2); (try clear hk); (try clear hi)) | (go_at_call 69; (with_reducible refine (impl_CentreText.calls kj17 t494 t495 t496 t497 _ ?side1 A43.out).mono ?_); (case side1 => exact TabA.below HT.out bw_); rintro e w59 ⟨rfl, hb⟩; have n0_ := Aside0.mk (below_step bw_ hb); clear HB; have HB := n0_; clear n0_; (try clear hb); (try clear hb2); (try clear hk); (try clear hi)) | (go_at_call 70; (with_reducible refine (spec_CentreText.calls kj17 t494 t495 t498 t499 _ A44.out).mono ?_); rintro e w' ⟨rfl, ⟨nd, rfl⟩⟩; (try exact dd_)) | (go_at_call 71; (with_reducible refine (spec_DrawParagraphBreaks.calls kj17 _ _ l1 t500 t501 _ ?side1 ?side2 A45.out).mono ?_); (case side1 => exact cr_ (Kd.C_below HR1.out bw_)); (case side2 => exact HC1.out); rintro e w60 ⟨v502, rfl, ho0, hb⟩; have n0_ := Aside0.mk (Kd.R_lower ho0 (below_size bw_)); have n1_ := Aside0.mk (below_step bw_ hb); clear HB; have HO503 := n0_; have HB := n1_; clear n0_ n1_; (try clear hb); (try clear hb2); (try clear hk); (try clear hi); (try clear ho0); obtain ⟨Ao61, co61, eo61⟩ := Kd.R_slice HO503.out; subst eo61) | (go_at_call 72; (with_reducible refine (impl_ParagraphBreaks.calls kj17 _ _ t500 t501 t504 t505 _ ?side1 ?side2 A46.out).mono ?_); (case side1 => exact cr_ (Kd.R_reads' HO503.out).2.2); (case side2 => exact (Kd.R_reads' HO503.out).2.1); rintro e w62 ⟨v506, rfl, ho0, hb⟩; have n0_ := Aside0.mk (Kd.R_elder' (rr_ HO503.out) (Kd.R_base ho0) hb); have n1_ := Aside0.mk (Kd.R_lower (Kd.R_new' ho0 (Kd.R_lt (rr_ HO503.out))) (below_size bw_)); have n2_ := Aside0.mk (below_step bw_ hb); clear HO503; clear HB; have HO503 := n0_; have HO507 := n1_; have HB := n2_; clear n0_ n1_ n2_; (try clear hb); (try clear hb2); (try clear hk); (try clear hi); (try clear ho0)) | (go_at_call 73; (with_reducible refine (spec_ParagraphBreaks.calls kj17 _ _ t500 t501 t508 t509 _ ?side1 ?side2 A47.out).mono ?_); (case side1 => exact cr_ (Kd.R_reads' HO503.out).2.2); (case side2 => exact (Kd.R_reads' HO503.out).2.1); rintro e w63 ⟨v510, rfl, ho0, hb⟩; have n0_ := Aside0.mk (Kd.R_elder' (rr_ HO503.out) (Kd.R_base ho0) hb); have n1_ := Aside0.mk (Kd.R_elder' (rr_ HO507.out) (Kd.R_base ho0) hb); have n2_ := Aside0.mk (Kd.R_lower (Kd.R_new' (Kd.R_new' ho0 (Kd.R_lt (rr_ HO503.out))) (Kd.R_lt (rr_ HO507.out))) (below_size bw_)); have n3_ := Aside0.mk (below_step bw_ hb); clear HO503; clear HO507; clear HB; have HO503 := n0_; have HO507 := n1_; have HO511 := n2_; have HB := n3_; clear n0_ n1_ n2_ n3_; (try clear hb); (try clear hb2); (try clear hk); (try clear hi); (try clear ho0)) | (go_at_call 74; (with_reducible refine (impl_BreaksAllowed.calls kj17 _ _ t500 t501 t512 t513 _ ?side1 ?side2 A48.out).mono ?_); (case side1 => exact cr_ (Kd.R_reads' HO503.out).2.2); (case side2 => exact (Kd.R_reads' HO503.out).2.1); rintro e w64 ⟨v514, rfl, ho0, hb⟩; have n0_ := Aside0.mk (Kd.R_elder' (rr_ HO503.out) (Kd.R_base ho0) hb); have n1_ := Aside0.mk (Kd.R_elder' (rr_ HO507.out) (Kd.R_base ho0) hb); have n2_ := Aside0.mk (Kd.R_elder' (rr_ HO511.out) (Kd.R_base ho0) hb); have n3_ := Aside0.mk (Kd.R_lower (Kd.R_new' (Kd.R_new' (Kd.R_new' ho0 (Kd.R_lt (rr_ HO503.out))) (Kd.R_lt (rr_ HO507.out))) (Kd.R_lt (rr_ HO511.out))) (below_size bw_)); have n4_ := Aside0.mk (below_step bw_ hb); clear HO503; clear HO507; clear HO511; clear HB; have HO503 := n0_; have HO507 := n1_; have HO511 := n2_; have HO515 := n3_; have HB := n4_; clear n0_ n1_ n2_ n3_ n4_; (try clear hb); (try clear hb2); (try clear hk); (try clear hi); (try clear ho0)) | (go_at_call 75; (with_reducible refine (spec_BreaksAllowed.calls kj17 _ _ t500 t501 t516 t517 _ ?side1 ?side2 A49.out).mono ?_); (case side1 => exact cr_ (Kd.R_reads' HO503.out).2.2); (case side2 => exact (Kd.R_reads' HO503.out).2.1); rintro e w65 ⟨v518, rfl, ho0, hb⟩; have n0_ := Aside0.mk (Kd.R_elder' (rr_ HO503.out) (Kd.R_base ho0) hb); have n1_ := Aside0.mk (Kd.R_elder' (rr_ HO507.out) (Kd.R_base ho0) hb); have n2_ := Aside0.mk (Kd.R_elder' (rr_ HO511.out) (Kd.R_base ho0) hb); have n3_ := Aside0.mk (Kd.R_elder' (rr_ HO515.out) (Kd.R_base ho0) hb); have n4_ := Aside0.mk (Kd.R_lower (Kd.R_new' (Kd.R_new' (Kd.R_new' (Kd.R_new' ho0 (Kd.R_lt (rr_ HO503.out))) (Kd.R_lt (rr_ HO507.out))) (Kd.R_lt (rr_ HO511.out))) (Kd.R_lt (rr_ HO515.out))) (below_size bw_)); have n5_ := Aside0.mk (below_step bw_ hb); clear HO503; clear HO507; clear HO511; clear HO515; clear HB; have HO503 := n0_; have HO507 := n1_; have HO511 := n2_; have HO515 := n3_; have HO519 := n4_; have HB := n5_; clear n0_ n1_ n2_ n3_ n4_ n5_; (try clear hb); (try clear hb2); (try clear hk); (try clear hi); (try clear ho0)) | (go_at_call 76; (with_reducible refine (impl_PagesOfParagraphs.calls kj17 _ _ t500 t501 t520 t521 _ ?side1 ?side2 A50.out).mono ?_); (case side1 => exact cr_ (Kd.R_reads' HO503.out).2.2); (case side2 => exact (Kd.R_reads' HO503.out).2.1); rintro e w66 ⟨rfl, hb⟩; have n0_ := Aside0.mk (Kd.R_below (rr_ HO503.out) hb); have n1_ := Aside0.mk (Kd.R_below (rr_ HO507.out) hb); have n2_ := Aside0.mk (Kd.R_below (rr_ HO511.out) hb); have n3_ := Aside0.mk (Kd.R_below (rr_ HO515.out) hb); have n4_ := Aside0.mk (Kd.R_below (rr_ HO519.out) hb); have n5_ := Aside0.mk (below_step bw_ hb); clear HO503; clear HO507; clear HO511; clear HO515; clear HO519; clear HB; have HO503 := n0_; have HO507 := n1_; have HO511 := n2_; have HO515 := n3_; have HO519 := n4_; have HB := n5_; clear n0_ n1_ n2_ n3_ n4_ n5_; (try clear hb); (try clear hb2); (try clear hk); (try clear hi)) | (go_at_call 77; (with_reducible refine (spec_PagesOfParagraphs.calls kj17 _ _ t500 t501 t522 t523 _ ?side1 ?side2 A51.out).mono ?_); (case side1 => exact cr_ (Kd.R_reads' HO503.out).2.2); (case side2 => exact (Kd.R_reads' HO503.out).2.1); rintro e w67 ⟨rfl, hb⟩; have n0_ := Aside0.mk (Kd.R_below (rr_ HO503.out) hb); have n1_ := Aside0.mk (Kd.R_below (rr_ HO507.out) hb); have n2_ := Aside0.mk (Kd.R_below (rr_ HO511.out) hb); have n3_ := Aside0.mk (Kd.R_below (rr_ HO515.out) hb); have n4_ := Aside0.mk (Kd.R_below (rr_ HO519.out) hb); have n5_ := Aside0.mk (below_step bw_ hb); clear HO503; clear HO507; clear HO511; clear HO515; clear HO519; clear HB; have HO503 := n0_; have HO507 := n1_; have HO511 := n2_; have HO515 := n3_; have HO519 := n4_; have HB := n5_; clear n0_ n1_ n2_ n3_ n4_ n5_; (try clear hb); (try clear hb2); (try clear hk); (try clear hi)) | (go_at_call 78; (with_reducible refine (impl_LinesLeftOver.calls kj17 _ _ t500 t501 t524 t525 _ ?side1 ?side2 A52.out).mono ?_); (case side1 => exact cr_ (Kd.R_reads' HO503.out).2.2); (case side2 => exact (Kd.R_reads' HO503.out).2.1); rintro e w68 ⟨v526, rfl, ho0, hb⟩; have n0_ := Aside0.mk (Kd.R_elder' (rr_ HO503.out) (Kd.R_base ho0) hb); have n1_ := Aside0.mk (Kd.R_elder' (rr_ HO507.out) (Kd.R_base ho0) hb); have n2_ := Aside0.mk (Kd.R_elder' (rr_ HO511.out) (Kd.R_base ho0) hb); have n3_ := Aside0.mk (Kd.R_elder' (rr_ HO515.out) (Kd.R_base ho0) hb); have n4_ := Aside0.mk (Kd.R_elder' (rr_ HO519.out) (Kd.R_base ho0) hb); have n5_ := Aside0.mk (Kd.R_lower (Kd.R_new' (Kd.R_new' (Kd.R_new' (Kd.R_new' (Kd.R_new' ho0 (Kd.R_lt (rr_ HO503.out))) (Kd.R_lt (rr_ HO507.out))) (Kd.R_lt (rr_ HO511.out))) (Kd.R_lt (rr_ HO515.out))) (Kd.R_lt (rr_ HO519.out))) (below_size bw_)); have n6_ := Aside0.mk (below_step bw_ hb); clear HO503; clear HO507; clear HO511; clear HO515; clear HO519; clear HB; have HO503 := n0_; have HO507 := n1_; have HO511 := n2_; have HO515 := n3_; have HO519 := n4_; have HO527 := n5_; have HB := n6_; clear n0_ n1_ n2_ n3_ n4_ n5_ n6_; (try clear hb); (try clear hb2); (try clear hk); (try clear hi); (try clear ho0)) | (go_at_call 79; (with_reducible refine (spec_LinesLeftOver.calls kj17 _ _ t500 t501 t528 t529 _ ?side1 ?side2 A53.out).mono ?_); (case side1 => exact cr_ (Kd.R_reads' HO503.out).2.2); (case side2 => exact (Kd.R_reads' HO503.out).2.1); rintro e w69 ⟨v530, rfl, ho0, hb⟩; have n0_ := Aside0.mk (Kd.R_elder' (rr_ HO503.out) (Kd.R_base ho0) hb); have n1_ := Aside0.mk (Kd.R_elder' (rr_ HO507.out) (Kd.R_base ho0) hb); have n2_ := Aside0.mk (Kd.R_elder' (rr_ HO511.out) (Kd.R_base ho0) hb); have n3_ := Aside0.mk (Kd.R_elder' (rr_ HO515.out) (Kd.R_base ho0) hb); have n4_ := Aside0.mk (Kd.R_elder' (rr_ HO519.out) (Kd.R_base ho0) hb); have n5_ := Aside0.mk (Kd.R_elder' (rr_ HO527.out) (Kd.R_base ho0) hb); have n6_ := Aside0.mk (Kd.R_lower (Kd.R_new' (Kd.R_new' (Kd.R_new' (Kd.R_new' (Kd.R_new' (Kd.R_new' ho0 (Kd.R_lt (rr_ HO503.out))) (Kd.R_lt (rr_ HO507.out))) (Kd.R_lt (rr_ HO511.out))) (Kd.R_lt (rr_ HO515.out))) (Kd.R_lt (rr_ HO519.out))) (Kd.R_lt (rr_ HO527.out))) (below_size bw_)); have n7_ := Aside0.mk (below_step bw_ hb); clear HO503; clear HO507; clear HO511; clear HO515; clear HO519; clear HO527; clear HB; have HO503 := n0_; have HO507 := n1_; have HO511 := n2_; have HO515 := n3_; have HO519 := n4_; have HO527 := n5_; have HO531 := n6_; have HB := n7_; clear n0_ n1_ n2_ n3_ n4_ n5_ n6_ n7_; (try clear hb); (try clear hb2); (try clear hk); (try clear hi); (try clear ho0))))
       (try simp only [Act.put, List.setIfInBounds_toArray, List.set_cons_zero, List.set_cons_succ])
       go_cut [298] from 221 to 297 (fun v298 wc => ∃ (kq : Nat) (x298_53 : Bool), v298 = .bool x298_53 ∧ Aside0 (laws_FnLinesStretched.j4 kq t488 t489 t490 t491 t494 t495 t496 t497 t500 t501 t504 t505 t512 t513 t520 t524 x298_53 = some r) ∧ Aside0 (kq ≤ kj17) ∧ Aside0 (Kd.R (Kd.int .i64) 3 wc w.heap.size (fun k_ => some k_ ≠ (v506 : Value).ownBlock ∧ some k_ ≠ (v514 : Value).ownBlock ∧ some k_ ≠ (v526 : Value).ownBlock) (.slice Ao61 t500.length co61) t500) ∧ Aside0 (Kd.R (Kd.int .i64) 3 wc w.heap.size (fun k_ => some k_ ≠ ((.slice Ao61 t500.length co61) : Value).ownBlock ∧ some k_ ≠ (v514 : Value).ownBlock ∧ some k_ ≠ (v526 : Value).ownBlock) v506 t504) ∧ Aside0 (Kd.R (Kd.int .i64) 3 wc w.heap.size (fun k_ => some k_ ≠ ((.slice Ao61 t500.length co61) : Value).ownBlock ∧ some k_ ≠ (v506 : Value).ownBlock ∧ some k_ ≠ (v526 : Value).ownBlock) v514 t512) ∧ Aside0 (Kd.R (Kd.int .i64) 3 wc w.heap.size (fun k_ => some k_ ≠ ((.slice Ao61 t500.length co61) : Value).ownBlock ∧ some k_ ≠ (v506 : Value).ownBlock ∧ some k_ ≠ (v514 : Value).ownBlock) v526 t524) ∧ Aside0 (Below w.heap.size w wc))
       case first => as_aux_lemma =>
        have H := HC54.out
        clear HC54
        by_cases c70 : (t491 != t493) = true
        ·rw [if_pos c70] at H
         have c70b0 : (t491 != t493) = true := c70
         (try (have c70b1 : decide (t491 = t493) = false := by simpa using c70))
         (try (have c70b2 : (t491 == t493) = false := by simpa using c70))
         (try (have c70b3 : ¬ (t491 = t493) := by simpa using c70))
         clear c70
         (first | rw [c70b0] | skip)
         exact (laws_FnLinesStretched.j4_no H hr_.out).elim
        ·rw [if_neg c70] at H
         have c70b0 : (t491 != t493) = false := by simpa using c70
         (try (have c70b1 : decide (t491 = t493) = true := by simpa using c70))
         (try (have c70b2 : (t491 == t493) = true := by simpa using c70))
         clear c70
         (first | rw [c70b0] | skip)
         by_cases c71 : t490.toList = t492.toList
         ·rw [if_pos c71] at H
          have c71b0 : (t490.toList == t492.toList) = true := beq_iff_eq.mpr c71
          have c71b1 : (t490.toList != t492.toList) = false := bne_eq_false_iff_eq.mpr c71
          clear c71
          by_cases c72 : (t497 != t499) = true
          ·rw [if_pos c72] at H
           have c72b0 : (t497 != t499) = true := c72
           (try (have c72b1 : decide (t497 = t499) = false := by simpa using c72))
           (try (have c72b2 : (t497 == t499) = false := by simpa using c72))
           (try (have c72b3 : ¬ (t497 = t499) := by simpa using c72))
           clear c72
           exact (laws_FnLinesStretched.j4_no H hr_.out).elim
          ·rw [if_neg c72] at H
           have c72b0 : (t497 != t499) = false := by simpa using c72
           (try (have c72b1 : decide (t497 = t499) = true := by simpa using c72))
           (try (have c72b2 : (t497 == t499) = true := by simpa using c72))
           clear c72
           by_cases c73 : t496.toList = t498.toList
           ·rw [if_pos c73] at H
            have c73b0 : (t496.toList == t498.toList) = true := beq_iff_eq.mpr c73
            have c73b1 : (t496.toList != t498.toList) = false := bne_eq_false_iff_eq.mpr c73
            clear c73
            by_cases c74 : (t505 != t509) = true
            ·rw [if_pos c74] at H
             have c74b0 : (t505 != t509) = true := c74
             (try (have c74b1 : decide (t505 = t509) = false := by simpa using c74))
             (try (have c74b2 : (t505 == t509) = false := by simpa using c74))
             (try (have c74b3 : ¬ (t505 = t509) := by simpa using c74))
             clear c74
             exact (laws_FnLinesStretched.j4_no H hr_.out).elim
            ·rw [if_neg c74] at H
             have c74b0 : (t505 != t509) = false := by simpa using c74
             (try (have c74b1 : decide (t505 = t509) = true := by simpa using c74))
             (try (have c74b2 : (t505 == t509) = true := by simpa using c74))
             clear c74
             replace H := Option.bind_eq_some_iff.mp H
             obtain ⟨t532, A750, H⟩ := H
             (try dsimp only at H)
             have A75 := Aside0.mk A750
             clear A750
             by_cases c76 : t532 = true
             ·subst c76
              have H1 : (if (t513 != t517) = true then (laws_FnLinesStretched.j4 kj17 t488 t489 t490 t491 t494 t495 t496 t497 t500 t501 t504 t505 t512 t513 t520 t524 true) else ((laws_xSame.f kj17 t512 t516).bind fun t533 => (if t533 = true then (if (t521 != t523) = true then (laws_FnLinesStretched.j4 kj17 t488 t489 t490 t491 t494 t495 t496 t497 t500 t501 t504 t505 t512 t513 t520 t524 true) else (if t520 = t522 then (if (t525 != t529) = true then (laws_FnLinesStretched.j4 kj17 t488 t489 t490 t491 t494 t495 t496 t497 t500 t501 t504 t505 t512 t513 t520 t524 true) else ((laws_xSame.f kj17 t524 t528).bind fun t534 => (if t534 = true then (if (t521 != t505) = true then (laws_FnLinesStretched.j4 kj17 t488 t489 t490 t491 t494 t495 t496 t497 t500 t501 t504 t505 t512 t513 t520 t524 true) else (if (t525 != t505) = true then (laws_FnLinesStretched.j4 kj17 t488 t489 t490 t491 t494 t495 t496 t497 t500 t501 t504 t505 t512 t513 t520 t524 true) else (if t505 = true then (laws_FnLinesStretched.j4 kj17 t488 t489 t490 t491 t494 t495 t496 t497 t500 t501 t504 t505 t512 t513 t520 t524 (!t513)) else (laws_FnLinesStretched.j4 kj17 t488 t489 t490 t491 t494 t495 t496 t497 t500 t501 t504 t505 t512 t513 t520 t524 false)))) else (laws_FnLinesStretched.j4 kj17 t488 t489 t490 t491 t494 t495 t496 t497 t500 t501 t504 t505 t512 t513 t520 t524 true)))) else (laws_FnLinesStretched.j4 kj17 t488 t489 t490 t491 t494 t495 t496 t497 t500 t501 t504 t505 t512 t513 t520 t524 true))) else (laws_FnLinesStretched.j4 kj17 t488 t489 t490 t491 t494 t495 t496 t497 t500 t501 t504 t505 t512 t513 t520 t524 true)))) = some r := by rw [if_pos rfl] at H; exact H
              clear H
              have H := H1
              clear H1
              by_cases c77 : (t513 != t517) = true
              ·rw [if_pos c77] at H
               have c77b0 : (t513 != t517) = true := c77
               (try (have c77b1 : decide (t513 = t517) = false := by simpa using c77))
               (try (have c77b2 : (t513 == t517) = false := by simpa using c77))
               (try (have c77b3 : ¬ (t513 = t517) := by simpa using c77))
               clear c77
               exact (laws_FnLinesStretched.j4_no H hr_.out).elim
              ·rw [if_neg c77] at H
               have c77b0 : (t513 != t517) = false := by simpa using c77
               (try (have c77b1 : decide (t513 = t517) = true := by simpa using c77))
               (try (have c77b2 : (t513 == t517) = true := by simpa using c77))
               clear c77
               replace H := Option.bind_eq_some_iff.mp H
               obtain ⟨t533, A800, H⟩ := H
               (try dsimp only at H)
               have A80 := Aside0.mk A800
               clear A800
               by_cases c81 : t533 = true
               ·subst c81
                have H1 : (if (t521 != t523) = true then (laws_FnLinesStretched.j4 kj17 t488 t489 t490 t491 t494 t495 t496 t497 t500 t501 t504 t505 t512 t513 t520 t524 true) else (if t520 = t522 then (if (t525 != t529) = true then (laws_FnLinesStretched.j4 kj17 t488 t489 t490 t491 t494 t495 t496 t497 t500 t501 t504 t505 t512 t513 t520 t524 true) else ((laws_xSame.f kj17 t524 t528).bind fun t534 => (if t534 = true then (if (t521 != t505) = true then (laws_FnLinesStretched.j4 kj17 t488 t489 t490 t491 t494 t495 t496 t497 t500 t501 t504 t505 t512 t513 t520 t524 true) else (if (t525 != t505) = true then (laws_FnLinesStretched.j4 kj17 t488 t489 t490 t491 t494 t495 t496 t497 t500 t501 t504 t505 t512 t513 t520 t524 true) else (if t505 = true then (laws_FnLinesStretched.j4 kj17 t488 t489 t490 t491 t494 t495 t496 t497 t500 t501 t504 t505 t512 t513 t520 t524 (!t513)) else (laws_FnLinesStretched.j4 kj17 t488 t489 t490 t491 t494 t495 t496 t497 t500 t501 t504 t505 t512 t513 t520 t524 false)))) else (laws_FnLinesStretched.j4 kj17 t488 t489 t490 t491 t494 t495 t496 t497 t500 t501 t504 t505 t512 t513 t520 t524 true)))) else (laws_FnLinesStretched.j4 kj17 t488 t489 t490 t491 t494 t495 t496 t497 t500 t501 t504 t505 t512 t513 t520 t524 true))) = some r := by rw [if_pos rfl] at H; exact H
                clear H
                have H := H1
                clear H1
                by_cases c82 : (t521 != t523) = true
                ·rw [if_pos c82] at H
                 have c82b0 : (t521 != t523) = true := c82
                 (try (have c82b1 : decide (t521 = t523) = false := by simpa using c82))
                 (try (have c82b2 : (t521 == t523) = false := by simpa using c82))
                 (try (have c82b3 : ¬ (t521 = t523) := by simpa using c82))
                 clear c82
                 exact (laws_FnLinesStretched.j4_no H hr_.out).elim
                ·rw [if_neg c82] at H
                 have c82b0 : (t521 != t523) = false := by simpa using c82
                 (try (have c82b1 : decide (t521 = t523) = true := by simpa using c82))
                 (try (have c82b2 : (t521 == t523) = true := by simpa using c82))
                 clear c82
                 by_cases c87 : t520 = t522
                 ·rw [if_pos c87] at H
                  have c87b0 : (t520 == t522) = true := beq_iff_eq.mpr c87
                  have c87b1 : (t520 != t522) = false := bne_eq_false_iff_eq.mpr c87
                  clear c87
                  by_cases c88 : (t525 != t529) = true
                  ·rw [if_pos c88] at H
                   have c88b0 : (t525 != t529) = true := c88
                   (try (have c88b1 : decide (t525 = t529) = false := by simpa using c88))
                   (try (have c88b2 : (t525 == t529) = false := by simpa using c88))
                   (try (have c88b3 : ¬ (t525 = t529) := by simpa using c88))
                   clear c88
                   exact (laws_FnLinesStretched.j4_no H hr_.out).elim
                  ·rw [if_neg c88] at H
                   have c88b0 : (t525 != t529) = false := by simpa using c88
                   (try (have c88b1 : decide (t525 = t529) = true := by simpa using c88))
                   (try (have c88b2 : (t525 == t529) = true := by simpa using c88))
                   clear c88
                   replace H := Option.bind_eq_some_iff.mp H
                   obtain ⟨t534, A930, H⟩ := H
                   (try dsimp only at H)
                   have A93 := Aside0.mk A930
                   clear A930
                   by_cases c94 : t534 = true
                   ·subst c94
                    have H1 : (if (t521 != t505) = true then (laws_FnLinesStretched.j4 kj17 t488 t489 t490 t491 t494 t495 t496 t497 t500 t501 t504 t505 t512 t513 t520 t524 true) else (if (t525 != t505) = true then (laws_FnLinesStretched.j4 kj17 t488 t489 t490 t491 t494 t495 t496 t497 t500 t501 t504 t505 t512 t513 t520 t524 true) else (if t505 = true then (laws_FnLinesStretched.j4 kj17 t488 t489 t490 t491 t494 t495 t496 t497 t500 t501 t504 t505 t512 t513 t520 t524 (!t513)) else (laws_FnLinesStretched.j4 kj17 t488 t489 t490 t491 t494 t495 t496 t497 t500 t501 t504 t505 t512 t513 t520 t524 false)))) = some r := by rw [if_pos rfl] at H; exact H
                    clear H
                    have H := H1
                    clear H1
                    by_cases c95 : (t521 != t505) = true
                    ·rw [if_pos c95] at H
                     have c95b0 : (t521 != t505) = true := c95
                     (try (have c95b1 : decide (t521 = t505) = false := by simpa using c95))
                     (try (have c95b2 : (t521 == t505) = false := by simpa using c95))
                     (try (have c95b3 : ¬ (t521 = t505) := by simpa using c95))
                     clear c95
                     exact (laws_FnLinesStretched.j4_no H hr_.out).elim
                    ·rw [if_neg c95] at H
                     have c95b0 : (t521 != t505) = false := by simpa using c95
                     (try (have c95b1 : decide (t521 = t505) = true := by simpa using c95))
                     (try (have c95b2 : (t521 == t505) = true := by simpa using c95))
                     clear c95
                     by_cases c102 : (t525 != t505) = true
                     ·rw [if_pos c102] at H
                      have c102b0 : (t525 != t505) = true := c102
                      (try (have c102b1 : decide (t525 = t505) = false := by simpa using c102))
                      (try (have c102b2 : (t525 == t505) = false := by simpa using c102))
                      (try (have c102b3 : ¬ (t525 = t505) := by simpa using c102))
                      clear c102
                      exact (laws_FnLinesStretched.j4_no H hr_.out).elim
                     ·rw [if_neg c102] at H
                      have c102b0 : (t525 != t505) = false := by simpa using c102
                      (try (have c102b1 : decide (t525 = t505) = true := by simpa using c102))
                      (try (have c102b2 : (t525 == t505) = true := by simpa using c102))
                      clear c102
                      by_cases c109 : t505 = true
                      ·subst c109
                       have H1 : (laws_FnLinesStretched.j4 kj17 t488 t489 t490 t491 t494 t495 t496 t497 t500 t501 t504 true t512 t513 t520 t524 (!t513)) = some r := by rw [if_pos rfl] at H; exact H
                       clear H
                       have H := H1
                       clear H1
                       have H' := Aside0.mk H
                       clear H
                       obtain ⟨Ao110, co110, eo110⟩ := Kd.R_slice HO507.out
                       subst eo110
                       obtain ⟨Ao111, co111, eo111⟩ := Kd.R_slice HO511.out
                       subst eo111
                       go_wp2_with (first | (go_at_call 12; (with_reducible refine (laws_xSame.calls kj17 _ _ t504 _ _ t508 true _ ?side1 ?side2 ?side3 ?side4 A75.out).mono ?_); (case side1 => exact cr_ (Kd.R_reads' HO507.out).2.2); (case side2 => exact (Kd.R_reads' HO507.out).2.1); (case side3 => exact cr_ (Kd.R_reads' HO511.out).2.2); (case side4 => exact (Kd.R_reads' HO511.out).2.1); rintro e w' ⟨rfl, ⟨nd, rfl⟩⟩; (try exact dd_); obtain ⟨Ao112, co112, eo112⟩ := Kd.R_slice HO515.out; subst eo112; obtain ⟨Ao113, co113, eo113⟩ := Kd.R_slice HO519.out; subst eo113) | (go_at_call 12; (with_reducible refine (laws_xSame.calls kj17 _ _ t512 _ _ t516 true _ ?side1 ?side2 ?side3 ?side4 A80.out).mono ?_); (case side1 => exact cr_ (Kd.R_reads' HO515.out).2.2); (case side2 => exact (Kd.R_reads' HO515.out).2.1); (case side3 => exact cr_ (Kd.R_reads' HO519.out).2.2); (case side4 => exact (Kd.R_reads' HO519.out).2.1); rintro e w' ⟨rfl, ⟨nd, rfl⟩⟩; (try exact dd_); obtain ⟨Ao114, co114, eo114⟩ := Kd.R_slice HO527.out; subst eo114; obtain ⟨Ao115, co115, eo115⟩ := Kd.R_slice HO531.out; subst eo115) | (go_at_call 12; (with_reducible refine (laws_xSame.calls kj17 _ _ t524 _ _ t528 true _ ?side1 ?side2 ?side3 ?side4 A93.out).mono ?_); (case side1 => exact cr_ (Kd.R_reads' HO527.out).2.2); (case side2 => exact (Kd.R_reads' HO527.out).2.1); (case side3 => exact cr_ (Kd.R_reads' HO531.out).2.2); (case side4 => exact (Kd.R_reads' HO531.out).2.1); rintro e w' ⟨rfl, ⟨nd, rfl⟩⟩; (try exact dd_)))
                       repeat (go_quiet (first | (go_at_call 12; (with_reducible refine (laws_xSame.calls kj17 _ _ t504 _ _ t508 true _ ?side1 ?side2 ?side3 ?side4 A75.out).mono ?_); (case side1 => exact cr_ (Kd.R_reads' HO507.out).2.2); (case side2 => exact (Kd.R_reads' HO507.out).2.1); (case side3 => exact cr_ (Kd.R_reads' HO511.out).2.2); (case side4 => exact (Kd.R_reads' HO511.out).2.1); rintro e w' ⟨rfl, ⟨nd, rfl⟩⟩; (try exact dd_); obtain ⟨Ao112, co112, eo112⟩ := Kd.R_slice HO515.out; subst eo112; obtain ⟨Ao113, co113, eo113⟩ := Kd.R_slice HO519.out; subst eo113) | (go_at_call 12; (with_reducible refine (laws_xSame.calls kj17 _ _ t512 _ _ t516 true _ ?side1 ?side2 ?side3 ?side4 A80.out).mono ?_); (case side1 => exact cr_ (Kd.R_reads' HO515.out).2.2); (case side2 => exact (Kd.R_reads' HO515.out).2.1); (case side3 => exact cr_ (Kd.R_reads' HO519.out).2.2); (case side4 => exact (Kd.R_reads' HO519.out).2.1); rintro e w' ⟨rfl, ⟨nd, rfl⟩⟩; (try exact dd_); obtain ⟨Ao114, co114, eo114⟩ := Kd.R_slice HO527.out; subst eo114; obtain ⟨Ao115, co115, eo115⟩ := Kd.R_slice HO531.out; subst eo115) | (go_at_call 12; (with_reducible refine (laws_xSame.calls kj17 _ _ t524 _ _ t528 true _ ?side1 ?side2 ?side3 ?side4 A93.out).mono ?_); (case side1 => exact cr_ (Kd.R_reads' HO527.out).2.2); (case side2 => exact (Kd.R_reads' HO527.out).2.1); (case side3 => exact cr_ (Kd.R_reads' HO531.out).2.2); (case side4 => exact (Kd.R_reads' HO531.out).2.1); rintro e w' ⟨rfl, ⟨nd, rfl⟩⟩; (try exact dd_))); try go_wp2_with (first | (go_at_call 12; (with_reducible refine (laws_xSame.calls kj17 _ _ t504 _ _ t508 true _ ?side1 ?side2 ?side3 ?side4 A75.out).mono ?_); (case side1 => exact cr_ (Kd.R_reads' HO507.out).2.2); (case side2 => exact (Kd.R_reads' HO507.out).2.1); (case side3 => exact cr_ (Kd.R_reads' HO511.out).2.2); (case side4 => exact (Kd.R_reads' HO511.out).2.1); rintro e w' ⟨rfl, ⟨nd, rfl⟩⟩; (try exact dd_); obtain ⟨Ao112, co112, eo112⟩ := Kd.R_slice HO515.out; subst eo112; obtain ⟨Ao113, co113, eo113⟩ := Kd.R_slice HO519.out; subst eo113) | (go_at_call 12; (with_reducible refine (laws_xSame.calls kj17 _ _ t512 _ _ t516 true _ ?side1 ?side2 ?side3 ?side4 A80.out).mono ?_); (case side1 => exact cr_ (Kd.R_reads' HO515.out).2.2); (case side2 => exact (Kd.R_reads' HO515.out).2.1); (case side3 => exact cr_ (Kd.R_reads' HO519.out).2.2); (case side4 => exact (Kd.R_reads' HO519.out).2.1); rintro e w' ⟨rfl, ⟨nd, rfl⟩⟩; (try exact dd_); obtain ⟨Ao114, co114, eo114⟩ := Kd.R_slice HO527.out; subst eo114; obtain ⟨Ao115, co115, eo115⟩ := Kd.R_slice HO531.out; subst eo115) | (go_at_call 12; (with_reducible refine (laws_xSame.calls kj17 _ _ t524 _ _ t528 true _ ?side1 ?side2 ?side3 ?side4 A93.out).mono ?_); (case side1 => exact cr_ (Kd.R_reads' HO527.out).2.2); (case side2 => exact (Kd.R_reads' HO527.out).2.1); (case side3 => exact cr_ (Kd.R_reads' HO531.out).2.2); (case side4 => exact (Kd.R_reads' HO531.out).2.1); rintro e w' ⟨rfl, ⟨nd, rfl⟩⟩; (try exact dd_))))
                       go_meet
                       case rel => exact ⟨_, (!t513), rs_, H', ⟨by have := HJ7.out; have := HJ17.out; first | omega | exact Nat.le_refl _⟩, ⟨by (with_reducible repeat (first | apply Kd.R_alloc | apply Kd.R_drewN | apply Kd.R_drew)); exact Kd.R_mono HO503.out (fun _ hk => ⟨hk.1.1.1.1.1.2, ⟨hk.1.1.1.2, hk.1.2⟩⟩)⟩, ⟨by (with_reducible repeat (first | apply Kd.R_alloc | apply Kd.R_drewN | apply Kd.R_drew)); exact Kd.R_mono HO507.out (fun _ hk => ⟨hk.1.1.1.1.1.2, ⟨hk.1.1.1.2, hk.1.2⟩⟩)⟩, ⟨by (with_reducible repeat (first | apply Kd.R_alloc | apply Kd.R_drewN | apply Kd.R_drew)); exact Kd.R_mono HO515.out (fun _ hk => ⟨hk.1.1.1.1.1.2, ⟨hk.1.1.1.1.2, hk.1.2⟩⟩)⟩, ⟨by (with_reducible repeat (first | apply Kd.R_alloc | apply Kd.R_drewN | apply Kd.R_drew)); exact Kd.R_mono HO527.out (fun _ hk => ⟨hk.1.1.1.1.1.2, ⟨hk.1.1.1.1.2, hk.1.1.2⟩⟩)⟩, ⟨bw_⟩⟩
                      ·replace c109 := Bool.eq_false_iff.mpr c109
                       subst c109
                       have H1 : (laws_FnLinesStretched.j4 kj17 t488 t489 t490 t491 t494 t495 t496 t497 t500 t501 t504 false t512 t513 t520 t524 false) = some r := by rw [if_neg (show ¬ (false = true) by decide)] at H; exact H
                       clear H
                       have H := H1
                       clear H1
                       have H' := Aside0.mk H
                       clear H
                       obtain ⟨Ao116, co116, eo116⟩ := Kd.R_slice HO507.out
                       subst eo116
                       obtain ⟨Ao117, co117, eo117⟩ := Kd.R_slice HO511.out
                       subst eo117
                       go_wp2_with (first | (go_at_call 12; (with_reducible refine (laws_xSame.calls kj17 _ _ t504 _ _ t508 true _ ?side1 ?side2 ?side3 ?side4 A75.out).mono ?_); (case side1 => exact cr_ (Kd.R_reads' HO507.out).2.2); (case side2 => exact (Kd.R_reads' HO507.out).2.1); (case side3 => exact cr_ (Kd.R_reads' HO511.out).2.2); (case side4 => exact (Kd.R_reads' HO511.out).2.1); rintro e w' ⟨rfl, ⟨nd, rfl⟩⟩; (try exact dd_); obtain ⟨Ao118, co118, eo118⟩ := Kd.R_slice HO515.out; subst eo118; obtain ⟨Ao119, co119, eo119⟩ := Kd.R_slice HO519.out; subst eo119) | (go_at_call 12; (with_reducible refine (laws_xSame.calls kj17 _ _ t512 _ _ t516 true _ ?side1 ?side2 ?side3 ?side4 A80.out).mono ?_); (case side1 => exact cr_ (Kd.R_reads' HO515.out).2.2); (case side2 => exact (Kd.R_reads' HO515.out).2.1); (case side3 => exact cr_ (Kd.R_reads' HO519.out).2.2); (case side4 => exact (Kd.R_reads' HO519.out).2.1); rintro e w' ⟨rfl, ⟨nd, rfl⟩⟩; (try exact dd_); obtain ⟨Ao120, co120, eo120⟩ := Kd.R_slice HO527.out; subst eo120; obtain ⟨Ao121, co121, eo121⟩ := Kd.R_slice HO531.out; subst eo121) | (go_at_call 12; (with_reducible refine (laws_xSame.calls kj17 _ _ t524 _ _ t528 true _ ?side1 ?side2 ?side3 ?side4 A93.out).mono ?_); (case side1 => exact cr_ (Kd.R_reads' HO527.out).2.2); (case side2 => exact (Kd.R_reads' HO527.out).2.1); (case side3 => exact cr_ (Kd.R_reads' HO531.out).2.2); (case side4 => exact (Kd.R_reads' HO531.out).2.1); rintro e w' ⟨rfl, ⟨nd, rfl⟩⟩; (try exact dd_)))
                       repeat (go_quiet (first | (go_at_call 12; (with_reducible refine (laws_xSame.calls kj17 _ _ t504 _ _ t508 true _ ?side1 ?side2 ?side3 ?side4 A75.out).mono ?_); (case side1 => exact cr_ (Kd.R_reads' HO507.out).2.2); (case side2 => exact (Kd.R_reads' HO507.out).2.1); (case side3 => exact cr_ (Kd.R_reads' HO511.out).2.2); (case side4 => exact (Kd.R_reads' HO511.out).2.1); rintro e w' ⟨rfl, ⟨nd, rfl⟩⟩; (try exact dd_); obtain ⟨Ao118, co118, eo118⟩ := Kd.R_slice HO515.out; subst eo118; obtain ⟨Ao119, co119, eo119⟩ := Kd.R_slice HO519.out; subst eo119) | (go_at_call 12; (with_reducible refine (laws_xSame.calls kj17 _ _ t512 _ _ t516 true _ ?side1 ?side2 ?side3 ?side4 A80.out).mono ?_); (case side1 => exact cr_ (Kd.R_reads' HO515.out).2.2); (case side2 => exact (Kd.R_reads' HO515.out).2.1); (case side3 => exact cr_ (Kd.R_reads' HO519.out).2.2); (case side4 => exact (Kd.R_reads' HO519.out).2.1); rintro e w' ⟨rfl, ⟨nd, rfl⟩⟩; (try exact dd_); obtain ⟨Ao120, co120, eo120⟩ := Kd.R_slice HO527.out; subst eo120; obtain ⟨Ao121, co121, eo121⟩ := Kd.R_slice HO531.out; subst eo121) | (go_at_call 12; (with_reducible refine (laws_xSame.calls kj17 _ _ t524 _ _ t528 true _ ?side1 ?side2 ?side3 ?side4 A93.out).mono ?_); (case side1 => exact cr_ (Kd.R_reads' HO527.out).2.2); (case side2 => exact (Kd.R_reads' HO527.out).2.1); (case side3 => exact cr_ (Kd.R_reads' HO531.out).2.2); (case side4 => exact (Kd.R_reads' HO531.out).2.1); rintro e w' ⟨rfl, ⟨nd, rfl⟩⟩; (try exact dd_))); try go_wp2_with (first | (go_at_call 12; (with_reducible refine (laws_xSame.calls kj17 _ _ t504 _ _ t508 true _ ?side1 ?side2 ?side3 ?side4 A75.out).mono ?_); (case side1 => exact cr_ (Kd.R_reads' HO507.out).2.2); (case side2 => exact (Kd.R_reads' HO507.out).2.1); (case side3 => exact cr_ (Kd.R_reads' HO511.out).2.2); (case side4 => exact (Kd.R_reads' HO511.out).2.1); rintro e w' ⟨rfl, ⟨nd, rfl⟩⟩; (try exact dd_); obtain ⟨Ao118, co118, eo118⟩ := Kd.R_slice HO515.out; subst eo118; obtain ⟨Ao119, co119, eo119⟩ := Kd.R_slice HO519.out; subst eo119) | (go_at_call 12; (with_reducible refine (laws_xSame.calls kj17 _ _ t512 _ _ t516 true _ ?side1 ?side2 ?side3 ?side4 A80.out).mono ?_); (case side1 => exact cr_ (Kd.R_reads' HO515.out).2.2); (case side2 => exact (Kd.R_reads' HO515.out).2.1); (case side3 => exact cr_ (Kd.R_reads' HO519.out).2.2); (case side4 => exact (Kd.R_reads' HO519.out).2.1); rintro e w' ⟨rfl, ⟨nd, rfl⟩⟩; (try exact dd_); obtain ⟨Ao120, co120, eo120⟩ := Kd.R_slice HO527.out; subst eo120; obtain ⟨Ao121, co121, eo121⟩ := Kd.R_slice HO531.out; subst eo121) | (go_at_call 12; (with_reducible refine (laws_xSame.calls kj17 _ _ t524 _ _ t528 true _ ?side1 ?side2 ?side3 ?side4 A93.out).mono ?_); (case side1 => exact cr_ (Kd.R_reads' HO527.out).2.2); (case side2 => exact (Kd.R_reads' HO527.out).2.1); (case side3 => exact cr_ (Kd.R_reads' HO531.out).2.2); (case side4 => exact (Kd.R_reads' HO531.out).2.1); rintro e w' ⟨rfl, ⟨nd, rfl⟩⟩; (try exact dd_))))
                       go_meet
                       case rel => exact ⟨_, (false), rs_, H', ⟨by have := HJ7.out; have := HJ17.out; first | omega | exact Nat.le_refl _⟩, ⟨by (with_reducible repeat (first | apply Kd.R_alloc | apply Kd.R_drewN | apply Kd.R_drew)); exact Kd.R_mono HO503.out (fun _ hk => ⟨hk.1.1.1.1.1.2, ⟨hk.1.1.1.2, hk.1.2⟩⟩)⟩, ⟨by (with_reducible repeat (first | apply Kd.R_alloc | apply Kd.R_drewN | apply Kd.R_drew)); exact Kd.R_mono HO507.out (fun _ hk => ⟨hk.1.1.1.1.1.2, ⟨hk.1.1.1.2, hk.1.2⟩⟩)⟩, ⟨by (with_reducible repeat (first | apply Kd.R_alloc | apply Kd.R_drewN | apply Kd.R_drew)); exact Kd.R_mono HO515.out (fun _ hk => ⟨hk.1.1.1.1.1.2, ⟨hk.1.1.1.1.2, hk.1.2⟩⟩)⟩, ⟨by (with_reducible repeat (first | apply Kd.R_alloc | apply Kd.R_drewN | apply Kd.R_drew)); exact Kd.R_mono HO527.out (fun _ hk => ⟨hk.1.1.1.1.1.2, ⟨hk.1.1.1.1.2, hk.1.1.2⟩⟩)⟩, ⟨bw_⟩⟩
                   ·replace c94 := Bool.eq_false_iff.mpr c94
                    subst c94
                    have H1 : (laws_FnLinesStretched.j4 kj17 t488 t489 t490 t491 t494 t495 t496 t497 t500 t501 t504 t505 t512 t513 t520 t524 true) = some r := by rw [if_neg (show ¬ (false = true) by decide)] at H; exact H
                    clear H
                    have H := H1
                    clear H1
                    exact (laws_FnLinesStretched.j4_no H hr_.out).elim
                 ·rw [if_neg c87] at H
                  have c87b0 : (t520 == t522) = false := beq_eq_false_iff_ne.mpr c87
                  have c87b1 : (t520 != t522) = true := bne_iff_ne.mpr c87
                  exact (laws_FnLinesStretched.j4_no H hr_.out).elim
               ·replace c81 := Bool.eq_false_iff.mpr c81
                subst c81
                have H1 : (laws_FnLinesStretched.j4 kj17 t488 t489 t490 t491 t494 t495 t496 t497 t500 t501 t504 t505 t512 t513 t520 t524 true) = some r := by rw [if_neg (show ¬ (false = true) by decide)] at H; exact H
                clear H
                have H := H1
                clear H1
                exact (laws_FnLinesStretched.j4_no H hr_.out).elim
             ·replace c76 := Bool.eq_false_iff.mpr c76
              subst c76
              have H1 : (laws_FnLinesStretched.j4 kj17 t488 t489 t490 t491 t494 t495 t496 t497 t500 t501 t504 t505 t512 t513 t520 t524 true) = some r := by rw [if_neg (show ¬ (false = true) by decide)] at H; exact H
              clear H
              have H := H1
              clear H1
              exact (laws_FnLinesStretched.j4_no H hr_.out).elim
           ·rw [if_neg c73] at H
            have c73b0 : (t496.toList == t498.toList) = false := beq_eq_false_iff_ne.mpr c73
            have c73b1 : (t496.toList != t498.toList) = true := bne_iff_ne.mpr c73
            exact (laws_FnLinesStretched.j4_no H hr_.out).elim
         ·rw [if_neg c71] at H
          have c71b0 : (t490.toList == t492.toList) = false := beq_eq_false_iff_ne.mpr c71
          have c71b1 : (t490.toList != t492.toList) = true := bne_iff_ne.mpr c71
          exact (laws_FnLinesStretched.j4_no H hr_.out).elim
       case rest =>
        clear HC54
        (try clear c1); (try clear c2); (try clear p2); (try clear c3); (try clear c4); (try clear p4); (try clear q4); (try clear hx4); (try clear qi4); (try clear c5); (try clear p6); (try clear c7); (try clear c8); (try clear c9); (try clear c10); (try clear c13); (try clear c13b0); (try clear c13b1); (try clear c13b2); (try clear c17); (try clear c19); (try clear c21); (try clear c21b0); (try clear c21b1); (try clear c26); (try clear c28); (try clear c28b0); (try clear c29); (try clear c29b0); (try clear c30); (try clear c30b0); (try clear c31); (try clear c31b0); (try clear c32); (try clear c32b0); (try clear c32b1); (try clear c33); (try clear c33b0); (try clear c34); (try clear c34b0); (try clear c36); (try clear c36b0); (try clear c37); (try clear c37b0); (try clear c38); (try clear c38b0); (try clear p48); (try clear q48); (try clear hx48); (try clear qi48); (try clear p64); (try clear c70); (try clear c70b0); (try clear c70b1); (try clear c70b2); (try clear c71); (try clear c71b0); (try clear c71b1); (try clear c72); (try clear c72b0); (try clear c72b1); (try clear c72b2); (try clear c73); (try clear c73b0); (try clear c73b1); (try clear c74); (try clear c74b0); (try clear c74b1); (try clear c74b2); (try clear c76); (try clear c77); (try clear c77b0); (try clear c77b1); (try clear c77b2); (try clear c81); (try clear c82); (try clear c82b0); (try clear c82b1); (try clear c82b2); (try clear c87); (try clear c87b0); (try clear c87b1); (try clear c88); (try clear c88b0); (try clear c88b1); (try clear c88b2); (try clear c94); (try clear c95); (try clear c95b0); (try clear c95b1); (try clear c95b2); (try clear c102); (try clear c102b0); (try clear c102b1); (try clear c102b2); (try clear c109); (try clear hx485_0); (try clear hx486_0); (try clear hx487_0); (try clear p485); (try clear p486); (try clear p487); (try clear q485); (try clear q486); (try clear q487)
        obtain ⟨kq, x298_53, rfl, HA, HJ53, HO_25, HO_27, HO_31, HO_39, HB⟩ := hcut
        cases kq with
        | zero => exact absurd HA.out (by simp [laws_FnLinesStretched.j4])
        | succ kj53 =>
         have H := HA.out
         clear HA
         simp only [laws_FnLinesStretched.j4] at H
         by_cases c138 : x298_53 = true
         ·subst c138
          have H1 : (some false) = some r := by rw [if_pos rfl] at H; exact H
          clear H
          have H := H1
          clear H1
          obtain rfl := Option.some.inj H
          exact absurd hr_.out (by decide)
         ·replace c138 := Bool.eq_false_iff.mpr c138
          subst c138
          have H1 : (if t491 = true then (if (t490.size : Int) = t489 then (laws_FnLinesStretched.l1 kj53 t488 t490 t494 t495 t496 t497 t500 t501 t504 t505 t512 t513 t520 t524 0 0 (t490.size : Int)) else (some false)) else (laws_FnLinesStretched.j7 kj53 t494 t495 t496 t497 t500 t501 t504 t505 t512 t513 t520 t524)) = some r := by rw [if_neg (show ¬ (false = true) by decide)] at H; exact H
          clear H
          have H := H1
          clear H1
          have HC139 := Aside0.mk H
          clear H
          go_upto_if 299 with (fail)
          repeat (go_quiet (fail); go_upto_if 299 with (fail))
          go_cut [43, 44] from 299 to 344 (fun v43 v44 wc => ∃ (kq : Nat), Aside0 (laws_FnLinesStretched.j7 kq t494 t495 t496 t497 t500 t501 t504 t505 t512 t513 t520 t524 = some r) ∧ Aside0 (kq ≤ kj53) ∧ Aside0 (Kd.R (Kd.int .i64) 3 wc w.heap.size (fun k_ => some k_ ≠ (v506 : Value).ownBlock ∧ some k_ ≠ (v514 : Value).ownBlock ∧ some k_ ≠ (v526 : Value).ownBlock) (.slice Ao61 t500.length co61) t500) ∧ Aside0 (Kd.R (Kd.int .i64) 3 wc w.heap.size (fun k_ => some k_ ≠ ((.slice Ao61 t500.length co61) : Value).ownBlock ∧ some k_ ≠ (v514 : Value).ownBlock ∧ some k_ ≠ (v526 : Value).ownBlock) v506 t504) ∧ Aside0 (Kd.R (Kd.int .i64) 3 wc w.heap.size (fun k_ => some k_ ≠ ((.slice Ao61 t500.length co61) : Value).ownBlock ∧ some k_ ≠ (v506 : Value).ownBlock ∧ some k_ ≠ (v526 : Value).ownBlock) v514 t512) ∧ Aside0 (Kd.R (Kd.int .i64) 3 wc w.heap.size (fun k_ => some k_ ≠ ((.slice Ao61 t500.length co61) : Value).ownBlock ∧ some k_ ≠ (v506 : Value).ownBlock ∧ some k_ ≠ (v514 : Value).ownBlock) v526 t524) ∧ Aside0 (Below w.heap.size w wc))
          case first => as_aux_lemma =>
           have H := HC139.out
           clear HC139
           by_cases c140 : t491 = true
           ·subst c140
            have H1 : (if (t490.size : Int) = t489 then (laws_FnLinesStretched.l1 kj53 t488 t490 t494 t495 t496 t497 t500 t501 t504 t505 t512 t513 t520 t524 0 0 (t490.size : Int)) else (some false)) = some r := by rw [if_pos rfl] at H; exact H
            clear H
            have H := H1
            clear H1
            by_cases c141 : (t490.size : Int) = t489
            ·rw [if_pos c141] at H
             have c141b0 : ((t490.size : Int) == t489) = true := beq_iff_eq.mpr c141
             have c141b1 : ((t490.size : Int) != t489) = false := bne_eq_false_iff_eq.mpr c141
             clear c141
             (first | rw [c141b0] | skip)
             have H' := Aside0.mk H
             clear H
             go_wp2
             repeat (go_quiet (fail); try go_wp2)
             go_loopg [43] kj53 (fun kq v43 w' => ∃ (x43_4 : Int) (pos_ : Nat), v43 = .int .i64 x43_4 ∧ Aside0 (laws_FnLinesStretched.l1 kq t488 t490 t494 t495 t496 t497 t500 t501 t504 t505 t512 t513 t520 t524 x43_4 (pos_ : Int) (t490.size : Int) = some r) ∧ Aside0 (kq ≤ kj53) ∧ Aside0 (Below wc.heap.size wc w') ∧ Aside0 (w'.heap[wc.heap.size]? = some (.stringIter t490 pos_)))
             case atStart => exact ⟨(0), 0, rs_, H', ⟨Nat.le_refl _⟩, ⟨by repeat (first | exact it_new _ _ _ | apply pw_below_drewN)⟩, ⟨World.iter_heap _ _ _⟩⟩
             case round =>
              clear H'
              (try clear c1); (try clear c2); (try clear p2); (try clear c3); (try clear c4); (try clear p4); (try clear q4); (try clear hx4); (try clear qi4); (try clear c5); (try clear p6); (try clear c7); (try clear c8); (try clear c9); (try clear c10); (try clear c13); (try clear c13b0); (try clear c13b1); (try clear c13b2); (try clear c14); (try clear c17); (try clear c19); (try clear c21); (try clear c21b0); (try clear c21b1); (try clear c26); (try clear c28); (try clear c28b0); (try clear c29); (try clear c29b0); (try clear c30); (try clear c30b0); (try clear c31); (try clear c31b0); (try clear c32); (try clear c32b0); (try clear c32b1); (try clear c33); (try clear c33b0); (try clear c34); (try clear c34b0); (try clear c36); (try clear c36b0); (try clear c37); (try clear c37b0); (try clear c38); (try clear c38b0); (try clear p48); (try clear q48); (try clear hx48); (try clear qi48); (try clear p64); (try clear c70); (try clear c70b0); (try clear c70b1); (try clear c70b2); (try clear c71); (try clear c71b0); (try clear c71b1); (try clear c72); (try clear c72b0); (try clear c72b1); (try clear c72b2); (try clear c73); (try clear c73b0); (try clear c73b1); (try clear c74); (try clear c74b0); (try clear c74b1); (try clear c74b2); (try clear c76); (try clear c77); (try clear c77b0); (try clear c77b1); (try clear c77b2); (try clear c81); (try clear c82); (try clear c82b0); (try clear c82b1); (try clear c82b2); (try clear c87); (try clear c87b0); (try clear c87b1); (try clear c88); (try clear c88b0); (try clear c88b1); (try clear c88b2); (try clear c94); (try clear c95); (try clear c95b0); (try clear c95b1); (try clear c95b2); (try clear c102); (try clear c102b0); (try clear c102b1); (try clear c102b2); (try clear c109); (try clear c138); (try clear c140); (try clear c141); (try clear c141b0); (try clear c141b1); (try clear hx485_0); (try clear hx486_0); (try clear hx487_0); (try clear p485); (try clear p486); (try clear p487); (try clear q485); (try clear q486); (try clear q487)
              obtain ⟨x43_4, pos_, rfl, HA, HK4, HBI, HIT⟩ := hrel
              obtain ⟨x305_4, hx_⟩ : ∃ z : Int, z = (pos_ : Int) := ⟨_, rfl⟩
              rw [← hx_] at HA
              cases gk with
              | zero => exact absurd HA.out (by simp [laws_FnLinesStretched.l1])
              | succ k4 =>
               have H := HA.out
               clear HA
               simp only [laws_FnLinesStretched.l1] at H
               by_cases c142 : x305_4 < (t490.size : Int)
               ·rw [if_pos c142] at H
                have c142b0 : decide (x305_4 < (t490.size : Int)) = true := decide_eq_true c142
                have hp_ : pos_ < t490.size := by omega
                have cA : bt t490 x305_4 < 128 := by
                 by_cases cA : bt t490 x305_4 < 128
                 ·exact cA
                 ·rw [if_neg cA] at H
                  exact absurd H (by simp)
                rw [if_pos cA] at H
                have ha_ : (t490[pos_]'hp_).toNat < 128 := by
                 rw [hx_, ← bt_at t490 (pos_ : Int) hp_] at cA
                 exact Int.ofNat_lt.mp cA
                have hnx_ := fun ty => nx_ascii (P := Tryd.prog) x305_4 hx_ HIT.out hp_ ha_ ty
                have HX := Aside0.mk hx_
                clear cA ha_ hx_
                clear c142
                have HC143 := Aside0.mk H
                clear H
                go_upto_region 41 with (fail)
                repeat (go_quiet (fail); go_upto_region 41 with (fail))
                go_cut [321] from 309 to 320 (fun v321 wd => ∃ (kq : Nat) (x321_142 : Bool), v321 = .bool x321_142 ∧ Aside0 (laws_FnLinesStretched.j6 kq t488 t490 t494 t495 t496 t497 t500 t501 t504 t505 t512 t513 t520 t524 x43_4 x305_4 (x305_4 + 1) (t490.size : Int) x321_142 = some r) ∧ Aside0 (kq ≤ k4) ∧ Aside0 (Below wc.heap.size wc wd) ∧ Aside0 (wd.heap[wc.heap.size]? = some (.stringIter t490 (pos_ + 1))))
                case first => as_aux_lemma =>
                 have H := HC143.out
                 clear HC143
                 by_cases c144 : x43_4 < (t488.size : Int)
                 ·rw [if_pos c144] at H
                  have c144b0 : decide (x43_4 < (t488.size : Int)) = true := decide_eq_true c144
                  clear c144
                  (first | rw [c144b0] | skip)
                  by_cases c145 : 0 ≤ x305_4
                  ·rw [if_pos c145] at H
                   have c145b0 : decide (0 ≤ x305_4) = true := decide_eq_true c145
                   clear c145
                   by_cases c146 : x305_4 < (t490.size : Int)
                   ·rw [if_pos c146] at H
                    have c146b0 : decide (x305_4 < (t490.size : Int)) = true := decide_eq_true c146
                    clear c146
                    by_cases c148 : 0 ≤ x43_4
                    ·rw [if_pos c148] at H
                     have c148b0 : decide (0 ≤ x43_4) = true := decide_eq_true c148
                     clear c148
                     have H' := Aside0.mk H
                     clear H
                     have p147 : 0 ≤ (x305_4 : Int) := of_decide_eq_true (by first | (with_reducible assumption) | assumption)
                     have q147 : x305_4 < (t490.size : Int) := of_decide_eq_true (by first | (with_reducible assumption) | assumption)
                     have hx147 := bt_at t490 x305_4
                     replace p147 := eq_true p147
                     replace q147 := eq_true q147
                     have p149 : 0 ≤ (x43_4 : Int) := of_decide_eq_true (by first | (with_reducible assumption) | assumption)
                     have q149 : x43_4 < (t488.size : Int) := of_decide_eq_true (by first | (with_reducible assumption) | assumption)
                     have hx149 := bt_at t488 x43_4
                     replace p149 := eq_true p149
                     replace q149 := eq_true q149
                     go_wp2
                     repeat (go_quiet (fail); try go_wp2)
                     go_meet
                     case rel => exact ⟨_, (((bt t490 x305_4) == (bt t488 x43_4))), rs_, H', ⟨by have := HJ7.out; have := HJ17.out; have := HJ53.out; have := HK4.out; first | omega | exact Nat.le_refl _⟩, ⟨by repeat (first | exact it_below HBI.out _ _ | apply pw_below_drewN)⟩, ⟨it_get HIT.out _ _⟩⟩
                    ·rw [if_neg c148] at H
                     exact absurd H (by simp)
                   ·rw [if_neg c146] at H
                    exact absurd H (by simp)
                  ·rw [if_neg c145] at H
                   exact absurd H (by simp)
                 ·rw [if_neg c144] at H
                  have c144b0 : decide (x43_4 < (t488.size : Int)) = false := decide_eq_false c144
                  clear c144
                  (first | rw [c144b0] | skip)
                  have H' := Aside0.mk H
                  clear H
                  go_wp2
                  repeat (go_quiet (fail); try go_wp2)
                  go_meet
                  case rel => exact ⟨_, (false), rs_, H', ⟨by have := HJ7.out; have := HJ17.out; have := HJ53.out; have := HK4.out; first | omega | exact Nat.le_refl _⟩, ⟨by repeat (first | exact it_below HBI.out _ _ | apply pw_below_drewN)⟩, ⟨it_get HIT.out _ _⟩⟩
                case rest =>
                 clear HC143
                 (try clear c1); (try clear p1); (try clear q1); (try clear hx1); (try clear c2); (try clear p2); (try clear c3); (try clear c4); (try clear p4); (try clear q4); (try clear hx4); (try clear qi4); (try clear c5); (try clear p6); (try clear c7); (try clear c8); (try clear c9); (try clear c10); (try clear c13); (try clear c13b0); (try clear c13b1); (try clear c13b2); (try clear c14); (try clear p14); (try clear q14); (try clear hx14); (try clear c17); (try clear c19); (try clear c21); (try clear c21b0); (try clear c21b1); (try clear c26); (try clear c28); (try clear c28b0); (try clear c29); (try clear c29b0); (try clear c30); (try clear c30b0); (try clear c31); (try clear c31b0); (try clear c32); (try clear c32b0); (try clear c32b1); (try clear c33); (try clear c33b0); (try clear c34); (try clear c34b0); (try clear c36); (try clear c36b0); (try clear c37); (try clear c37b0); (try clear c38); (try clear c38b0); (try clear p48); (try clear q48); (try clear hx48); (try clear qi48); (try clear p64); (try clear c70); (try clear c70b0); (try clear c70b1); (try clear c70b2); (try clear c71); (try clear c71b0); (try clear c71b1); (try clear c72); (try clear c72b0); (try clear c72b1); (try clear c72b2); (try clear c73); (try clear c73b0); (try clear c73b1); (try clear c74); (try clear c74b0); (try clear c74b1); (try clear c74b2); (try clear c76); (try clear c77); (try clear c77b0); (try clear c77b1); (try clear c77b2); (try clear c81); (try clear c82); (try clear c82b0); (try clear c82b1); (try clear c82b2); (try clear c87); (try clear c87b0); (try clear c87b1); (try clear c88); (try clear c88b0); (try clear c88b1); (try clear c88b2); (try clear c94); (try clear c95); (try clear c95b0); (try clear c95b1); (try clear c95b2); (try clear c102); (try clear c102b0); (try clear c102b1); (try clear c102b2); (try clear c109); (try clear c138); (try clear c140); (try clear c141); (try clear c141b0); (try clear c141b1); (try clear c142); (try clear c142b0); (try clear c144); (try clear c144b0); (try clear c145); (try clear c145b0); (try clear c146); (try clear c146b0); (try clear p147); (try clear q147); (try clear hx147); (try clear c148); (try clear c148b0); (try clear p149); (try clear q149); (try clear hx149); (try clear hx485_0); (try clear hx486_0); (try clear hx487_0); (try clear p485); (try clear p486); (try clear p487); (try clear q485); (try clear q486); (try clear q487)
                 clear HBI HIT
                 obtain ⟨kq, x321_142, rfl, HA, HJ142, HBI, HIT⟩ := hcut
                 cases kq with
                 | zero => exact absurd HA.out (by simp [laws_FnLinesStretched.j6])
                 | succ kj142 =>
                  have H := HA.out
                  clear HA
                  simp only [laws_FnLinesStretched.j6] at H
                  by_cases c150 : x321_142 = true
                  ·subst c150
                   have H1 : (laws_FnLinesStretched.l1 kj142 t488 t490 t494 t495 t496 t497 t500 t501 t504 t505 t512 t513 t520 t524 (wrap64 (x43_4 + 1)) (x305_4 + 1) (t490.size : Int)) = some r := by rw [if_pos rfl] at H; exact H
                   clear H
                   have H := H1
                   clear H1
                   have H' := Aside0.mk H
                   clear H
                   go_wp2
                   repeat (go_quiet (fail); try go_wp2)
                   go_roundg kj142
                   case measure => have := HJ7.out; have := HJ17.out; have := HJ53.out; have := HK4.out; have := HJ142.out; omega
                   case rel => exact ⟨(wrap64 (x43_4 + 1)), pos_ + 1, rs_, ⟨by rw [show ((pos_ + 1 : Nat) : Int) = x305_4 + 1 from by have := HX.out; omega]; exact H'.out⟩, ⟨by have := HJ7.out; have := HJ17.out; have := HJ53.out; have := HK4.out; have := HJ142.out; omega⟩, ⟨by repeat (first | exact HBI.out | apply pw_below_drewN)⟩, ⟨HIT.out⟩⟩
                  ·replace c150 := Bool.eq_false_iff.mpr c150
                   subst c150
                   have H1 : (if 0 ≤ x305_4 then (if x305_4 < (t490.size : Int) then (if (bt t490 x305_4) = 32 then (laws_FnLinesStretched.l1 kj142 t488 t490 t494 t495 t496 t497 t500 t501 t504 t505 t512 t513 t520 t524 x43_4 (x305_4 + 1) (t490.size : Int)) else (some false)) else (none)) else (none)) = some r := by rw [if_neg (show ¬ (false = true) by decide)] at H; exact H
                   clear H
                   have H := H1
                   clear H1
                   by_cases c151 : 0 ≤ x305_4
                   ·rw [if_pos c151] at H
                    have c151b0 : decide (0 ≤ x305_4) = true := decide_eq_true c151
                    clear c151
                    by_cases c152 : x305_4 < (t490.size : Int)
                    ·rw [if_pos c152] at H
                     have c152b0 : decide (x305_4 < (t490.size : Int)) = true := decide_eq_true c152
                     clear c152
                     by_cases c154 : (bt t490 x305_4) = 32
                     ·rw [if_pos c154] at H
                      have c154b0 : ((bt t490 x305_4) == 32) = true := beq_iff_eq.mpr c154
                      have c154b1 : ((bt t490 x305_4) != 32) = false := bne_eq_false_iff_eq.mpr c154
                      clear c154
                      have H' := Aside0.mk H
                      clear H
                      have p153 : 0 ≤ (x305_4 : Int) := of_decide_eq_true (by first | (with_reducible assumption) | assumption)
                      have q153 : x305_4 < (t490.size : Int) := of_decide_eq_true (by first | (with_reducible assumption) | assumption)
                      have hx153 := bt_at t490 x305_4
                      replace p153 := eq_true p153
                      replace q153 := eq_true q153
                      go_wp2
                      repeat (go_quiet (fail); try go_wp2)
                      go_roundg kj142
                      case measure => have := HJ7.out; have := HJ17.out; have := HJ53.out; have := HK4.out; have := HJ142.out; omega
                      case rel => exact ⟨(x43_4), pos_ + 1, rs_, ⟨by rw [show ((pos_ + 1 : Nat) : Int) = x305_4 + 1 from by have := HX.out; omega]; exact H'.out⟩, ⟨by have := HJ7.out; have := HJ17.out; have := HJ53.out; have := HK4.out; have := HJ142.out; omega⟩, ⟨by repeat (first | exact HBI.out | apply pw_below_drewN)⟩, ⟨HIT.out⟩⟩
                     ·rw [if_neg c154] at H
                      have c154b0 : ((bt t490 x305_4) == 32) = false := beq_eq_false_iff_ne.mpr c154
                      have c154b1 : ((bt t490 x305_4) != 32) = true := bne_iff_ne.mpr c154
                      obtain rfl := Option.some.inj H
                      exact absurd hr_.out (by decide)
                    ·rw [if_neg c152] at H
                     exact absurd H (by simp)
                   ·rw [if_neg c151] at H
                    exact absurd H (by simp)
               ·rw [if_neg c142] at H
                have c142b0 : decide (x305_4 < (t490.size : Int)) = false := decide_eq_false c142
                have hnx_ := fun ty => nx_end (P := Tryd.prog) HIT.out (show ¬ pos_ < t490.size by omega) ty
                clear hx_
                clear c142
                by_cases c155 : x43_4 = (t488.size : Int)
                ·rw [if_pos c155] at H
                 have c155b0 : (x43_4 == (t488.size : Int)) = true := beq_iff_eq.mpr c155
                 have c155b1 : (x43_4 != (t488.size : Int)) = false := bne_eq_false_iff_eq.mpr c155
                 clear c155
                 by_cases c156 : 0 < (t490.size : Int)
                 ·rw [if_pos c156] at H
                  have c156b0 : decide (0 < (t490.size : Int)) = true := decide_eq_true c156
                  have c156b1 : decide (0 < t490.size) = true := decide_eq_true (by omega)
                  clear c156
                  by_cases c158 : (bt t490 0) = 32
                  ·rw [if_pos c158] at H
                   have c158b0 : ((bt t490 0) == 32) = true := beq_iff_eq.mpr c158
                   have c158b1 : ((bt t490 0) != 32) = false := bne_eq_false_iff_eq.mpr c158
                   clear c158
                   obtain rfl := Option.some.inj H
                   exact absurd hr_.out (by decide)
                  ·rw [if_neg c158] at H
                   have c158b0 : ((bt t490 0) == 32) = false := beq_eq_false_iff_ne.mpr c158
                   have c158b1 : ((bt t490 0) != 32) = true := bne_iff_ne.mpr c158
                   obtain ⟨ji159, hji159⟩ : ∃ j_ : Int, (wrap64 ((t490.size : Int) - 1)) = j_ := ⟨_, rfl⟩
                   replace H : (if 0 ≤ (ji159) then (if (ji159) < (t490.size : Int) then (if (bt t490 (ji159)) = 32 then (some false) else (laws_FnLinesStretched.j7 k4 t494 t495 t496 t497 t500 t501 t504 t505 t512 t513 t520 t524)) else (none)) else (none)) = some r := by first | (rw [hji159] at H; exact H) | (simp only [hji159] at H ⊢; exact H)
                   have hji159w : (IntKind.i64.wrap ((t490.size : Int) - 1)) = ji159 := (i64_w _).trans hji159
                   by_cases c160 : 0 ≤ (ji159)
                   ·rw [if_pos c160] at H
                    have c160b0 : decide (0 ≤ (ji159)) = true := decide_eq_true c160
                    clear c160
                    by_cases c161 : (ji159) < (t490.size : Int)
                    ·rw [if_pos c161] at H
                     have c161b0 : decide ((ji159) < (t490.size : Int)) = true := decide_eq_true c161
                     clear c161
                     by_cases c163 : (bt t490 (ji159)) = 32
                     ·rw [if_pos c163] at H
                      have c163b0 : ((bt t490 (ji159)) == 32) = true := beq_iff_eq.mpr c163
                      have c163b1 : ((bt t490 (ji159)) != 32) = false := bne_eq_false_iff_eq.mpr c163
                      clear c163
                      obtain rfl := Option.some.inj H
                      exact absurd hr_.out (by decide)
                     ·rw [if_neg c163] at H
                      have c163b0 : ((bt t490 (ji159)) == 32) = false := beq_eq_false_iff_ne.mpr c163
                      have c163b1 : ((bt t490 (ji159)) != 32) = true := bne_iff_ne.mpr c163
                      have H' := Aside0.mk H
                      clear H
                      have p157 : 0 ≤ (0 : Int) := (by omega)
                      have q157 : 0 < t490.size := (by have : (0 : Int) < (t490.size : Int) := of_decide_eq_true (by first | (with_reducible assumption) | assumption); omega)
                      have hx157 : ∀ h : 0 < t490.size, ((t490[0]'h).toNat : Int) = bt t490 0 := bt_at t490 0
                      clear p157
                      have qi157 : (0 < (t490.size : Int)) = True := eq_true (of_decide_eq_true (by first | (with_reducible assumption) | assumption))
                      replace q157 := eq_true q157
                      have p162 : 0 ≤ ((ji159) : Int) := of_decide_eq_true (by first | (with_reducible assumption) | assumption)
                      have q162 : (ji159) < (t490.size : Int) := of_decide_eq_true (by first | (with_reducible assumption) | assumption)
                      have hx162 := bt_at t490 (ji159)
                      replace p162 := eq_true p162
                      replace q162 := eq_true q162
                      go_wp2
                      repeat (go_quiet (fail); try go_wp2)
                      go_meet
                      case rel => exact ⟨_, H', ⟨by have := HJ7.out; have := HJ17.out; have := HJ53.out; have := HK4.out; first | omega | exact Nat.le_refl _⟩, ⟨by (with_reducible repeat (first | apply Kd.R_alloc | apply Kd.R_drewN | apply Kd.R_drew)); exact Kd.R_below HO_25.out HBI.out⟩, ⟨by (with_reducible repeat (first | apply Kd.R_alloc | apply Kd.R_drewN | apply Kd.R_drew)); exact Kd.R_below HO_27.out HBI.out⟩, ⟨by (with_reducible repeat (first | apply Kd.R_alloc | apply Kd.R_drewN | apply Kd.R_drew)); exact Kd.R_below HO_31.out HBI.out⟩, ⟨by (with_reducible repeat (first | apply Kd.R_alloc | apply Kd.R_drewN | apply Kd.R_drew)); exact Kd.R_below HO_39.out HBI.out⟩, ⟨by repeat (first | exact below_step HB.out HBI.out | apply pw_below_drewN)⟩⟩
                    ·rw [if_neg c161] at H
                     exact absurd H (by simp)
                   ·rw [if_neg c160] at H
                    exact absurd H (by simp)
                 ·rw [if_neg c156] at H
                  exact absurd H (by simp)
                ·rw [if_neg c155] at H
                 have c155b0 : (x43_4 == (t488.size : Int)) = false := beq_eq_false_iff_ne.mpr c155
                 have c155b1 : (x43_4 != (t488.size : Int)) = true := bne_iff_ne.mpr c155
                 obtain rfl := Option.some.inj H
                 exact absurd hr_.out (by decide)
            ·rw [if_neg c141] at H
             have c141b0 : ((t490.size : Int) == t489) = false := beq_eq_false_iff_ne.mpr c141
             have c141b1 : ((t490.size : Int) != t489) = true := bne_iff_ne.mpr c141
             (first | rw [c141b0] | skip)
             obtain rfl := Option.some.inj H
             exact absurd hr_.out (by decide)
           ·replace c140 := Bool.eq_false_iff.mpr c140
            subst c140
            have H1 : (laws_FnLinesStretched.j7 kj53 t494 t495 t496 t497 t500 t501 t504 t505 t512 t513 t520 t524) = some r := by rw [if_neg (show ¬ (false = true) by decide)] at H; exact H
            clear H
            have H := H1
            clear H1
            have H' := Aside0.mk H
            clear H
            go_wp2
            repeat (go_quiet (fail); try go_wp2)
            go_meet
            case rel => exact ⟨_, H', ⟨by have := HJ7.out; have := HJ17.out; have := HJ53.out; first | omega | exact Nat.le_refl _⟩, ⟨rr_ HO_25.out⟩, ⟨rr_ HO_27.out⟩, ⟨rr_ HO_31.out⟩, ⟨rr_ HO_39.out⟩, ⟨bw_⟩⟩
          case rest =>
           clear HC139
           (try clear c1); (try clear p1); (try clear q1); (try clear hx1); (try clear qi1); (try clear c2); (try clear p2); (try clear c3); (try clear c4); (try clear p4); (try clear q4); (try clear hx4); (try clear qi4); (try clear c5); (try clear p6); (try clear c7); (try clear c8); (try clear c9); (try clear c10); (try clear c13); (try clear c13b0); (try clear c13b1); (try clear c13b2); (try clear c14); (try clear p14); (try clear q14); (try clear hx14); (try clear c15); (try clear p15); (try clear q15); (try clear hx15); (try clear qi15); (try clear c16); (try clear p16); (try clear q16); (try clear hx16); (try clear c17); (try clear c19); (try clear c21); (try clear c21b0); (try clear c21b1); (try clear c26); (try clear c28); (try clear c28b0); (try clear c29); (try clear c29b0); (try clear c30); (try clear c30b0); (try clear c31); (try clear c31b0); (try clear c32); (try clear c32b0); (try clear c32b1); (try clear c33); (try clear c33b0); (try clear c34); (try clear c34b0); (try clear c36); (try clear c36b0); (try clear c37); (try clear c37b0); (try clear c38); (try clear c38b0); (try clear p48); (try clear q48); (try clear hx48); (try clear qi48); (try clear p64); (try clear c70); (try clear c70b0); (try clear c70b1); (try clear c70b2); (try clear c71); (try clear c71b0); (try clear c71b1); (try clear c72); (try clear c72b0); (try clear c72b1); (try clear c72b2); (try clear c73); (try clear c73b0); (try clear c73b1); (try clear c74); (try clear c74b0); (try clear c74b1); (try clear c74b2); (try clear c76); (try clear c77); (try clear c77b0); (try clear c77b1); (try clear c77b2); (try clear c81); (try clear c82); (try clear c82b0); (try clear c82b1); (try clear c82b2); (try clear c87); (try clear c87b0); (try clear c87b1); (try clear c88); (try clear c88b0); (try clear c88b1); (try clear c88b2); (try clear c94); (try clear c95); (try clear c95b0); (try clear c95b1); (try clear c95b2); (try clear c102); (try clear c102b0); (try clear c102b1); (try clear c102b2); (try clear c109); (try clear c138); (try clear c140); (try clear c141); (try clear c141b0); (try clear c141b1); (try clear c142); (try clear c142b0); (try clear c144); (try clear c144b0); (try clear c145); (try clear c145b0); (try clear c146); (try clear c146b0); (try clear p147); (try clear q147); (try clear hx147); (try clear c148); (try clear c148b0); (try clear p149); (try clear q149); (try clear hx149); (try clear c150); (try clear c151); (try clear c151b0); (try clear c152); (try clear c152b0); (try clear p153); (try clear q153); (try clear hx153); (try clear c154); (try clear c154b0); (try clear c154b1); (try clear c155); (try clear c155b0); (try clear c155b1); (try clear c156); (try clear c156b0); (try clear c156b1); (try clear p157); (try clear q157); (try clear hx157); (try clear qi157); (try clear c158); (try clear c158b0); (try clear c158b1); (try clear c160); (try clear c160b0); (try clear c161); (try clear c161b0); (try clear p162); (try clear q162); (try clear hx162); (try clear c163); (try clear c163b0); (try clear c163b1); (try clear hx485_0); (try clear hx486_0); (try clear hx487_0); (try clear p485); (try clear p486); (try clear p487); (try clear q485); (try clear q486); (try clear q487)
           obtain ⟨kq, HA, HJ138, HO_25, HO_27, HO_31, HO_39, HB⟩ := hcut
           cases kq with
           | zero => exact absurd HA.out (by simp [laws_FnLinesStretched.j7])
           | succ kj138 =>
            have H := HA.out
            clear HA
            simp only [laws_FnLinesStretched.j7] at H
            have HC164 := Aside0.mk H
            clear H
            go_upto_if 345 with (fail)
            repeat (go_quiet (fail); go_upto_if 345 with (fail))
            go_cut [45] from 345 to 365 (fun v45 wc => ∃ (kq : Nat), Aside0 (laws_FnLinesStretched.j8 kq t500 t501 t504 t505 t512 t513 t520 t524 = some r) ∧ Aside0 (kq ≤ kj138) ∧ Aside0 (Kd.R (Kd.int .i64) 3 wc w.heap.size (fun k_ => some k_ ≠ (v506 : Value).ownBlock ∧ some k_ ≠ (v514 : Value).ownBlock ∧ some k_ ≠ (v526 : Value).ownBlock) (.slice Ao61 t500.length co61) t500) ∧ Aside0 (Kd.R (Kd.int .i64) 3 wc w.heap.size (fun k_ => some k_ ≠ ((.slice Ao61 t500.length co61) : Value).ownBlock ∧ some k_ ≠ (v514 : Value).ownBlock ∧ some k_ ≠ (v526 : Value).ownBlock) v506 t504) ∧ Aside0 (Kd.R (Kd.int .i64) 3 wc w.heap.size (fun k_ => some k_ ≠ ((.slice Ao61 t500.length co61) : Value).ownBlock ∧ some k_ ≠ (v506 : Value).ownBlock ∧ some k_ ≠ (v526 : Value).ownBlock) v514 t512) ∧ Aside0 (Kd.R (Kd.int .i64) 3 wc w.heap.size (fun k_ => some k_ ≠ ((.slice Ao61 t500.length co61) : Value).ownBlock ∧ some k_ ≠ (v506 : Value).ownBlock ∧ some k_ ≠ (v514 : Value).ownBlock) v526 t524) ∧ Aside0 (Below w.heap.size w wc))
            case first => as_aux_lemma =>
             have H := HC164.out
             clear HC164
             by_cases c165 : t497 = true
             ·subst c165
              have H1 : (if (t496.size : Int) = t495 then (if 0 ≤ (wrap64 (Int.tdiv (wrap64 (t495 - (t494.size : Int))) 2)) then (if (wrap64 (Int.tdiv (wrap64 (t495 - (t494.size : Int))) 2)) ≤ (wrap64 ((wrap64 (Int.tdiv (wrap64 (t495 - (t494.size : Int))) 2)) + (t494.size : Int))) then (if (wrap64 ((wrap64 (Int.tdiv (wrap64 (t495 - (t494.size : Int))) 2)) + (t494.size : Int))) ≤ (t496.size : Int) then (if (t496.extract ((wrap64 (Int.tdiv (wrap64 (t495 - (t494.size : Int))) 2)) : Int).toNat ((wrap64 ((wrap64 (Int.tdiv (wrap64 (t495 - (t494.size : Int))) 2)) + (t494.size : Int))) : Int).toNat).toList = t494.toList then (laws_FnLinesStretched.j8 kj138 t500 t501 t504 t505 t512 t513 t520 t524) else (some false)) else (none)) else (none)) else (none)) else (some false)) = some r := by rw [if_pos rfl] at H; exact H
              clear H
              have H := H1
              clear H1
              by_cases c166 : (t496.size : Int) = t495
              ·rw [if_pos c166] at H
               have c166b0 : ((t496.size : Int) == t495) = true := beq_iff_eq.mpr c166
               have c166b1 : ((t496.size : Int) != t495) = false := bne_eq_false_iff_eq.mpr c166
               clear c166
               (first | rw [c166b0] | skip)
               obtain ⟨ji167, hji167⟩ : ∃ j_ : Int, (wrap64 (Int.tdiv (wrap64 (t495 - (t494.size : Int))) 2)) = j_ := ⟨_, rfl⟩
               replace H : (if 0 ≤ (ji167) then (if (ji167) ≤ (wrap64 ((ji167) + (t494.size : Int))) then (if (wrap64 ((ji167) + (t494.size : Int))) ≤ (t496.size : Int) then (if (t496.extract ((ji167) : Int).toNat ((wrap64 ((ji167) + (t494.size : Int))) : Int).toNat).toList = t494.toList then (laws_FnLinesStretched.j8 kj138 t500 t501 t504 t505 t512 t513 t520 t524) else (some false)) else (none)) else (none)) else (none)) = some r := by first | (rw [hji167] at H; exact H) | (simp only [hji167] at H ⊢; exact H)
               have hji167w : (IntKind.i64.wrap (Int.tdiv (wrap64 (t495 - (t494.size : Int))) 2)) = ji167 := (i64_w _).trans hji167
               by_cases c168 : 0 ≤ (ji167)
               ·rw [if_pos c168] at H
                have c168b0 := eq_true c168
                have c168b1 : decide (0 ≤ (ji167)) = true := decide_eq_true c168
                clear c168
                by_cases c169 : (ji167) ≤ (wrap64 ((ji167) + (t494.size : Int)))
                ·rw [if_pos c169] at H
                 have c169b0 := eq_true c169
                 have c169b1 : decide ((ji167) ≤ (wrap64 ((ji167) + (t494.size : Int)))) = true := decide_eq_true c169
                 by_cases c170 : (wrap64 ((ji167) + (t494.size : Int))) ≤ (t496.size : Int)
                 ·rw [if_pos c170] at H
                  have c170b0 := eq_true c170
                  have c170b1 : decide ((wrap64 ((ji167) + (t494.size : Int))) ≤ (t496.size : Int)) = true := decide_eq_true c170
                  by_cases c171 : (t496.extract ((ji167) : Int).toNat ((wrap64 ((ji167) + (t494.size : Int))) : Int).toNat).toList = t494.toList
                  ·rw [if_pos c171] at H
                   have c171b0 : ((t496.extract ((ji167) : Int).toNat ((wrap64 ((ji167) + (t494.size : Int))) : Int).toNat).toList == t494.toList) = true := beq_iff_eq.mpr c171
                   have c171b1 : ((t496.extract ((ji167) : Int).toNat ((wrap64 ((ji167) + (t494.size : Int))) : Int).toNat).toList != t494.toList) = false := bne_eq_false_iff_eq.mpr c171
                   clear c171
                   have H' := Aside0.mk H
                   clear H
                   go_wp2
                   repeat (go_quiet (fail); try go_wp2)
                   go_meet
                   case rel => exact ⟨_, H', ⟨by have := HJ7.out; have := HJ17.out; have := HJ53.out; have := HJ138.out; first | omega | exact Nat.le_refl _⟩, ⟨rr_ HO_25.out⟩, ⟨rr_ HO_27.out⟩, ⟨rr_ HO_31.out⟩, ⟨rr_ HO_39.out⟩, ⟨bw_⟩⟩
                  ·rw [if_neg c171] at H
                   have c171b0 : ((t496.extract ((ji167) : Int).toNat ((wrap64 ((ji167) + (t494.size : Int))) : Int).toNat).toList == t494.toList) = false := beq_eq_false_iff_ne.mpr c171
                   have c171b1 : ((t496.extract ((ji167) : Int).toNat ((wrap64 ((ji167) + (t494.size : Int))) : Int).toNat).toList != t494.toList) = true := bne_iff_ne.mpr c171
                   obtain rfl := Option.some.inj H
                   exact absurd hr_.out (by decide)
                 ·rw [if_neg c170] at H
                  exact absurd H (by simp)
                ·rw [if_neg c169] at H
                 exact absurd H (by simp)
               ·rw [if_neg c168] at H
                exact absurd H (by simp)
              ·rw [if_neg c166] at H
               have c166b0 : ((t496.size : Int) == t495) = false := beq_eq_false_iff_ne.mpr c166
               have c166b1 : ((t496.size : Int) != t495) = true := bne_iff_ne.mpr c166
               (first | rw [c166b0] | skip)
               obtain rfl := Option.some.inj H
               exact absurd hr_.out (by decide)
             ·replace c165 := Bool.eq_false_iff.mpr c165
              subst c165
              have H1 : (laws_FnLinesStretched.j8 kj138 t500 t501 t504 t505 t512 t513 t520 t524) = some r := by rw [if_neg (show ¬ (false = true) by decide)] at H; exact H
              clear H
              have H := H1
              clear H1
              have H' := Aside0.mk H
              clear H
              go_wp2
              repeat (go_quiet (fail); try go_wp2)
              go_meet
              case rel => exact ⟨_, H', ⟨by have := HJ7.out; have := HJ17.out; have := HJ53.out; have := HJ138.out; first | omega | exact Nat.le_refl _⟩, ⟨rr_ HO_25.out⟩, ⟨rr_ HO_27.out⟩, ⟨rr_ HO_31.out⟩, ⟨rr_ HO_39.out⟩, ⟨bw_⟩⟩
            case rest =>
             clear HC164
             (try clear c1); (try clear p1); (try clear q1); (try clear hx1); (try clear qi1); (try clear c2); (try clear p2); (try clear c3); (try clear c4); (try clear p4); (try clear q4); (try clear hx4); (try clear qi4); (try clear c5); (try clear p6); (try clear c7); (try clear c8); (try clear c9); (try clear c10); (try clear c13); (try clear c13b0); (try clear c13b1); (try clear c13b2); (try clear c14); (try clear p14); (try clear q14); (try clear hx14); (try clear c15); (try clear p15); (try clear q15); (try clear hx15); (try clear qi15); (try clear c16); (try clear p16); (try clear q16); (try clear hx16); (try clear c17); (try clear c19); (try clear c21); (try clear c21b0); (try clear c21b1); (try clear c26); (try clear c28); (try clear c28b0); (try clear c29); (try clear c29b0); (try clear c30); (try clear c30b0); (try clear c31); (try clear c31b0); (try clear c32); (try clear c32b0); (try clear c32b1); (try clear c33); (try clear c33b0); (try clear c34); (try clear c34b0); (try clear c36); (try clear c36b0); (try clear c37); (try clear c37b0); (try clear c38); (try clear c38b0); (try clear p48); (try clear q48); (try clear hx48); (try clear qi48); (try clear p64); (try clear c70); (try clear c70b0); (try clear c70b1); (try clear c70b2); (try clear c71); (try clear c71b0); (try clear c71b1); (try clear c72); (try clear c72b0); (try clear c72b1); (try clear c72b2); (try clear c73); (try clear c73b0); (try clear c73b1); (try clear c74); (try clear c74b0); (try clear c74b1); (try clear c74b2); (try clear c76); (try clear c77); (try clear c77b0); (try clear c77b1); (try clear c77b2); (try clear c81); (try clear c82); (try clear c82b0); (try clear c82b1); (try clear c82b2); (try clear c87); (try clear c87b0); (try clear c87b1); (try clear c88); (try clear c88b0); (try clear c88b1); (try clear c88b2); (try clear c94); (try clear c95); (try clear c95b0); (try clear c95b1); (try clear c95b2); (try clear c102); (try clear c102b0); (try clear c102b1); (try clear c102b2); (try clear c109); (try clear c138); (try clear c140); (try clear c141); (try clear c141b0); (try clear c141b1); (try clear c142); (try clear c142b0); (try clear c144); (try clear c144b0); (try clear c145); (try clear c145b0); (try clear c146); (try clear c146b0); (try clear p147); (try clear q147); (try clear hx147); (try clear c148); (try clear c148b0); (try clear p149); (try clear q149); (try clear hx149); (try clear c150); (try clear c151); (try clear c151b0); (try clear c152); (try clear c152b0); (try clear p153); (try clear q153); (try clear hx153); (try clear c154); (try clear c154b0); (try clear c154b1); (try clear c155); (try clear c155b0); (try clear c155b1); (try clear c156); (try clear c156b0); (try clear c156b1); (try clear p157); (try clear q157); (try clear hx157); (try clear qi157); (try clear c158); (try clear c158b0); (try clear c158b1); (try clear c160); (try clear c160b0); (try clear c161); (try clear c161b0); (try clear p162); (try clear q162); (try clear hx162); (try clear c163); (try clear c163b0); (try clear c163b1); (try clear c165); (try clear c166); (try clear c166b0); (try clear c166b1); (try clear c168); (try clear c168b0); (try clear c168b1); (try clear c169); (try clear c169b0); (try clear c169b1); (try clear c170); (try clear c170b0); (try clear c170b1); (try clear c171); (try clear c171b0); (try clear c171b1); (try clear hx485_0); (try clear hx486_0); (try clear hx487_0); (try clear p485); (try clear p486); (try clear p487); (try clear q485); (try clear q486); (try clear q487)
             obtain ⟨kq, HA, HJ163, HO_25, HO_27, HO_31, HO_39, HB⟩ := hcut
             cases kq with
             | zero => exact absurd HA.out (by simp [laws_FnLinesStretched.j8])
             | succ kj163 =>
              have H := HA.out
              clear HA
              simp only [laws_FnLinesStretched.j8] at H
              have HC172 := Aside0.mk H
              clear H
              go_upto_if 366 with (fail)
              repeat (go_quiet (fail); go_upto_if 366 with (fail))
              go_cut [46, 47, 48, 49, 50, 51] from 366 to 417 (fun v46 v47 v48 v49 v50 v51 wc => ∃ (kq : Nat), Aside0 (laws_FnLinesStretched.j11 kq t500 t501 t504 t505 t512 t520 t524 = some r) ∧ Aside0 (kq ≤ kj163) ∧ Aside0 (Kd.R (Kd.int .i64) 3 wc w.heap.size (fun k_ => some k_ ≠ (v506 : Value).ownBlock ∧ some k_ ≠ (v514 : Value).ownBlock ∧ some k_ ≠ (v526 : Value).ownBlock) (.slice Ao61 t500.length co61) t500) ∧ Aside0 (Kd.R (Kd.int .i64) 3 wc w.heap.size (fun k_ => some k_ ≠ ((.slice Ao61 t500.length co61) : Value).ownBlock ∧ some k_ ≠ (v514 : Value).ownBlock ∧ some k_ ≠ (v526 : Value).ownBlock) v506 t504) ∧ Aside0 (Kd.R (Kd.int .i64) 3 wc w.heap.size (fun k_ => some k_ ≠ ((.slice Ao61 t500.length co61) : Value).ownBlock ∧ some k_ ≠ (v506 : Value).ownBlock ∧ some k_ ≠ (v526 : Value).ownBlock) v514 t512) ∧ Aside0 (Kd.R (Kd.int .i64) 3 wc w.heap.size (fun k_ => some k_ ≠ ((.slice Ao61 t500.length co61) : Value).ownBlock ∧ some k_ ≠ (v506 : Value).ownBlock ∧ some k_ ≠ (v514 : Value).ownBlock) v526 t524) ∧ Aside0 (Below w.heap.size w wc))
              case first => as_aux_lemma =>
               have H := HC172.out
               clear HC172
               by_cases c173 : t513 = true
               ·subst c173
                have H1 : ((laws_xSum.f kj163 t500).bind fun t535 => ((laws_xRises.f kj163 t512).bind fun t536 => (if t536 = true then (laws_FnLinesStretched.l2 kj163 t500 t501 t504 t505 t512 t520 t524 t535 0 t500 (t500.length : Int) 0) else (some false)))) = some r := by rw [if_pos rfl] at H; exact H
                clear H
                have H := H1
                clear H1
                replace H := Option.bind_eq_some_iff.mp H
                obtain ⟨t535, A1740, H⟩ := H
                (try dsimp only at H)
                have A174 := Aside0.mk A1740
                clear A1740
                replace H := Option.bind_eq_some_iff.mp H
                obtain ⟨t536, A1750, H⟩ := H
                (try dsimp only at H)
                have A175 := Aside0.mk A1750
                clear A1750
                by_cases c176 : t536 = true
                ·subst c176
                 have H1 : (laws_FnLinesStretched.l2 kj163 t500 t501 t504 t505 t512 t520 t524 t535 0 t500 (t500.length : Int) 0) = some r := by rw [if_pos rfl] at H; exact H
                 clear H
                 have H := H1
                 clear H1
                 have H' := Aside0.mk H
                 clear H
                 go_wp2_with (first | (go_at_call 13; (with_reducible refine (laws_xSum.calls kj163 _ _ t500 t535 _ ?side1 ?side2 A174.out).mono ?_); (case side1 => exact cr_ (Kd.R_reads' HO_25.out).2.2); (case side2 => exact (Kd.R_reads' HO_25.out).2.1); rintro e w' ⟨rfl, ⟨nd, rfl⟩⟩; (try exact dd_); obtain ⟨Ao177, co177, eo177⟩ := Kd.R_slice HO_31.out; subst eo177) | (go_at_call 80; (with_reducible refine (laws_xRises.calls kj163 _ _ t512 true _ ?side1 ?side2 A175.out).mono ?_); (case side1 => exact cr_ (Kd.R_reads' HO_31.out).2.2); (case side2 => exact (Kd.R_reads' HO_31.out).2.1); rintro e w' ⟨rfl, ⟨nd, rfl⟩⟩; (try exact dd_)))
                 repeat (go_quiet (first | (go_at_call 13; (with_reducible refine (laws_xSum.calls kj163 _ _ t500 t535 _ ?side1 ?side2 A174.out).mono ?_); (case side1 => exact cr_ (Kd.R_reads' HO_25.out).2.2); (case side2 => exact (Kd.R_reads' HO_25.out).2.1); rintro e w' ⟨rfl, ⟨nd, rfl⟩⟩; (try exact dd_); obtain ⟨Ao177, co177, eo177⟩ := Kd.R_slice HO_31.out; subst eo177) | (go_at_call 80; (with_reducible refine (laws_xRises.calls kj163 _ _ t512 true _ ?side1 ?side2 A175.out).mono ?_); (case side1 => exact cr_ (Kd.R_reads' HO_31.out).2.2); (case side2 => exact (Kd.R_reads' HO_31.out).2.1); rintro e w' ⟨rfl, ⟨nd, rfl⟩⟩; (try exact dd_))); try go_wp2_with (first | (go_at_call 13; (with_reducible refine (laws_xSum.calls kj163 _ _ t500 t535 _ ?side1 ?side2 A174.out).mono ?_); (case side1 => exact cr_ (Kd.R_reads' HO_25.out).2.2); (case side2 => exact (Kd.R_reads' HO_25.out).2.1); rintro e w' ⟨rfl, ⟨nd, rfl⟩⟩; (try exact dd_); obtain ⟨Ao177, co177, eo177⟩ := Kd.R_slice HO_31.out; subst eo177) | (go_at_call 80; (with_reducible refine (laws_xRises.calls kj163 _ _ t512 true _ ?side1 ?side2 A175.out).mono ?_); (case side1 => exact cr_ (Kd.R_reads' HO_31.out).2.2); (case side2 => exact (Kd.R_reads' HO_31.out).2.1); rintro e w' ⟨rfl, ⟨nd, rfl⟩⟩; (try exact dd_))))
                 go_loopg [47, 374] kj163 (fun kq v47 v374 w' => ∃ (x47_6 : Int) (x374_6 : Int), v47 = .int .i64 x47_6 ∧ v374 = .int .i64 x374_6 ∧ Aside0 (laws_FnLinesStretched.l2 kq t500 t501 t504 t505 t512 t520 t524 t535 x47_6 t500 (t500.length : Int) x374_6 = some r) ∧ Aside0 (kq ≤ kj163) ∧ Aside0 (Kd.R (Kd.int .i64) 3 w' w.heap.size (fun k_ => some k_ ≠ (v506 : Value).ownBlock ∧ some k_ ≠ ((.slice Ao177 t512.length co177) : Value).ownBlock ∧ some k_ ≠ (v526 : Value).ownBlock) (.slice Ao61 t500.length co61) t500) ∧ Aside0 (Kd.R (Kd.int .i64) 3 w' w.heap.size (fun k_ => some k_ ≠ ((.slice Ao61 t500.length co61) : Value).ownBlock ∧ some k_ ≠ ((.slice Ao177 t512.length co177) : Value).ownBlock ∧ some k_ ≠ (v526 : Value).ownBlock ∧ some k_ ≠ ((.slice Ao61 t500.length co61) : Value).ownBlock) v506 t504) ∧ Aside0 (Kd.R (Kd.int .i64) 3 w' w.heap.size (fun k_ => some k_ ≠ ((.slice Ao61 t500.length co61) : Value).ownBlock ∧ some k_ ≠ (v506 : Value).ownBlock ∧ some k_ ≠ (v526 : Value).ownBlock ∧ some k_ ≠ ((.slice Ao61 t500.length co61) : Value).ownBlock) (.slice Ao177 t512.length co177) t512) ∧ Aside0 (Kd.R (Kd.int .i64) 3 w' w.heap.size (fun k_ => some k_ ≠ ((.slice Ao61 t500.length co61) : Value).ownBlock ∧ some k_ ≠ (v506 : Value).ownBlock ∧ some k_ ≠ ((.slice Ao177 t512.length co177) : Value).ownBlock ∧ some k_ ≠ ((.slice Ao61 t500.length co61) : Value).ownBlock) v526 t524) ∧ Aside0 (Kd.R (Kd.int .i64) 3 w' w.heap.size (fun k_ => some k_ ≠ (v506 : Value).ownBlock ∧ some k_ ≠ ((.slice Ao177 t512.length co177) : Value).ownBlock ∧ some k_ ≠ (v526 : Value).ownBlock) (.slice Ao61 t500.length co61) t500) ∧ Aside0 (Below w.heap.size w w'))
                 case atStart => exact ⟨(0), (0), rs_, rs_, H', ⟨Nat.le_refl _⟩, ⟨rr_ HO_25.out⟩, ⟨by (with_reducible repeat (first | apply Kd.R_alloc | apply Kd.R_drewN | apply Kd.R_drew)); exact Kd.R_mono HO_27.out (fun _ hk => ⟨hk.1, ⟨hk.2.1, ⟨hk.2.2, hk.1⟩⟩⟩)⟩, ⟨by (with_reducible repeat (first | apply Kd.R_alloc | apply Kd.R_drewN | apply Kd.R_drew)); exact Kd.R_mono HO_31.out (fun _ hk => ⟨hk.1, ⟨hk.2.1, ⟨hk.2.2, hk.1⟩⟩⟩)⟩, ⟨by (with_reducible repeat (first | apply Kd.R_alloc | apply Kd.R_drewN | apply Kd.R_drew)); exact Kd.R_mono HO_39.out (fun _ hk => ⟨hk.1, ⟨hk.2.1, ⟨hk.2.2, hk.1⟩⟩⟩)⟩, ⟨rr_ HO_25.out⟩, ⟨bw_⟩⟩
                 case round =>
                  clear H'
                  (try clear c1); (try clear p1); (try clear q1); (try clear hx1); (try clear qi1); (try clear c2); (try clear p2); (try clear c3); (try clear c4); (try clear p4); (try clear q4); (try clear hx4); (try clear qi4); (try clear c5); (try clear p6); (try clear c7); (try clear c8); (try clear c9); (try clear c10); (try clear c13); (try clear c13b0); (try clear c13b1); (try clear c13b2); (try clear c14); (try clear p14); (try clear q14); (try clear hx14); (try clear c15); (try clear p15); (try clear q15); (try clear hx15); (try clear qi15); (try clear c16); (try clear p16); (try clear q16); (try clear hx16); (try clear c17); (try clear c19); (try clear c21); (try clear c21b0); (try clear c21b1); (try clear c26); (try clear c28); (try clear c28b0); (try clear c29); (try clear c29b0); (try clear c30); (try clear c30b0); (try clear c31); (try clear c31b0); (try clear c32); (try clear c32b0); (try clear c32b1); (try clear c33); (try clear c33b0); (try clear c34); (try clear c34b0); (try clear c36); (try clear c36b0); (try clear c37); (try clear c37b0); (try clear c38); (try clear c38b0); (try clear p48); (try clear q48); (try clear hx48); (try clear qi48); (try clear p64); (try clear c70); (try clear c70b0); (try clear c70b1); (try clear c70b2); (try clear c71); (try clear c71b0); (try clear c71b1); (try clear c72); (try clear c72b0); (try clear c72b1); (try clear c72b2); (try clear c73); (try clear c73b0); (try clear c73b1); (try clear c74); (try clear c74b0); (try clear c74b1); (try clear c74b2); (try clear c76); (try clear c77); (try clear c77b0); (try clear c77b1); (try clear c77b2); (try clear c81); (try clear c82); (try clear c82b0); (try clear c82b1); (try clear c82b2); (try clear c87); (try clear c87b0); (try clear c87b1); (try clear c88); (try clear c88b0); (try clear c88b1); (try clear c88b2); (try clear c94); (try clear c95); (try clear c95b0); (try clear c95b1); (try clear c95b2); (try clear c102); (try clear c102b0); (try clear c102b1); (try clear c102b2); (try clear c109); (try clear c138); (try clear c140); (try clear c141); (try clear c141b0); (try clear c141b1); (try clear c142); (try clear c142b0); (try clear c144); (try clear c144b0); (try clear c145); (try clear c145b0); (try clear c146); (try clear c146b0); (try clear p147); (try clear q147); (try clear hx147); (try clear c148); (try clear c148b0); (try clear p149); (try clear q149); (try clear hx149); (try clear c150); (try clear c151); (try clear c151b0); (try clear c152); (try clear c152b0); (try clear p153); (try clear q153); (try clear hx153); (try clear c154); (try clear c154b0); (try clear c154b1); (try clear c155); (try clear c155b0); (try clear c155b1); (try clear c156); (try clear c156b0); (try clear c156b1); (try clear p157); (try clear q157); (try clear hx157); (try clear qi157); (try clear c158); (try clear c158b0); (try clear c158b1); (try clear c160); (try clear c160b0); (try clear c161); (try clear c161b0); (try clear p162); (try clear q162); (try clear hx162); (try clear c163); (try clear c163b0); (try clear c163b1); (try clear c165); (try clear c166); (try clear c166b0); (try clear c166b1); (try clear c168); (try clear c168b0); (try clear c168b1); (try clear c169); (try clear c169b0); (try clear c169b1); (try clear c170); (try clear c170b0); (try clear c170b1); (try clear c171); (try clear c171b0); (try clear c171b1); (try clear c173); (try clear c176); (try clear hx485_0); (try clear hx486_0); (try clear hx487_0); (try clear p485); (try clear p486); (try clear p487); (try clear q485); (try clear q486); (try clear q487)
                  obtain ⟨x47_6, x374_6, rfl, rfl, HA, HK6, HO_25, HO_27, HO_31, HO_39, HO_372, HB⟩ := hrel
                  cases gk with
                  | zero => exact absurd HA.out (by simp [laws_FnLinesStretched.l2])
                  | succ k6 =>
                   have H := HA.out
                   clear HA
                   simp only [laws_FnLinesStretched.l2] at H
                   by_cases c178 : x374_6 < (t500.length : Int)
                   ·rw [if_pos c178] at H
                    have c178b0 : decide (x374_6 < (t500.length : Int)) = true := decide_eq_true c178
                    clear c178
                    (first | rw [c178b0] | skip)
                    by_cases c179 : 0 ≤ x374_6
                    ·rw [if_pos c179] at H
                     have c179b0 : decide (0 ≤ x374_6) = true := decide_eq_true c179
                     clear c179
                     by_cases c180 : x374_6 < (t500.length : Int)
                     ·rw [if_pos c180] at H
                      have c180b0 : decide (x374_6 < (t500.length : Int)) = true := decide_eq_true c180
                      clear c180
                      have H' := Aside0.mk H
                      clear H
                      have p537 : 0 ≤ (x374_6 : Int) := of_decide_eq_true (by first | (with_reducible assumption) | assumption)
                      have q537 : x374_6 < (t500.length : Int) := of_decide_eq_true (by first | (with_reducible assumption) | assumption)
                      obtain ⟨ad537, e537, hx537_0⟩ := Kd.at_int (Kd.R_reads' HO_372.out).2.2 x374_6 p537 q537
                      cases e537
                      replace p537 := eq_true p537
                      replace q537 := eq_true q537
                      go_wp2
                      repeat (go_quiet (fail); try go_wp2)
                      go_loopg [50] k6 (fun kq v50 w' => ∃ (x50_7 : Int), v50 = .int .i64 x50_7 ∧ Aside0 (laws_FnLinesStretched.l3 kq t500 t501 t504 t505 t512 t520 t524 t535 x47_6 x374_6 (rd t500 x374_6) x50_7 t500 (t500.length : Int) x374_6 = some r) ∧ Aside0 (kq ≤ k6) ∧ Aside0 (Kd.R (Kd.int .i64) 3 w' w.heap.size (fun k_ => some k_ ≠ (v506 : Value).ownBlock ∧ some k_ ≠ ((.slice Ao177 t512.length co177) : Value).ownBlock ∧ some k_ ≠ (v526 : Value).ownBlock) (.slice (some ad537) t500.length co61) t500) ∧ Aside0 (Kd.R (Kd.int .i64) 3 w' w.heap.size (fun k_ => some k_ ≠ ((.slice (some ad537) t500.length co61) : Value).ownBlock ∧ some k_ ≠ ((.slice Ao177 t512.length co177) : Value).ownBlock ∧ some k_ ≠ (v526 : Value).ownBlock ∧ some k_ ≠ ((.slice (some ad537) t500.length co61) : Value).ownBlock) v506 t504) ∧ Aside0 (Kd.R (Kd.int .i64) 3 w' w.heap.size (fun k_ => some k_ ≠ ((.slice (some ad537) t500.length co61) : Value).ownBlock ∧ some k_ ≠ (v506 : Value).ownBlock ∧ some k_ ≠ (v526 : Value).ownBlock ∧ some k_ ≠ ((.slice (some ad537) t500.length co61) : Value).ownBlock) (.slice Ao177 t512.length co177) t512) ∧ Aside0 (Kd.R (Kd.int .i64) 3 w' w.heap.size (fun k_ => some k_ ≠ ((.slice (some ad537) t500.length co61) : Value).ownBlock ∧ some k_ ≠ (v506 : Value).ownBlock ∧ some k_ ≠ ((.slice Ao177 t512.length co177) : Value).ownBlock ∧ some k_ ≠ ((.slice (some ad537) t500.length co61) : Value).ownBlock) v526 t524) ∧ Aside0 (Kd.R (Kd.int .i64) 3 w' w.heap.size (fun k_ => some k_ ≠ (v506 : Value).ownBlock ∧ some k_ ≠ ((.slice Ao177 t512.length co177) : Value).ownBlock ∧ some k_ ≠ (v526 : Value).ownBlock) (.slice (some ad537) t500.length co61) t500) ∧ Aside0 (Below w.heap.size w w'))
                      case atStart => exact ⟨(1), rs_, H', ⟨Nat.le_refl _⟩, ⟨rr_ HO_25.out⟩, ⟨rr_ HO_27.out⟩, ⟨rr_ HO_31.out⟩, ⟨rr_ HO_39.out⟩, ⟨rr_ HO_372.out⟩, ⟨bw_⟩⟩
                      case round =>
                       clear H'
                       (try clear c1); (try clear p1); (try clear q1); (try clear hx1); (try clear qi1); (try clear c2); (try clear p2); (try clear c3); (try clear c4); (try clear p4); (try clear q4); (try clear hx4); (try clear qi4); (try clear c5); (try clear p5); (try clear q5); (try clear hx5); (try clear p6); (try clear c7); (try clear c8); (try clear c9); (try clear c10); (try clear c13); (try clear c13b0); (try clear c13b1); (try clear c13b2); (try clear c14); (try clear p14); (try clear q14); (try clear hx14); (try clear c15); (try clear p15); (try clear q15); (try clear hx15); (try clear qi15); (try clear c16); (try clear p16); (try clear q16); (try clear hx16); (try clear c17); (try clear c18); (try clear c19); (try clear c21); (try clear c21b0); (try clear c21b1); (try clear c26); (try clear c28); (try clear c28b0); (try clear c29); (try clear c29b0); (try clear c30); (try clear c30b0); (try clear c31); (try clear c31b0); (try clear c32); (try clear c32b0); (try clear c32b1); (try clear c33); (try clear c33b0); (try clear c34); (try clear c34b0); (try clear c36); (try clear c36b0); (try clear c37); (try clear c37b0); (try clear c38); (try clear c38b0); (try clear p48); (try clear q48); (try clear hx48); (try clear qi48); (try clear p53); (try clear q53); (try clear hx53); (try clear p64); (try clear c70); (try clear c70b0); (try clear c70b1); (try clear c70b2); (try clear c71); (try clear c71b0); (try clear c71b1); (try clear c72); (try clear c72b0); (try clear c72b1); (try clear c72b2); (try clear c73); (try clear c73b0); (try clear c73b1); (try clear c74); (try clear c74b0); (try clear c74b1); (try clear c74b2); (try clear c76); (try clear c77); (try clear c77b0); (try clear c77b1); (try clear c77b2); (try clear c81); (try clear c82); (try clear c82b0); (try clear c82b1); (try clear c82b2); (try clear c87); (try clear c87b0); (try clear c87b1); (try clear c88); (try clear c88b0); (try clear c88b1); (try clear c88b2); (try clear c94); (try clear c95); (try clear c95b0); (try clear c95b1); (try clear c95b2); (try clear c102); (try clear c102b0); (try clear c102b1); (try clear c102b2); (try clear c109); (try clear c138); (try clear c140); (try clear c141); (try clear c141b0); (try clear c141b1); (try clear c142); (try clear c142b0); (try clear c144); (try clear c144b0); (try clear c145); (try clear c145b0); (try clear c146); (try clear c146b0); (try clear p147); (try clear q147); (try clear hx147); (try clear c148); (try clear c148b0); (try clear p149); (try clear q149); (try clear hx149); (try clear c150); (try clear c151); (try clear c151b0); (try clear c152); (try clear c152b0); (try clear p153); (try clear q153); (try clear hx153); (try clear c154); (try clear c154b0); (try clear c154b1); (try clear c155); (try clear c155b0); (try clear c155b1); (try clear c156); (try clear c156b0); (try clear c156b1); (try clear p157); (try clear q157); (try clear hx157); (try clear qi157); (try clear c158); (try clear c158b0); (try clear c158b1); (try clear c160); (try clear c160b0); (try clear c161); (try clear c161b0); (try clear p162); (try clear q162); (try clear hx162); (try clear c163); (try clear c163b0); (try clear c163b1); (try clear c165); (try clear c166); (try clear c166b0); (try clear c166b1); (try clear c168); (try clear c168b0); (try clear c168b1); (try clear c169); (try clear c169b0); (try clear c169b1); (try clear c170); (try clear c170b0); (try clear c170b1); (try clear c171); (try clear c171b0); (try clear c171b1); (try clear c173); (try clear c176); (try clear c178); (try clear c178b0); (try clear c179); (try clear c179b0); (try clear c180); (try clear c180b0); (try clear hx485_0); (try clear hx486_0); (try clear hx487_0); (try clear hx537_0); (try clear p485); (try clear p486); (try clear p487); (try clear p537); (try clear q485); (try clear q486); (try clear q487); (try clear q537)
                       obtain ⟨x50_7, rfl, HA, HK7, HO_25, HO_27, HO_31, HO_39, HO_372, HB⟩ := hrel
                       cases gk with
                       | zero => exact absurd HA.out (by simp [laws_FnLinesStretched.l3])
                       | succ k7 =>
                        have H := HA.out
                        clear HA
                        simp only [laws_FnLinesStretched.l3] at H
                        by_cases c181 : x50_7 ≤ (rd t500 x374_6)
                        ·rw [if_pos c181] at H
                         have c181b0 : decide (x50_7 ≤ (rd t500 x374_6)) = true := decide_eq_true c181
                         clear c181
                         by_cases c182 : x50_7 = (rd t500 x374_6)
                         ·rw [if_pos c182] at H
                          have c182b0 : (x50_7 == (rd t500 x374_6)) = true := beq_iff_eq.mpr c182
                          have c182b1 : (x50_7 != (rd t500 x374_6)) = false := bne_eq_false_iff_eq.mpr c182
                          clear c182
                          by_cases c183 : (wrap64 (x374_6 + 1)) < (t500.length : Int)
                          ·rw [if_pos c183] at H
                           have c183b0 : decide ((wrap64 (x374_6 + 1)) < (t500.length : Int)) = true := decide_eq_true c183
                           clear c183
                           replace H := Option.bind_eq_some_iff.mp H
                           obtain ⟨t538, A1840, H⟩ := H
                           (try dsimp only at H)
                           have A184 := Aside0.mk A1840
                           clear A1840
                           by_cases c185 : (true != t538) = true
                           ·rw [if_pos c185] at H
                            have c185b0 : (true != t538) = true := c185
                            (try (have c185b1 : decide (true = t538) = false := by simpa using c185))
                            (try (have c185b2 : (true == t538) = false := by simpa using c185))
                            (try (have c185b3 : ¬ (true = t538) := by simpa using c185))
                            clear c185
                            obtain rfl := Option.some.inj H
                            exact absurd hr_.out (by decide)
                           ·rw [if_neg c185] at H
                            have c185b0 : (true != t538) = false := by simpa using c185
                            (try (have c185b1 : decide (true = t538) = true := by simpa using c185))
                            (try (have c185b2 : (true == t538) = true := by simpa using c185))
                            clear c185
                            have H' := Aside0.mk H
                            clear H
                            go_wp2_with (first | (go_at_call 81; (with_reducible refine (laws_xHas.calls k7 _ _ t512 (wrap64 (x47_6 + x50_7)) t538 _ ?side1 ?side2 A184.out).mono ?_); (case side1 => exact cr_ (Kd.R_reads' HO_31.out).2.2); (case side2 => exact (Kd.R_reads' HO_31.out).2.1); rintro e w' ⟨rfl, ⟨nd, rfl⟩⟩; (try exact dd_)))
                            repeat (go_quiet (first | (go_at_call 81; (with_reducible refine (laws_xHas.calls k7 _ _ t512 (wrap64 (x47_6 + x50_7)) t538 _ ?side1 ?side2 A184.out).mono ?_); (case side1 => exact cr_ (Kd.R_reads' HO_31.out).2.2); (case side2 => exact (Kd.R_reads' HO_31.out).2.1); rintro e w' ⟨rfl, ⟨nd, rfl⟩⟩; (try exact dd_))); try go_wp2_with (first | (go_at_call 81; (with_reducible refine (laws_xHas.calls k7 _ _ t512 (wrap64 (x47_6 + x50_7)) t538 _ ?side1 ?side2 A184.out).mono ?_); (case side1 => exact cr_ (Kd.R_reads' HO_31.out).2.2); (case side2 => exact (Kd.R_reads' HO_31.out).2.1); rintro e w' ⟨rfl, ⟨nd, rfl⟩⟩; (try exact dd_))))
                            go_roundg k7
                            case measure => have := HJ7.out; have := HJ17.out; have := HJ53.out; have := HJ138.out; have := HJ163.out; have := HK6.out; have := HK7.out; omega
                            case rel => exact ⟨(wrap64 (x50_7 + 1)), rs_, H', ⟨by have := HJ7.out; have := HJ17.out; have := HJ53.out; have := HJ138.out; have := HJ163.out; have := HK6.out; have := HK7.out; omega⟩, ⟨rr_ HO_25.out⟩, ⟨rr_ HO_27.out⟩, ⟨rr_ HO_31.out⟩, ⟨rr_ HO_39.out⟩, ⟨rr_ HO_372.out⟩, ⟨bw_⟩⟩
                          ·rw [if_neg c183] at H
                           have c183b0 : decide ((wrap64 (x374_6 + 1)) < (t500.length : Int)) = false := decide_eq_false c183
                           clear c183
                           by_cases c186 : x50_7 > 1
                           ·rw [if_pos c186] at H
                            have c186b0 : decide (1 < x50_7) = true := decide_eq_true c186
                            clear c186
                            replace H := Option.bind_eq_some_iff.mp H
                            obtain ⟨t539, A1870, H⟩ := H
                            (try dsimp only at H)
                            have A187 := Aside0.mk A1870
                            clear A1870
                            by_cases c188 : ((decide (x50_7 < (wrap64 ((rd t500 x374_6) - 1)))) != t539) = true
                            ·rw [if_pos c188] at H
                             have c188b0 : ((decide (x50_7 < (wrap64 ((rd t500 x374_6) - 1)))) != t539) = true := c188
                             (try (have c188b1 : decide ((decide (x50_7 < (wrap64 ((rd t500 x374_6) - 1)))) = t539) = false := by simpa using c188))
                             (try (have c188b2 : ((decide (x50_7 < (wrap64 ((rd t500 x374_6) - 1)))) == t539) = false := by simpa using c188))
                             (try (have c188b3 : ¬ ((decide (x50_7 < (wrap64 ((rd t500 x374_6) - 1)))) = t539) := by simpa using c188))
                             clear c188
                             obtain rfl := Option.some.inj H
                             exact absurd hr_.out (by decide)
                            ·rw [if_neg c188] at H
                             have c188b0 : ((decide (x50_7 < (wrap64 ((rd t500 x374_6) - 1)))) != t539) = false := by simpa using c188
                             (try (have c188b1 : decide ((decide (x50_7 < (wrap64 ((rd t500 x374_6) - 1)))) = t539) = true := by simpa using c188))
                             (try (have c188b2 : ((decide (x50_7 < (wrap64 ((rd t500 x374_6) - 1)))) == t539) = true := by simpa using c188))
                             clear c188
                             have H' := Aside0.mk H
                             clear H
                             go_wp2_with (first | (go_at_call 81; (with_reducible refine (laws_xHas.calls k7 _ _ t512 (wrap64 (x47_6 + x50_7)) t539 _ ?side1 ?side2 A187.out).mono ?_); (case side1 => exact cr_ (Kd.R_reads' HO_31.out).2.2); (case side2 => exact (Kd.R_reads' HO_31.out).2.1); rintro e w' ⟨rfl, ⟨nd, rfl⟩⟩; (try exact dd_)))
                             repeat (go_quiet (first | (go_at_call 81; (with_reducible refine (laws_xHas.calls k7 _ _ t512 (wrap64 (x47_6 + x50_7)) t539 _ ?side1 ?side2 A187.out).mono ?_); (case side1 => exact cr_ (Kd.R_reads' HO_31.out).2.2); (case side2 => exact (Kd.R_reads' HO_31.out).2.1); rintro e w' ⟨rfl, ⟨nd, rfl⟩⟩; (try exact dd_))); try go_wp2_with (first | (go_at_call 81; (with_reducible refine (laws_xHas.calls k7 _ _ t512 (wrap64 (x47_6 + x50_7)) t539 _ ?side1 ?side2 A187.out).mono ?_); (case side1 => exact cr_ (Kd.R_reads' HO_31.out).2.2); (case side2 => exact (Kd.R_reads' HO_31.out).2.1); rintro e w' ⟨rfl, ⟨nd, rfl⟩⟩; (try exact dd_))))
                             go_roundg k7
                             case measure => have := HJ7.out; have := HJ17.out; have := HJ53.out; have := HJ138.out; have := HJ163.out; have := HK6.out; have := HK7.out; omega
                             case rel => exact ⟨(wrap64 (x50_7 + 1)), rs_, H', ⟨by have := HJ7.out; have := HJ17.out; have := HJ53.out; have := HJ138.out; have := HJ163.out; have := HK6.out; have := HK7.out; omega⟩, ⟨rr_ HO_25.out⟩, ⟨rr_ HO_27.out⟩, ⟨rr_ HO_31.out⟩, ⟨rr_ HO_39.out⟩, ⟨rr_ HO_372.out⟩, ⟨bw_⟩⟩
                           ·rw [if_neg c186] at H
                            have c186b0 : decide (1 < x50_7) = false := decide_eq_false c186
                            clear c186
                            replace H := Option.bind_eq_some_iff.mp H
                            obtain ⟨t540, A1890, H⟩ := H
                            (try dsimp only at H)
                            have A189 := Aside0.mk A1890
                            clear A1890
                            by_cases c190 : (false != t540) = true
                            ·rw [if_pos c190] at H
                             have c190b0 : (false != t540) = true := c190
                             (try (have c190b1 : decide (false = t540) = false := by simpa using c190))
                             (try (have c190b2 : (false == t540) = false := by simpa using c190))
                             (try (have c190b3 : ¬ (false = t540) := by simpa using c190))
                             clear c190
                             obtain rfl := Option.some.inj H
                             exact absurd hr_.out (by decide)
                            ·rw [if_neg c190] at H
                             have c190b0 : (false != t540) = false := by simpa using c190
                             (try (have c190b1 : decide (false = t540) = true := by simpa using c190))
                             (try (have c190b2 : (false == t540) = true := by simpa using c190))
                             clear c190
                             have H' := Aside0.mk H
                             clear H
                             go_wp2_with (first | (go_at_call 81; (with_reducible refine (laws_xHas.calls k7 _ _ t512 (wrap64 (x47_6 + x50_7)) t540 _ ?side1 ?side2 A189.out).mono ?_); (case side1 => exact cr_ (Kd.R_reads' HO_31.out).2.2); (case side2 => exact (Kd.R_reads' HO_31.out).2.1); rintro e w' ⟨rfl, ⟨nd, rfl⟩⟩; (try exact dd_)))
                             repeat (go_quiet (first | (go_at_call 81; (with_reducible refine (laws_xHas.calls k7 _ _ t512 (wrap64 (x47_6 + x50_7)) t540 _ ?side1 ?side2 A189.out).mono ?_); (case side1 => exact cr_ (Kd.R_reads' HO_31.out).2.2); (case side2 => exact (Kd.R_reads' HO_31.out).2.1); rintro e w' ⟨rfl, ⟨nd, rfl⟩⟩; (try exact dd_))); try go_wp2_with (first | (go_at_call 81; (with_reducible refine (laws_xHas.calls k7 _ _ t512 (wrap64 (x47_6 + x50_7)) t540 _ ?side1 ?side2 A189.out).mono ?_); (case side1 => exact cr_ (Kd.R_reads' HO_31.out).2.2); (case side2 => exact (Kd.R_reads' HO_31.out).2.1); rintro e w' ⟨rfl, ⟨nd, rfl⟩⟩; (try exact dd_))))
                             go_roundg k7
                             case measure => have := HJ7.out; have := HJ17.out; have := HJ53.out; have := HJ138.out; have := HJ163.out; have := HK6.out; have := HK7.out; omega
                             case rel => exact ⟨(wrap64 (x50_7 + 1)), rs_, H', ⟨by have := HJ7.out; have := HJ17.out; have := HJ53.out; have := HJ138.out; have := HJ163.out; have := HK6.out; have := HK7.out; omega⟩, ⟨rr_ HO_25.out⟩, ⟨rr_ HO_27.out⟩, ⟨rr_ HO_31.out⟩, ⟨rr_ HO_39.out⟩, ⟨rr_ HO_372.out⟩, ⟨bw_⟩⟩
                         ·rw [if_neg c182] at H
                          have c182b0 : (x50_7 == (rd t500 x374_6)) = false := beq_eq_false_iff_ne.mpr c182
                          have c182b1 : (x50_7 != (rd t500 x374_6)) = true := bne_iff_ne.mpr c182
                          by_cases c191 : x50_7 > 1
                          ·rw [if_pos c191] at H
                           have c191b0 : decide (1 < x50_7) = true := decide_eq_true c191
                           clear c191
                           replace H := Option.bind_eq_some_iff.mp H
                           obtain ⟨t541, A1920, H⟩ := H
                           (try dsimp only at H)
                           have A192 := Aside0.mk A1920
                           clear A1920
                           by_cases c193 : ((decide (x50_7 < (wrap64 ((rd t500 x374_6) - 1)))) != t541) = true
                           ·rw [if_pos c193] at H
                            have c193b0 : ((decide (x50_7 < (wrap64 ((rd t500 x374_6) - 1)))) != t541) = true := c193
                            (try (have c193b1 : decide ((decide (x50_7 < (wrap64 ((rd t500 x374_6) - 1)))) = t541) = false := by simpa using c193))
                            (try (have c193b2 : ((decide (x50_7 < (wrap64 ((rd t500 x374_6) - 1)))) == t541) = false := by simpa using c193))
                            (try (have c193b3 : ¬ ((decide (x50_7 < (wrap64 ((rd t500 x374_6) - 1)))) = t541) := by simpa using c193))
                            clear c193
                            obtain rfl := Option.some.inj H
                            exact absurd hr_.out (by decide)
                           ·rw [if_neg c193] at H
                            have c193b0 : ((decide (x50_7 < (wrap64 ((rd t500 x374_6) - 1)))) != t541) = false := by simpa using c193
                            (try (have c193b1 : decide ((decide (x50_7 < (wrap64 ((rd t500 x374_6) - 1)))) = t541) = true := by simpa using c193))
                            (try (have c193b2 : ((decide (x50_7 < (wrap64 ((rd t500 x374_6) - 1)))) == t541) = true := by simpa using c193))
                            clear c193
                            have H' := Aside0.mk H
                            clear H
                            go_wp2_with (first | (go_at_call 81; (with_reducible refine (laws_xHas.calls k7 _ _ t512 (wrap64 (x47_6 + x50_7)) t541 _ ?side1 ?side2 A192.out).mono ?_); (case side1 => exact cr_ (Kd.R_reads' HO_31.out).2.2); (case side2 => exact (Kd.R_reads' HO_31.out).2.1); rintro e w' ⟨rfl, ⟨nd, rfl⟩⟩; (try exact dd_)))
                            repeat (go_quiet (first | (go_at_call 81; (with_reducible refine (laws_xHas.calls k7 _ _ t512 (wrap64 (x47_6 + x50_7)) t541 _ ?side1 ?side2 A192.out).mono ?_); (case side1 => exact cr_ (Kd.R_reads' HO_31.out).2.2); (case side2 => exact (Kd.R_reads' HO_31.out).2.1); rintro e w' ⟨rfl, ⟨nd, rfl⟩⟩; (try exact dd_))); try go_wp2_with (first | (go_at_call 81; (with_reducible refine (laws_xHas.calls k7 _ _ t512 (wrap64 (x47_6 + x50_7)) t541 _ ?side1 ?side2 A192.out).mono ?_); (case side1 => exact cr_ (Kd.R_reads' HO_31.out).2.2); (case side2 => exact (Kd.R_reads' HO_31.out).2.1); rintro e w' ⟨rfl, ⟨nd, rfl⟩⟩; (try exact dd_))))
                            go_roundg k7
                            case measure => have := HJ7.out; have := HJ17.out; have := HJ53.out; have := HJ138.out; have := HJ163.out; have := HK6.out; have := HK7.out; omega
                            case rel => exact ⟨(wrap64 (x50_7 + 1)), rs_, H', ⟨by have := HJ7.out; have := HJ17.out; have := HJ53.out; have := HJ138.out; have := HJ163.out; have := HK6.out; have := HK7.out; omega⟩, ⟨rr_ HO_25.out⟩, ⟨rr_ HO_27.out⟩, ⟨rr_ HO_31.out⟩, ⟨rr_ HO_39.out⟩, ⟨rr_ HO_372.out⟩, ⟨bw_⟩⟩
                          ·rw [if_neg c191] at H
                           have c191b0 : decide (1 < x50_7) = false := decide_eq_false c191
                           clear c191
                           replace H := Option.bind_eq_some_iff.mp H
                           obtain ⟨t542, A1940, H⟩ := H
                           (try dsimp only at H)
                           have A194 := Aside0.mk A1940
                           clear A1940
                           by_cases c195 : (false != t542) = true
                           ·rw [if_pos c195] at H
                            have c195b0 : (false != t542) = true := c195
                            (try (have c195b1 : decide (false = t542) = false := by simpa using c195))
                            (try (have c195b2 : (false == t542) = false := by simpa using c195))
                            (try (have c195b3 : ¬ (false = t542) := by simpa using c195))
                            clear c195
                            obtain rfl := Option.some.inj H
                            exact absurd hr_.out (by decide)
                           ·rw [if_neg c195] at H
                            have c195b0 : (false != t542) = false := by simpa using c195
                            (try (have c195b1 : decide (false = t542) = true := by simpa using c195))
                            (try (have c195b2 : (false == t542) = true := by simpa using c195))
                            clear c195
                            have H' := Aside0.mk H
                            clear H
                            go_wp2_with (first | (go_at_call 81; (with_reducible refine (laws_xHas.calls k7 _ _ t512 (wrap64 (x47_6 + x50_7)) t542 _ ?side1 ?side2 A194.out).mono ?_); (case side1 => exact cr_ (Kd.R_reads' HO_31.out).2.2); (case side2 => exact (Kd.R_reads' HO_31.out).2.1); rintro e w' ⟨rfl, ⟨nd, rfl⟩⟩; (try exact dd_)))
                            repeat (go_quiet (first | (go_at_call 81; (with_reducible refine (laws_xHas.calls k7 _ _ t512 (wrap64 (x47_6 + x50_7)) t542 _ ?side1 ?side2 A194.out).mono ?_); (case side1 => exact cr_ (Kd.R_reads' HO_31.out).2.2); (case side2 => exact (Kd.R_reads' HO_31.out).2.1); rintro e w' ⟨rfl, ⟨nd, rfl⟩⟩; (try exact dd_))); try go_wp2_with (first | (go_at_call 81; (with_reducible refine (laws_xHas.calls k7 _ _ t512 (wrap64 (x47_6 + x50_7)) t542 _ ?side1 ?side2 A194.out).mono ?_); (case side1 => exact cr_ (Kd.R_reads' HO_31.out).2.2); (case side2 => exact (Kd.R_reads' HO_31.out).2.1); rintro e w' ⟨rfl, ⟨nd, rfl⟩⟩; (try exact dd_))))
                            go_roundg k7
                            case measure => have := HJ7.out; have := HJ17.out; have := HJ53.out; have := HJ138.out; have := HJ163.out; have := HK6.out; have := HK7.out; omega
                            case rel => exact ⟨(wrap64 (x50_7 + 1)), rs_, H', ⟨by have := HJ7.out; have := HJ17.out; have := HJ53.out; have := HJ138.out; have := HJ163.out; have := HK6.out; have := HK7.out; omega⟩, ⟨rr_ HO_25.out⟩, ⟨rr_ HO_27.out⟩, ⟨rr_ HO_31.out⟩, ⟨rr_ HO_39.out⟩, ⟨rr_ HO_372.out⟩, ⟨bw_⟩⟩
                        ·rw [if_neg c181] at H
                         have c181b0 : decide (x50_7 ≤ (rd t500 x374_6)) = false := decide_eq_false c181
                         clear c181
                         have H' := Aside0.mk H
                         clear H
                         go_wp2
                         repeat (go_quiet (fail); try go_wp2)
                         go_roundg k7
                         case measure => have := HJ7.out; have := HJ17.out; have := HJ53.out; have := HJ138.out; have := HJ163.out; have := HK6.out; have := HK7.out; omega
                         case rel => exact ⟨(wrap64 (x47_6 + (rd t500 x374_6))), (wrap64 (x374_6 + 1)), rs_, rs_, H', ⟨by have := HJ7.out; have := HJ17.out; have := HJ53.out; have := HJ138.out; have := HJ163.out; have := HK6.out; have := HK7.out; omega⟩, ⟨rr_ HO_25.out⟩, ⟨rr_ HO_27.out⟩, ⟨rr_ HO_31.out⟩, ⟨rr_ HO_39.out⟩, ⟨rr_ HO_372.out⟩, ⟨bw_⟩⟩
                     ·rw [if_neg c180] at H
                      exact absurd H (by simp)
                    ·rw [if_neg c179] at H
                     exact absurd H (by simp)
                   ·rw [if_neg c178] at H
                    have c178b0 : decide (x374_6 < (t500.length : Int)) = false := decide_eq_false c178
                    clear c178
                    (first | rw [c178b0] | skip)
                    by_cases c196 : x47_6 = t535
                    ·rw [if_pos c196] at H
                     have c196b0 : (x47_6 == t535) = true := beq_iff_eq.mpr c196
                     have c196b1 : (x47_6 != t535) = false := bne_eq_false_iff_eq.mpr c196
                     clear c196
                     have H' := Aside0.mk H
                     clear H
                     go_wp2
                     repeat (go_quiet (fail); try go_wp2)
                     go_meet
                     case rel => exact ⟨_, H', ⟨by have := HJ7.out; have := HJ17.out; have := HJ53.out; have := HJ138.out; have := HJ163.out; have := HK6.out; first | omega | exact Nat.le_refl _⟩, ⟨rr_ HO_25.out⟩, ⟨by (with_reducible repeat (first | apply Kd.R_alloc | apply Kd.R_drewN | apply Kd.R_drew)); exact Kd.R_mono HO_27.out (fun _ hk => ⟨hk.1, ⟨hk.2.1, hk.2.2.1⟩⟩)⟩, ⟨by (with_reducible repeat (first | apply Kd.R_alloc | apply Kd.R_drewN | apply Kd.R_drew)); exact Kd.R_mono HO_31.out (fun _ hk => ⟨hk.1, ⟨hk.2.1, hk.2.2.1⟩⟩)⟩, ⟨by (with_reducible repeat (first | apply Kd.R_alloc | apply Kd.R_drewN | apply Kd.R_drew)); exact Kd.R_mono HO_39.out (fun _ hk => ⟨hk.1, ⟨hk.2.1, hk.2.2.1⟩⟩)⟩, ⟨bw_⟩⟩
                    ·rw [if_neg c196] at H
                     have c196b0 : (x47_6 == t535) = false := beq_eq_false_iff_ne.mpr c196
                     have c196b1 : (x47_6 != t535) = true := bne_iff_ne.mpr c196
                     obtain rfl := Option.some.inj H
                     exact absurd hr_.out (by decide)
                ·replace c176 := Bool.eq_false_iff.mpr c176
                 subst c176
                 have H1 : (some false) = some r := by rw [if_neg (show ¬ (false = true) by decide)] at H; exact H
                 clear H
                 have H := H1
                 clear H1
                 obtain rfl := Option.some.inj H
                 exact absurd hr_.out (by decide)
               ·replace c173 := Bool.eq_false_iff.mpr c173
                subst c173
                have H1 : (laws_FnLinesStretched.j11 kj163 t500 t501 t504 t505 t512 t520 t524) = some r := by rw [if_neg (show ¬ (false = true) by decide)] at H; exact H
                clear H
                have H := H1
                clear H1
                have H' := Aside0.mk H
                clear H
                go_wp2
                repeat (go_quiet (fail); try go_wp2)
                go_meet
                case rel => exact ⟨_, H', ⟨by have := HJ7.out; have := HJ17.out; have := HJ53.out; have := HJ138.out; have := HJ163.out; first | omega | exact Nat.le_refl _⟩, ⟨rr_ HO_25.out⟩, ⟨rr_ HO_27.out⟩, ⟨rr_ HO_31.out⟩, ⟨rr_ HO_39.out⟩, ⟨bw_⟩⟩
              case rest =>
               clear HC172
               (try clear c1); (try clear p1); (try clear q1); (try clear hx1); (try clear qi1); (try clear c2); (try clear p2); (try clear c3); (try clear c4); (try clear p4); (try clear q4); (try clear hx4); (try clear qi4); (try clear c5); (try clear p5); (try clear q5); (try clear hx5); (try clear p6); (try clear c7); (try clear c8); (try clear c9); (try clear c10); (try clear c13); (try clear c13b0); (try clear c13b1); (try clear c13b2); (try clear c14); (try clear p14); (try clear q14); (try clear hx14); (try clear c15); (try clear p15); (try clear q15); (try clear hx15); (try clear qi15); (try clear c16); (try clear p16); (try clear q16); (try clear hx16); (try clear c17); (try clear c18); (try clear c19); (try clear c21); (try clear c21b0); (try clear c21b1); (try clear c26); (try clear c28); (try clear c28b0); (try clear c29); (try clear c29b0); (try clear c30); (try clear c30b0); (try clear c31); (try clear c31b0); (try clear c32); (try clear c32b0); (try clear c32b1); (try clear c33); (try clear c33b0); (try clear c34); (try clear c34b0); (try clear c36); (try clear c36b0); (try clear c37); (try clear c37b0); (try clear c38); (try clear c38b0); (try clear p48); (try clear q48); (try clear hx48); (try clear qi48); (try clear p53); (try clear q53); (try clear hx53); (try clear p64); (try clear c70); (try clear c70b0); (try clear c70b1); (try clear c70b2); (try clear c71); (try clear c71b0); (try clear c71b1); (try clear c72); (try clear c72b0); (try clear c72b1); (try clear c72b2); (try clear c73); (try clear c73b0); (try clear c73b1); (try clear c74); (try clear c74b0); (try clear c74b1); (try clear c74b2); (try clear c76); (try clear c77); (try clear c77b0); (try clear c77b1); (try clear c77b2); (try clear c81); (try clear c82); (try clear c82b0); (try clear c82b1); (try clear c82b2); (try clear c87); (try clear c87b0); (try clear c87b1); (try clear c88); (try clear c88b0); (try clear c88b1); (try clear c88b2); (try clear c94); (try clear c95); (try clear c95b0); (try clear c95b1); (try clear c95b2); (try clear c102); (try clear c102b0); (try clear c102b1); (try clear c102b2); (try clear c109); (try clear c138); (try clear c140); (try clear c141); (try clear c141b0); (try clear c141b1); (try clear c142); (try clear c142b0); (try clear c144); (try clear c144b0); (try clear c145); (try clear c145b0); (try clear c146); (try clear c146b0); (try clear p147); (try clear q147); (try clear hx147); (try clear c148); (try clear c148b0); (try clear p149); (try clear q149); (try clear hx149); (try clear c150); (try clear c151); (try clear c151b0); (try clear c152); (try clear c152b0); (try clear p153); (try clear q153); (try clear hx153); (try clear c154); (try clear c154b0); (try clear c154b1); (try clear c155); (try clear c155b0); (try clear c155b1); (try clear c156); (try clear c156b0); (try clear c156b1); (try clear p157); (try clear q157); (try clear hx157); (try clear qi157); (try clear c158); (try clear c158b0); (try clear c158b1); (try clear c160); (try clear c160b0); (try clear c161); (try clear c161b0); (try clear p162); (try clear q162); (try clear hx162); (try clear c163); (try clear c163b0); (try clear c163b1); (try clear c165); (try clear c166); (try clear c166b0); (try clear c166b1); (try clear c168); (try clear c168b0); (try clear c168b1); (try clear c169); (try clear c169b0); (try clear c169b1); (try clear c170); (try clear c170b0); (try clear c170b1); (try clear c171); (try clear c171b0); (try clear c171b1); (try clear c173); (try clear c176); (try clear c178); (try clear c178b0); (try clear c179); (try clear c179b0); (try clear c180); (try clear c180b0); (try clear c181); (try clear c181b0); (try clear c182); (try clear c182b0); (try clear c182b1); (try clear c183); (try clear c183b0); (try clear c185); (try clear c185b0); (try clear c185b1); (try clear c185b2); (try clear c186); (try clear c186b0); (try clear c188); (try clear c188b0); (try clear c188b1); (try clear c188b2); (try clear c190); (try clear c190b0); (try clear c190b1); (try clear c190b2); (try clear c191); (try clear c191b0); (try clear c193); (try clear c193b0); (try clear c193b1); (try clear c193b2); (try clear c195); (try clear c195b0); (try clear c195b1); (try clear c195b2); (try clear c196); (try clear c196b0); (try clear c196b1); (try clear hx485_0); (try clear hx486_0); (try clear hx487_0); (try clear hx537_0); (try clear p485); (try clear p486); (try clear p487); (try clear p537); (try clear q485); (try clear q486); (try clear q487); (try clear q537)
               obtain ⟨kq, HA, HJ171, HO_25, HO_27, HO_31, HO_39, HB⟩ := hcut
               cases kq with
               | zero => exact absurd HA.out (by simp [laws_FnLinesStretched.j11])
               | succ kj171 =>
                have H := HA.out
                clear HA
                simp only [laws_FnLinesStretched.j11] at H
                by_cases c197 : t505 = true
                ·subst c197
                 have H1 : ((laws_xSum.f kj171 t500).bind fun t543 => (if (wrap64 ((t504.length : Int) + 1)) = t520 then (if (t524.length : Int) = t520 then ((laws_xSum.f kj171 t524).bind fun t544 => (if t544 = (wrap64 ((wrap64 (t520 * t501)) - t543)) then ((laws_xRises.f kj171 t504).bind fun t545 => (laws_FnLinesStretched.j12 kj171 t501 t504 t512 t524 t543 0 (!t545))) else (laws_FnLinesStretched.j12 kj171 t501 t504 t512 t524 t543 0 true))) else (laws_FnLinesStretched.j12 kj171 t501 t504 t512 t524 t543 0 true)) else (laws_FnLinesStretched.j12 kj171 t501 t504 t512 t524 t543 0 true))) = some r := by rw [if_pos rfl] at H; exact H
                 clear H
                 have H := H1
                 clear H1
                 replace H := Option.bind_eq_some_iff.mp H
                 obtain ⟨t543, A1980, H⟩ := H
                 (try dsimp only at H)
                 have A198 := Aside0.mk A1980
                 clear A1980
                 have HC199 := Aside0.mk H
                 clear H
                 go_upto_region 71 with (first | (go_at_call 13; (with_reducible refine (laws_xSum.calls kj171 _ _ t500 t543 _ ?side1 ?side2 A198.out).mono ?_); (case side1 => exact cr_ (Kd.R_reads' HO_25.out).2.2); (case side2 => exact (Kd.R_reads' HO_25.out).2.1); rintro e w' ⟨rfl, ⟨nd, rfl⟩⟩; (try exact dd_)))
                 repeat (go_quiet (first | (go_at_call 13; (with_reducible refine (laws_xSum.calls kj171 _ _ t500 t543 _ ?side1 ?side2 A198.out).mono ?_); (case side1 => exact cr_ (Kd.R_reads' HO_25.out).2.2); (case side2 => exact (Kd.R_reads' HO_25.out).2.1); rintro e w' ⟨rfl, ⟨nd, rfl⟩⟩; (try exact dd_))); go_upto_region 71 with (first | (go_at_call 13; (with_reducible refine (laws_xSum.calls kj171 _ _ t500 t543 _ ?side1 ?side2 A198.out).mono ?_); (case side1 => exact cr_ (Kd.R_reads' HO_25.out).2.2); (case side2 => exact (Kd.R_reads' HO_25.out).2.1); rintro e w' ⟨rfl, ⟨nd, rfl⟩⟩; (try exact dd_))))
                 (try simp only [Act.put, List.setIfInBounds_toArray, List.set_cons_zero, List.set_cons_succ])
                 go_cut [446] from 421 to 445 (fun v446 wc => ∃ (kq : Nat) (x446_198 : Bool), v446 = .bool x446_198 ∧ Aside0 (laws_FnLinesStretched.j12 kq t501 t504 t512 t524 t543 0 x446_198 = some r) ∧ Aside0 (kq ≤ kj171) ∧ Aside0 (Kd.R (Kd.int .i64) 3 wc w.heap.size (fun k_ => some k_ ≠ (v514 : Value).ownBlock ∧ some k_ ≠ (v526 : Value).ownBlock) v506 t504) ∧ Aside0 (Kd.R (Kd.int .i64) 3 wc w.heap.size (fun k_ => some k_ ≠ (v506 : Value).ownBlock ∧ some k_ ≠ (v526 : Value).ownBlock) v514 t512) ∧ Aside0 (Kd.R (Kd.int .i64) 3 wc w.heap.size (fun k_ => some k_ ≠ (v506 : Value).ownBlock ∧ some k_ ≠ (v514 : Value).ownBlock) v526 t524) ∧ Aside0 (Below w.heap.size w wc))
                 case first => as_aux_lemma =>
                  have H := HC199.out
                  clear HC199
                  by_cases c200 : (wrap64 ((t504.length : Int) + 1)) = t520
                  ·rw [if_pos c200] at H
                   have c200b0 : ((wrap64 ((t504.length : Int) + 1)) == t520) = true := beq_iff_eq.mpr c200
                   have c200b1 : ((wrap64 ((t504.length : Int) + 1)) != t520) = false := bne_eq_false_iff_eq.mpr c200
                   clear c200
                   (first | rw [c200b0] | skip)
                   by_cases c201 : (t524.length : Int) = t520
                   ·rw [if_pos c201] at H
                    have c201b0 : ((t524.length : Int) == t520) = true := beq_iff_eq.mpr c201
                    have c201b1 : ((t524.length : Int) != t520) = false := bne_eq_false_iff_eq.mpr c201
                    clear c201
                    replace H := Option.bind_eq_some_iff.mp H
                    obtain ⟨t544, A2020, H⟩ := H
                    (try dsimp only at H)
                    have A202 := Aside0.mk A2020
                    clear A2020
                    by_cases c203 : t544 = (wrap64 ((wrap64 (t520 * t501)) - t543))
                    ·rw [if_pos c203] at H
                     have c203b0 : (t544 == (wrap64 ((wrap64 (t520 * t501)) - t543))) = true := beq_iff_eq.mpr c203
                     have c203b1 : (t544 != (wrap64 ((wrap64 (t520 * t501)) - t543))) = false := bne_eq_false_iff_eq.mpr c203
                     clear c203
                     replace H := Option.bind_eq_some_iff.mp H
                     obtain ⟨t545, A2040, H⟩ := H
                     (try dsimp only at H)
                     have A204 := Aside0.mk A2040
                     clear A2040
                     have H' := Aside0.mk H
                     clear H
                     obtain ⟨Ao205, co205, eo205⟩ := Kd.R_slice HO_27.out
                     subst eo205
                     obtain ⟨Ao206, co206, eo206⟩ := Kd.R_slice HO_39.out
                     subst eo206
                     go_wp2_with (first | (go_at_call 13; (with_reducible refine (laws_xSum.calls kj171 _ _ t524 t544 _ ?side1 ?side2 A202.out).mono ?_); (case side1 => exact cr_ (Kd.R_reads' HO_39.out).2.2); (case side2 => exact (Kd.R_reads' HO_39.out).2.1); rintro e w' ⟨rfl, ⟨nd, rfl⟩⟩; (try exact dd_)) | (go_at_call 80; (with_reducible refine (laws_xRises.calls kj171 _ _ t504 t545 _ ?side1 ?side2 A204.out).mono ?_); (case side1 => exact cr_ (Kd.R_reads' HO_27.out).2.2); (case side2 => exact (Kd.R_reads' HO_27.out).2.1); rintro e w' ⟨rfl, ⟨nd, rfl⟩⟩; (try exact dd_)))
                     repeat (go_quiet (first | (go_at_call 13; (with_reducible refine (laws_xSum.calls kj171 _ _ t524 t544 _ ?side1 ?side2 A202.out).mono ?_); (case side1 => exact cr_ (Kd.R_reads' HO_39.out).2.2); (case side2 => exact (Kd.R_reads' HO_39.out).2.1); rintro e w' ⟨rfl, ⟨nd, rfl⟩⟩; (try exact dd_)) | (go_at_call 80; (with_reducible refine (laws_xRises.calls kj171 _ _ t504 t545 _ ?side1 ?side2 A204.out).mono ?_); (case side1 => exact cr_ (Kd.R_reads' HO_27.out).2.2); (case side2 => exact (Kd.R_reads' HO_27.out).2.1); rintro e w' ⟨rfl, ⟨nd, rfl⟩⟩; (try exact dd_))); try go_wp2_with (first | (go_at_call 13; (with_reducible refine (laws_xSum.calls kj171 _ _ t524 t544 _ ?side1 ?side2 A202.out).mono ?_); (case side1 => exact cr_ (Kd.R_reads' HO_39.out).2.2); (case side2 => exact (Kd.R_reads' HO_39.out).2.1); rintro e w' ⟨rfl, ⟨nd, rfl⟩⟩; (try exact dd_)) | (go_at_call 80; (with_reducible refine (laws_xRises.calls kj171 _ _ t504 t545 _ ?side1 ?side2 A204.out).mono ?_); (case side1 => exact cr_ (Kd.R_reads' HO_27.out).2.2); (case side2 => exact (Kd.R_reads' HO_27.out).2.1); rintro e w' ⟨rfl, ⟨nd, rfl⟩⟩; (try exact dd_))))
                     go_meet
                     case rel => exact ⟨_, (!t545), rs_, H', ⟨by have := HJ7.out; have := HJ17.out; have := HJ53.out; have := HJ138.out; have := HJ163.out; have := HJ171.out; first | omega | exact Nat.le_refl _⟩, ⟨by (with_reducible repeat (first | apply Kd.R_alloc | apply Kd.R_drewN | apply Kd.R_drew)); exact Kd.R_mono HO_27.out (fun _ hk => ⟨hk.2.1, hk.2.2⟩)⟩, ⟨by (with_reducible repeat (first | apply Kd.R_alloc | apply Kd.R_drewN | apply Kd.R_drew)); exact Kd.R_mono HO_31.out (fun _ hk => ⟨hk.2.1, hk.2.2⟩)⟩, ⟨by (with_reducible repeat (first | apply Kd.R_alloc | apply Kd.R_drewN | apply Kd.R_drew)); exact Kd.R_mono HO_39.out (fun _ hk => ⟨hk.2.1, hk.2.2⟩)⟩, ⟨bw_⟩⟩
                    ·rw [if_neg c203] at H
                     have c203b0 : (t544 == (wrap64 ((wrap64 (t520 * t501)) - t543))) = false := beq_eq_false_iff_ne.mpr c203
                     have c203b1 : (t544 != (wrap64 ((wrap64 (t520 * t501)) - t543))) = true := bne_iff_ne.mpr c203
                     exact (laws_FnLinesStretched.j12_no H hr_.out).elim
                   ·rw [if_neg c201] at H
                    have c201b0 : ((t524.length : Int) == t520) = false := beq_eq_false_iff_ne.mpr c201
                    have c201b1 : ((t524.length : Int) != t520) = true := bne_iff_ne.mpr c201
                    exact (laws_FnLinesStretched.j12_no H hr_.out).elim
                  ·rw [if_neg c200] at H
                   have c200b0 : ((wrap64 ((t504.length : Int) + 1)) == t520) = false := beq_eq_false_iff_ne.mpr c200
                   have c200b1 : ((wrap64 ((t504.length : Int) + 1)) != t520) = true := bne_iff_ne.mpr c200
                   (first | rw [c200b0] | skip)
                   exact (laws_FnLinesStretched.j12_no H hr_.out).elim
                 case rest =>
                  clear HC199
                  (try clear c1); (try clear p1); (try clear q1); (try clear hx1); (try clear qi1); (try clear c2); (try clear p2); (try clear c3); (try clear c4); (try clear p4); (try clear q4); (try clear hx4); (try clear qi4); (try clear c5); (try clear p5); (try clear q5); (try clear hx5); (try clear p6); (try clear c7); (try clear c8); (try clear c9); (try clear c10); (try clear c13); (try clear c13b0); (try clear c13b1); (try clear c13b2); (try clear c14); (try clear p14); (try clear q14); (try clear hx14); (try clear c15); (try clear p15); (try clear q15); (try clear hx15); (try clear qi15); (try clear c16); (try clear p16); (try clear q16); (try clear hx16); (try clear c17); (try clear c18); (try clear c19); (try clear c20); (try clear c21); (try clear c21b0); (try clear c21b1); (try clear c26); (try clear c28); (try clear c28b0); (try clear c29); (try clear c29b0); (try clear c30); (try clear c30b0); (try clear c31); (try clear c31b0); (try clear c32); (try clear c32b0); (try clear c32b1); (try clear c33); (try clear c33b0); (try clear c34); (try clear c34b0); (try clear c36); (try clear c36b0); (try clear c37); (try clear c37b0); (try clear c38); (try clear c38b0); (try clear p48); (try clear q48); (try clear hx48); (try clear qi48); (try clear p53); (try clear q53); (try clear hx53); (try clear p64); (try clear c70); (try clear c70b0); (try clear c70b1); (try clear c70b2); (try clear c71); (try clear c71b0); (try clear c71b1); (try clear c72); (try clear c72b0); (try clear c72b1); (try clear c72b2); (try clear c73); (try clear c73b0); (try clear c73b1); (try clear c74); (try clear c74b0); (try clear c74b1); (try clear c74b2); (try clear c76); (try clear c77); (try clear c77b0); (try clear c77b1); (try clear c77b2); (try clear c81); (try clear c82); (try clear c82b0); (try clear c82b1); (try clear c82b2); (try clear c87); (try clear c87b0); (try clear c87b1); (try clear c88); (try clear c88b0); (try clear c88b1); (try clear c88b2); (try clear c94); (try clear c95); (try clear c95b0); (try clear c95b1); (try clear c95b2); (try clear c102); (try clear c102b0); (try clear c102b1); (try clear c102b2); (try clear c109); (try clear c138); (try clear c140); (try clear c141); (try clear c141b0); (try clear c141b1); (try clear c142); (try clear c142b0); (try clear c144); (try clear c144b0); (try clear c145); (try clear c145b0); (try clear c146); (try clear c146b0); (try clear p147); (try clear q147); (try clear hx147); (try clear c148); (try clear c148b0); (try clear p149); (try clear q149); (try clear hx149); (try clear c150); (try clear c151); (try clear c151b0); (try clear c152); (try clear c152b0); (try clear p153); (try clear q153); (try clear hx153); (try clear c154); (try clear c154b0); (try clear c154b1); (try clear c155); (try clear c155b0); (try clear c155b1); (try clear c156); (try clear c156b0); (try clear c156b1); (try clear p157); (try clear q157); (try clear hx157); (try clear qi157); (try clear c158); (try clear c158b0); (try clear c158b1); (try clear c160); (try clear c160b0); (try clear c161); (try clear c161b0); (try clear p162); (try clear q162); (try clear hx162); (try clear c163); (try clear c163b0); (try clear c163b1); (try clear c165); (try clear c166); (try clear c166b0); (try clear c166b1); (try clear c168); (try clear c168b0); (try clear c168b1); (try clear c169); (try clear c169b0); (try clear c169b1); (try clear c170); (try clear c170b0); (try clear c170b1); (try clear c171); (try clear c171b0); (try clear c171b1); (try clear c173); (try clear c176); (try clear c178); (try clear c178b0); (try clear c179); (try clear c179b0); (try clear c180); (try clear c180b0); (try clear c181); (try clear c181b0); (try clear c182); (try clear c182b0); (try clear c182b1); (try clear c183); (try clear c183b0); (try clear c185); (try clear c185b0); (try clear c185b1); (try clear c185b2); (try clear c186); (try clear c186b0); (try clear c188); (try clear c188b0); (try clear c188b1); (try clear c188b2); (try clear c190); (try clear c190b0); (try clear c190b1); (try clear c190b2); (try clear c191); (try clear c191b0); (try clear c193); (try clear c193b0); (try clear c193b1); (try clear c193b2); (try clear c195); (try clear c195b0); (try clear c195b1); (try clear c195b2); (try clear c196); (try clear c196b0); (try clear c196b1); (try clear c197); (try clear c200); (try clear c200b0); (try clear c200b1); (try clear c201); (try clear c201b0); (try clear c201b1); (try clear c203); (try clear c203b0); (try clear c203b1); (try clear hx485_0); (try clear hx486_0); (try clear hx487_0); (try clear hx537_0); (try clear p485); (try clear p486); (try clear p487); (try clear p537); (try clear q485); (try clear q486); (try clear q487); (try clear q537)
                  obtain ⟨kq, x446_198, rfl, HA, HJ198, HO_27, HO_31, HO_39, HB⟩ := hcut
                  cases kq with
                  | zero => exact absurd HA.out (by simp [laws_FnLinesStretched.j12])
                  | succ kj198 =>
                   have H := HA.out
                   clear HA
                   simp only [laws_FnLinesStretched.j12] at H
                   by_cases c212 : x446_198 = true
                   ·subst c212
                    have H1 : (some false) = some r := by rw [if_pos rfl] at H; exact H
                    clear H
                    have H := H1
                    clear H1
                    obtain rfl := Option.some.inj H
                    exact absurd hr_.out (by decide)
                   ·replace c212 := Bool.eq_false_iff.mpr c212
                    subst c212
                    have H1 : (laws_FnLinesStretched.l4 kj198 t501 t512 t524 t543 0 t504 (t504.length : Int) 0) = some r := by rw [if_neg (show ¬ (false = true) by decide)] at H; exact H
                    clear H
                    have H := H1
                    clear H1
                    have H' := Aside0.mk H
                    clear H
                    obtain ⟨Ao213, co213, eo213⟩ := Kd.R_slice HO_27.out
                    subst eo213
                    go_wp2
                    repeat (go_quiet (fail); try go_wp2)
                    go_loopg [53, 449] kj198 (fun kq v53 v449 w' => ∃ (x53_8 : Int) (x449_8 : Int), v53 = .int .i64 x53_8 ∧ v449 = .int .i64 x449_8 ∧ Aside0 (laws_FnLinesStretched.l4 kq t501 t512 t524 t543 x53_8 t504 (t504.length : Int) x449_8 = some r) ∧ Aside0 (kq ≤ kj198) ∧ Aside0 (Kd.R (Kd.int .i64) 3 w' w.heap.size (fun k_ => some k_ ≠ (v526 : Value).ownBlock ∧ some k_ ≠ ((.slice Ao213 t504.length co213) : Value).ownBlock) v514 t512) ∧ Aside0 (Kd.R (Kd.int .i64) 3 w' w.heap.size (fun k_ => some k_ ≠ (v514 : Value).ownBlock ∧ some k_ ≠ ((.slice Ao213 t504.length co213) : Value).ownBlock) v526 t524) ∧ Aside0 (Kd.R (Kd.int .i64) 3 w' w.heap.size (fun k_ => some k_ ≠ (v514 : Value).ownBlock ∧ some k_ ≠ (v526 : Value).ownBlock) (.slice Ao213 t504.length co213) t504) ∧ Aside0 (Below w.heap.size w w'))
                    case atStart => exact ⟨(0), (0), rs_, rs_, H', ⟨Nat.le_refl _⟩, ⟨by (with_reducible repeat (first | apply Kd.R_alloc | apply Kd.R_drewN | apply Kd.R_drew)); exact Kd.R_mono HO_31.out (fun _ hk => ⟨hk.2, hk.1⟩)⟩, ⟨by (with_reducible repeat (first | apply Kd.R_alloc | apply Kd.R_drewN | apply Kd.R_drew)); exact Kd.R_mono HO_39.out (fun _ hk => ⟨hk.2, hk.1⟩)⟩, ⟨rr_ HO_27.out⟩, ⟨bw_⟩⟩
                    case round =>
                     clear H'
                     (try clear c1); (try clear p1); (try clear q1); (try clear hx1); (try clear qi1); (try clear c2); (try clear p2); (try clear c3); (try clear c4); (try clear p4); (try clear q4); (try clear hx4); (try clear qi4); (try clear c5); (try clear p5); (try clear q5); (try clear hx5); (try clear p6); (try clear c7); (try clear c8); (try clear c9); (try clear c10); (try clear c13); (try clear c13b0); (try clear c13b1); (try clear c13b2); (try clear c14); (try clear p14); (try clear q14); (try clear hx14); (try clear c15); (try clear p15); (try clear q15); (try clear hx15); (try clear qi15); (try clear c16); (try clear p16); (try clear q16); (try clear hx16); (try clear c17); (try clear c18); (try clear c19); (try clear c20); (try clear c21); (try clear c21b0); (try clear c21b1); (try clear c26); (try clear c28); (try clear c28b0); (try clear c29); (try clear c29b0); (try clear c30); (try clear c30b0); (try clear c31); (try clear c31b0); (try clear c32); (try clear c32b0); (try clear c32b1); (try clear c33); (try clear c33b0); (try clear c34); (try clear c34b0); (try clear c36); (try clear c36b0); (try clear c37); (try clear c37b0); (try clear c38); (try clear c38b0); (try clear p48); (try clear q48); (try clear hx48); (try clear qi48); (try clear p53); (try clear q53); (try clear hx53); (try clear p64); (try clear c70); (try clear c70b0); (try clear c70b1); (try clear c70b2); (try clear c71); (try clear c71b0); (try clear c71b1); (try clear c72); (try clear c72b0); (try clear c72b1); (try clear c72b2); (try clear c73); (try clear c73b0); (try clear c73b1); (try clear c74); (try clear c74b0); (try clear c74b1); (try clear c74b2); (try clear c76); (try clear c77); (try clear c77b0); (try clear c77b1); (try clear c77b2); (try clear c81); (try clear c82); (try clear c82b0); (try clear c82b1); (try clear c82b2); (try clear c87); (try clear c87b0); (try clear c87b1); (try clear c88); (try clear c88b0); (try clear c88b1); (try clear c88b2); (try clear c94); (try clear c95); (try clear c95b0); (try clear c95b1); (try clear c95b2); (try clear c102); (try clear c102b0); (try clear c102b1); (try clear c102b2); (try clear c109); (try clear c138); (try clear c140); (try clear c141); (try clear c141b0); (try clear c141b1); (try clear c142); (try clear c142b0); (try clear c144); (try clear c144b0); (try clear c145); (try clear c145b0); (try clear c146); (try clear c146b0); (try clear p147); (try clear q147); (try clear hx147); (try clear c148); (try clear c148b0); (try clear p149); (try clear q149); (try clear hx149); (try clear c150); (try clear c151); (try clear c151b0); (try clear c152); (try clear c152b0); (try clear p153); (try clear q153); (try clear hx153); (try clear c154); (try clear c154b0); (try clear c154b1); (try clear c155); (try clear c155b0); (try clear c155b1); (try clear c156); (try clear c156b0); (try clear c156b1); (try clear p157); (try clear q157); (try clear hx157); (try clear qi157); (try clear c158); (try clear c158b0); (try clear c158b1); (try clear c160); (try clear c160b0); (try clear c161); (try clear c161b0); (try clear p162); (try clear q162); (try clear hx162); (try clear c163); (try clear c163b0); (try clear c163b1); (try clear c165); (try clear c166); (try clear c166b0); (try clear c166b1); (try clear c168); (try clear c168b0); (try clear c168b1); (try clear c169); (try clear c169b0); (try clear c169b1); (try clear c170); (try clear c170b0); (try clear c170b1); (try clear c171); (try clear c171b0); (try clear c171b1); (try clear c173); (try clear c176); (try clear c178); (try clear c178b0); (try clear c179); (try clear c179b0); (try clear c180); (try clear c180b0); (try clear c181); (try clear c181b0); (try clear c182); (try clear c182b0); (try clear c182b1); (try clear c183); (try clear c183b0); (try clear c185); (try clear c185b0); (try clear c185b1); (try clear c185b2); (try clear c186); (try clear c186b0); (try clear c188); (try clear c188b0); (try clear c188b1); (try clear c188b2); (try clear c190); (try clear c190b0); (try clear c190b1); (try clear c190b2); (try clear c191); (try clear c191b0); (try clear c193); (try clear c193b0); (try clear c193b1); (try clear c193b2); (try clear c195); (try clear c195b0); (try clear c195b1); (try clear c195b2); (try clear c196); (try clear c196b0); (try clear c196b1); (try clear c197); (try clear c200); (try clear c200b0); (try clear c200b1); (try clear c201); (try clear c201b0); (try clear c201b1); (try clear c203); (try clear c203b0); (try clear c203b1); (try clear c212); (try clear hx485_0); (try clear hx486_0); (try clear hx487_0); (try clear hx537_0); (try clear p485); (try clear p486); (try clear p487); (try clear p537); (try clear q485); (try clear q486); (try clear q487); (try clear q537)
                     obtain ⟨x53_8, x449_8, rfl, rfl, HA, HK8, HO_31, HO_39, HO_447, HB⟩ := hrel
                     cases gk with
                     | zero => exact absurd HA.out (by simp [laws_FnLinesStretched.l4])
                     | succ k8 =>
                      have H := HA.out
                      clear HA
                      simp only [laws_FnLinesStretched.l4] at H
                      by_cases c214 : x449_8 < (t504.length : Int)
                      ·rw [if_pos c214] at H
                       have c214b0 : decide (x449_8 < (t504.length : Int)) = true := decide_eq_true c214
                       clear c214
                       by_cases c215 : 0 ≤ x449_8
                       ·rw [if_pos c215] at H
                        have c215b0 : decide (0 ≤ x449_8) = true := decide_eq_true c215
                        clear c215
                        by_cases c216 : x449_8 < (t504.length : Int)
                        ·rw [if_pos c216] at H
                         have c216b0 : decide (x449_8 < (t504.length : Int)) = true := decide_eq_true c216
                         clear c216
                         have HC217 := Aside0.mk H
                         clear H
                         have p546 : 0 ≤ (x449_8 : Int) := of_decide_eq_true (by first | (with_reducible assumption) | assumption)
                         have q546 : x449_8 < (t504.length : Int) := of_decide_eq_true (by first | (with_reducible assumption) | assumption)
                         obtain ⟨ad546, e546, hx546_0⟩ := Kd.at_int (Kd.R_reads' HO_447.out).2.2 x449_8 p546 q546
                         cases e546
                         replace p546 := eq_true p546
                         replace q546 := eq_true q546
                         go_upto_region 76 with (fail)
                         repeat (go_quiet (fail); go_upto_region 76 with (fail))
                         go_cut [476] from 454 to 475 (fun v476 wc => ∃ (kq : Nat) (x476_216 : Bool), v476 = .bool x476_216 ∧ Aside0 (laws_FnLinesStretched.j14 kq t501 t512 t524 t543 x53_8 (rd t504 x449_8) t504 (t504.length : Int) x449_8 x476_216 = some r) ∧ Aside0 (kq ≤ k8) ∧ Aside0 (Kd.R (Kd.int .i64) 3 wc w.heap.size (fun k_ => some k_ ≠ (v526 : Value).ownBlock ∧ some k_ ≠ ((.slice (some ad546) t504.length co213) : Value).ownBlock) v514 t512) ∧ Aside0 (Kd.R (Kd.int .i64) 3 wc w.heap.size (fun k_ => some k_ ≠ (v514 : Value).ownBlock ∧ some k_ ≠ ((.slice (some ad546) t504.length co213) : Value).ownBlock) v526 t524) ∧ Aside0 (Kd.R (Kd.int .i64) 3 wc w.heap.size (fun k_ => some k_ ≠ (v514 : Value).ownBlock ∧ some k_ ≠ (v526 : Value).ownBlock) (.slice (some ad546) t504.length co213) t504) ∧ Aside0 (Below w.heap.size w wc))
                         case first => as_aux_lemma =>
                          have H := HC217.out
                          clear HC217
                          replace H := Option.bind_eq_some_iff.mp H
                          obtain ⟨t547, A2180, H⟩ := H
                          (try dsimp only at H)
                          have A218 := Aside0.mk A2180
                          clear A2180
                          by_cases c219 : t547 = true
                          ·subst c219
                           have H1 : (if (wrap64 ((rd t504 x449_8) - x53_8)) > t501 then (laws_FnLinesStretched.j14 k8 t501 t512 t524 t543 x53_8 (rd t504 x449_8) t504 (t504.length : Int) x449_8 true) else (if x449_8 < (t524.length : Int) then (laws_FnLinesStretched.j14 k8 t501 t512 t524 t543 x53_8 (rd t504 x449_8) t504 (t504.length : Int) x449_8 ((rd t524 x449_8) != (wrap64 ((wrap64 (t501 - (rd t504 x449_8))) + x53_8)))) else (none))) = some r := by rw [if_pos rfl] at H; exact H
                           clear H
                           have H := H1
                           clear H1
                           by_cases c220 : (wrap64 ((rd t504 x449_8) - x53_8)) > t501
                           ·rw [if_pos c220] at H
                            have c220b0 : decide (t501 < (wrap64 ((rd t504 x449_8) - x53_8))) = true := decide_eq_true c220
                            clear c220
                            (first | rw [c220b0] | skip)
                            exact (laws_FnLinesStretched.j14_no H hr_.out).elim
                           ·rw [if_neg c220] at H
                            have c220b0 : decide (t501 < (wrap64 ((rd t504 x449_8) - x53_8))) = false := decide_eq_false c220
                            clear c220
                            (first | rw [c220b0] | skip)
                            by_cases c222 : x449_8 < (t524.length : Int)
                            ·rw [if_pos c222] at H
                             have c222b0 : decide (x449_8 < (t524.length : Int)) = true := decide_eq_true c222
                             clear c222
                             have H' := Aside0.mk H
                             clear H
                             obtain ⟨Ao223, co223, eo223⟩ := Kd.R_slice HO_31.out
                             subst eo223
                             go_wp2_with (first | (go_at_call 81; (with_reducible refine (laws_xHas.calls k8 _ _ t512 (rd t504 x449_8) true _ ?side1 ?side2 A218.out).mono ?_); (case side1 => exact cr_ (Kd.R_reads' HO_31.out).2.2); (case side2 => exact (Kd.R_reads' HO_31.out).2.1); rintro e w' ⟨rfl, ⟨nd, rfl⟩⟩; (try exact dd_); obtain ⟨Ao224, co224, eo224⟩ := Kd.R_slice HO_39.out; subst eo224; have p548 : 0 ≤ (x449_8 : Int) := of_decide_eq_true (by first | (with_reducible assumption) | assumption); have q548 : x449_8 < (t524.length : Int) := of_decide_eq_true (by first | (with_reducible assumption) | assumption); obtain ⟨ad548, e548, hx548_0⟩ := Kd.at_int (Kd.R_reads' HO_39.out).2.2 x449_8 p548 q548; cases e548; replace p548 := eq_true p548; replace q548 := eq_true q548))
                             repeat (go_quiet (first | (go_at_call 81; (with_reducible refine (laws_xHas.calls k8 _ _ t512 (rd t504 x449_8) true _ ?side1 ?side2 A218.out).mono ?_); (case side1 => exact cr_ (Kd.R_reads' HO_31.out).2.2); (case side2 => exact (Kd.R_reads' HO_31.out).2.1); rintro e w' ⟨rfl, ⟨nd, rfl⟩⟩; (try exact dd_); obtain ⟨Ao224, co224, eo224⟩ := Kd.R_slice HO_39.out; subst eo224; have p548 : 0 ≤ (x449_8 : Int) := of_decide_eq_true (by first | (with_reducible assumption) | assumption); have q548 : x449_8 < (t524.length : Int) := of_decide_eq_true (by first | (with_reducible assumption) | assumption); obtain ⟨ad548, e548, hx548_0⟩ := Kd.at_int (Kd.R_reads' HO_39.out).2.2 x449_8 p548 q548; cases e548; replace p548 := eq_true p548; replace q548 := eq_true q548)); try go_wp2_with (first | (go_at_call 81; (with_reducible refine (laws_xHas.calls k8 _ _ t512 (rd t504 x449_8) true _ ?side1 ?side2 A218.out).mono ?_); (case side1 => exact cr_ (Kd.R_reads' HO_31.out).2.2); (case side2 => exact (Kd.R_reads' HO_31.out).2.1); rintro e w' ⟨rfl, ⟨nd, rfl⟩⟩; (try exact dd_); obtain ⟨Ao224, co224, eo224⟩ := Kd.R_slice HO_39.out; subst eo224; have p548 : 0 ≤ (x449_8 : Int) := of_decide_eq_true (by first | (with_reducible assumption) | assumption); have q548 : x449_8 < (t524.length : Int) := of_decide_eq_true (by first | (with_reducible assumption) | assumption); obtain ⟨ad548, e548, hx548_0⟩ := Kd.at_int (Kd.R_reads' HO_39.out).2.2 x449_8 p548 q548; cases e548; replace p548 := eq_true p548; replace q548 := eq_true q548)))
                             go_meet
                             case rel => exact ⟨_, (((rd t524 x449_8) != (wrap64 ((wrap64 (t501 - (rd t504 x449_8))) + x53_8)))), rs_, H', ⟨by have := HJ7.out; have := HJ17.out; have := HJ53.out; have := HJ138.out; have := HJ163.out; have := HJ171.out; have := HJ198.out; have := HK8.out; first | omega | exact Nat.le_refl _⟩, ⟨rr_ HO_31.out⟩, ⟨rr_ HO_39.out⟩, ⟨rr_ HO_447.out⟩, ⟨bw_⟩⟩
                            ·rw [if_neg c222] at H
                             exact absurd H (by simp)
                          ·replace c219 := Bool.eq_false_iff.mpr c219
                           subst c219
                           have H1 : (laws_FnLinesStretched.j14 k8 t501 t512 t524 t543 x53_8 (rd t504 x449_8) t504 (t504.length : Int) x449_8 true) = some r := by rw [if_neg (show ¬ (false = true) by decide)] at H; exact H
                           clear H
                           have H := H1
                           clear H1
                           exact (laws_FnLinesStretched.j14_no H hr_.out).elim
                         case rest =>
                          clear HC217
                          (try clear c1); (try clear p1); (try clear q1); (try clear hx1); (try clear qi1); (try clear c2); (try clear p2); (try clear c3); (try clear c4); (try clear p4); (try clear q4); (try clear hx4); (try clear qi4); (try clear c5); (try clear p5); (try clear q5); (try clear hx5); (try clear p6); (try clear c7); (try clear c8); (try clear c9); (try clear c10); (try clear c13); (try clear c13b0); (try clear c13b1); (try clear c13b2); (try clear c14); (try clear p14); (try clear q14); (try clear hx14); (try clear c15); (try clear p15); (try clear q15); (try clear hx15); (try clear qi15); (try clear c16); (try clear p16); (try clear q16); (try clear hx16); (try clear c17); (try clear c18); (try clear c19); (try clear c20); (try clear c21); (try clear c21b0); (try clear c21b1); (try clear c22); (try clear c26); (try clear c28); (try clear c28b0); (try clear c29); (try clear c29b0); (try clear c30); (try clear c30b0); (try clear c31); (try clear c31b0); (try clear c32); (try clear c32b0); (try clear c32b1); (try clear c33); (try clear c33b0); (try clear c34); (try clear c34b0); (try clear c36); (try clear c36b0); (try clear c37); (try clear c37b0); (try clear c38); (try clear c38b0); (try clear p48); (try clear q48); (try clear hx48); (try clear qi48); (try clear p53); (try clear q53); (try clear hx53); (try clear p54); (try clear q54); (try clear hx54); (try clear p64); (try clear c70); (try clear c70b0); (try clear c70b1); (try clear c70b2); (try clear c71); (try clear c71b0); (try clear c71b1); (try clear c72); (try clear c72b0); (try clear c72b1); (try clear c72b2); (try clear c73); (try clear c73b0); (try clear c73b1); (try clear c74); (try clear c74b0); (try clear c74b1); (try clear c74b2); (try clear c76); (try clear c77); (try clear c77b0); (try clear c77b1); (try clear c77b2); (try clear c81); (try clear c82); (try clear c82b0); (try clear c82b1); (try clear c82b2); (try clear c87); (try clear c87b0); (try clear c87b1); (try clear c88); (try clear c88b0); (try clear c88b1); (try clear c88b2); (try clear c94); (try clear c95); (try clear c95b0); (try clear c95b1); (try clear c95b2); (try clear c102); (try clear c102b0); (try clear c102b1); (try clear c102b2); (try clear c109); (try clear c138); (try clear c140); (try clear c141); (try clear c141b0); (try clear c141b1); (try clear c142); (try clear c142b0); (try clear c144); (try clear c144b0); (try clear c145); (try clear c145b0); (try clear c146); (try clear c146b0); (try clear p147); (try clear q147); (try clear hx147); (try clear c148); (try clear c148b0); (try clear p149); (try clear q149); (try clear hx149); (try clear c150); (try clear c151); (try clear c151b0); (try clear c152); (try clear c152b0); (try clear p153); (try clear q153); (try clear hx153); (try clear c154); (try clear c154b0); (try clear c154b1); (try clear c155); (try clear c155b0); (try clear c155b1); (try clear c156); (try clear c156b0); (try clear c156b1); (try clear p157); (try clear q157); (try clear hx157); (try clear qi157); (try clear c158); (try clear c158b0); (try clear c158b1); (try clear c160); (try clear c160b0); (try clear c161); (try clear c161b0); (try clear p162); (try clear q162); (try clear hx162); (try clear c163); (try clear c163b0); (try clear c163b1); (try clear c165); (try clear c166); (try clear c166b0); (try clear c166b1); (try clear c168); (try clear c168b0); (try clear c168b1); (try clear c169); (try clear c169b0); (try clear c169b1); (try clear c170); (try clear c170b0); (try clear c170b1); (try clear c171); (try clear c171b0); (try clear c171b1); (try clear c173); (try clear c176); (try clear c178); (try clear c178b0); (try clear c179); (try clear c179b0); (try clear c180); (try clear c180b0); (try clear c181); (try clear c181b0); (try clear c182); (try clear c182b0); (try clear c182b1); (try clear c183); (try clear c183b0); (try clear c185); (try clear c185b0); (try clear c185b1); (try clear c185b2); (try clear c186); (try clear c186b0); (try clear c188); (try clear c188b0); (try clear c188b1); (try clear c188b2); (try clear c190); (try clear c190b0); (try clear c190b1); (try clear c190b2); (try clear c191); (try clear c191b0); (try clear c193); (try clear c193b0); (try clear c193b1); (try clear c193b2); (try clear c195); (try clear c195b0); (try clear c195b1); (try clear c195b2); (try clear c196); (try clear c196b0); (try clear c196b1); (try clear c197); (try clear c200); (try clear c200b0); (try clear c200b1); (try clear c201); (try clear c201b0); (try clear c201b1); (try clear c203); (try clear c203b0); (try clear c203b1); (try clear c212); (try clear c214); (try clear c214b0); (try clear c215); (try clear c215b0); (try clear c216); (try clear c216b0); (try clear c219); (try clear c220); (try clear c220b0); (try clear c222); (try clear c222b0); (try clear hx485_0); (try clear hx486_0); (try clear hx487_0); (try clear hx537_0); (try clear hx546_0); (try clear hx548_0); (try clear p485); (try clear p486); (try clear p487); (try clear p537); (try clear p546); (try clear p548); (try clear q485); (try clear q486); (try clear q487); (try clear q537); (try clear q546); (try clear q548)
                          obtain ⟨kq, x476_216, rfl, HA, HJ216, HO_31, HO_39, HO_447, HB⟩ := hcut
                          cases kq with
                          | zero => exact absurd HA.out (by simp [laws_FnLinesStretched.j14])
                          | succ kj216 =>
                           have H := HA.out
                           clear HA
                           simp only [laws_FnLinesStretched.j14] at H
                           by_cases c226 : x476_216 = true
                           ·subst c226
                            have H1 : (some false) = some r := by rw [if_pos rfl] at H; exact H
                            clear H
                            have H := H1
                            clear H1
                            obtain rfl := Option.some.inj H
                            exact absurd hr_.out (by decide)
                           ·replace c226 := Bool.eq_false_iff.mpr c226
                            subst c226
                            have H1 : (laws_FnLinesStretched.l5 kj216 t501 t512 t524 t543 x53_8 (rd t504 x449_8) t504 (t504.length : Int) x449_8 t512 (t512.length : Int) 0) = some r := by rw [if_neg (show ¬ (false = true) by decide)] at H; exact H
                            clear H
                            have H := H1
                            clear H1
                            have H' := Aside0.mk H
                            clear H
                            obtain ⟨Ao227, co227, eo227⟩ := Kd.R_slice HO_31.out
                            subst eo227
                            go_wp2
                            repeat (go_quiet (fail); try go_wp2)
                            go_loopg [479] kj216 (fun kq v479 w' => ∃ (x479_10 : Int), v479 = .int .i64 x479_10 ∧ Aside0 (laws_FnLinesStretched.l5 kq t501 t512 t524 t543 x53_8 (rd t504 x449_8) t504 (t504.length : Int) x449_8 t512 (t512.length : Int) x479_10 = some r) ∧ Aside0 (kq ≤ kj216) ∧ Aside0 (Kd.R (Kd.int .i64) 3 w' w.heap.size (fun k_ => some k_ ≠ (v526 : Value).ownBlock ∧ some k_ ≠ ((.slice (some ad546) t504.length co213) : Value).ownBlock) (.slice Ao227 t512.length co227) t512) ∧ Aside0 (Kd.R (Kd.int .i64) 3 w' w.heap.size (fun k_ => some k_ ≠ ((.slice Ao227 t512.length co227) : Value).ownBlock ∧ some k_ ≠ ((.slice (some ad546) t504.length co213) : Value).ownBlock ∧ some k_ ≠ ((.slice Ao227 t512.length co227) : Value).ownBlock) v526 t524) ∧ Aside0 (Kd.R (Kd.int .i64) 3 w' w.heap.size (fun k_ => some k_ ≠ ((.slice Ao227 t512.length co227) : Value).ownBlock ∧ some k_ ≠ (v526 : Value).ownBlock ∧ some k_ ≠ ((.slice Ao227 t512.length co227) : Value).ownBlock) (.slice (some ad546) t504.length co213) t504) ∧ Aside0 (Kd.R (Kd.int .i64) 3 w' w.heap.size (fun k_ => some k_ ≠ (v526 : Value).ownBlock ∧ some k_ ≠ ((.slice (some ad546) t504.length co213) : Value).ownBlock) (.slice Ao227 t512.length co227) t512) ∧ Aside0 (Below w.heap.size w w'))
                            case atStart => exact ⟨(0), rs_, H', ⟨Nat.le_refl _⟩, ⟨rr_ HO_31.out⟩, ⟨by (with_reducible repeat (first | apply Kd.R_alloc | apply Kd.R_drewN | apply Kd.R_drew)); exact Kd.R_mono HO_39.out (fun _ hk => ⟨hk.1, ⟨hk.2, hk.1⟩⟩)⟩, ⟨by (with_reducible repeat (first | apply Kd.R_alloc | apply Kd.R_drewN | apply Kd.R_drew)); exact Kd.R_mono HO_447.out (fun _ hk => ⟨hk.1, ⟨hk.2, hk.1⟩⟩)⟩, ⟨rr_ HO_31.out⟩, ⟨bw_⟩⟩
                            case round =>
                             clear H'
                             (try clear c1); (try clear p1); (try clear q1); (try clear hx1); (try clear qi1); (try clear c2); (try clear p2); (try clear c3); (try clear c4); (try clear p4); (try clear q4); (try clear hx4); (try clear qi4); (try clear c5); (try clear p5); (try clear q5); (try clear hx5); (try clear p6); (try clear c7); (try clear c8); (try clear c9); (try clear c10); (try clear c13); (try clear c13b0); (try clear c13b1); (try clear c13b2); (try clear c14); (try clear p14); (try clear q14); (try clear hx14); (try clear c15); (try clear p15); (try clear q15); (try clear hx15); (try clear qi15); (try clear c16); (try clear p16); (try clear q16); (try clear hx16); (try clear c17); (try clear c18); (try clear c19); (try clear c20); (try clear c21); (try clear c21b0); (try clear c21b1); (try clear c22); (try clear c26); (try clear c28); (try clear c28b0); (try clear c29); (try clear c29b0); (try clear c30); (try clear c30b0); (try clear c31); (try clear c31b0); (try clear c32); (try clear c32b0); (try clear c32b1); (try clear c33); (try clear c33b0); (try clear c34); (try clear c34b0); (try clear c36); (try clear c36b0); (try clear c37); (try clear c37b0); (try clear c38); (try clear c38b0); (try clear p48); (try clear q48); (try clear hx48); (try clear qi48); (try clear p53); (try clear q53); (try clear hx53); (try clear p54); (try clear q54); (try clear hx54); (try clear p64); (try clear c70); (try clear c70b0); (try clear c70b1); (try clear c70b2); (try clear c71); (try clear c71b0); (try clear c71b1); (try clear c72); (try clear c72b0); (try clear c72b1); (try clear c72b2); (try clear c73); (try clear c73b0); (try clear c73b1); (try clear c74); (try clear c74b0); (try clear c74b1); (try clear c74b2); (try clear c76); (try clear c77); (try clear c77b0); (try clear c77b1); (try clear c77b2); (try clear c81); (try clear c82); (try clear c82b0); (try clear c82b1); (try clear c82b2); (try clear c87); (try clear c87b0); (try clear c87b1); (try clear c88); (try clear c88b0); (try clear c88b1); (try clear c88b2); (try clear c94); (try clear c95); (try clear c95b0); (try clear c95b1); (try clear c95b2); (try clear c102); (try clear c102b0); (try clear c102b1); (try clear c102b2); (try clear c109); (try clear c138); (try clear c140); (try clear c141); (try clear c141b0); (try clear c141b1); (try clear c142); (try clear c142b0); (try clear c144); (try clear c144b0); (try clear c145); (try clear c145b0); (try clear c146); (try clear c146b0); (try clear p147); (try clear q147); (try clear hx147); (try clear c148); (try clear c148b0); (try clear p149); (try clear q149); (try clear hx149); (try clear c150); (try clear c151); (try clear c151b0); (try clear c152); (try clear c152b0); (try clear p153); (try clear q153); (try clear hx153); (try clear c154); (try clear c154b0); (try clear c154b1); (try clear c155); (try clear c155b0); (try clear c155b1); (try clear c156); (try clear c156b0); (try clear c156b1); (try clear p157); (try clear q157); (try clear hx157); (try clear qi157); (try clear c158); (try clear c158b0); (try clear c158b1); (try clear c160); (try clear c160b0); (try clear c161); (try clear c161b0); (try clear p162); (try clear q162); (try clear hx162); (try clear c163); (try clear c163b0); (try clear c163b1); (try clear c165); (try clear c166); (try clear c166b0); (try clear c166b1); (try clear c168); (try clear c168b0); (try clear c168b1); (try clear c169); (try clear c169b0); (try clear c169b1); (try clear c170); (try clear c170b0); (try clear c170b1); (try clear c171); (try clear c171b0); (try clear c171b1); (try clear c173); (try clear c176); (try clear c178); (try clear c178b0); (try clear c179); (try clear c179b0); (try clear c180); (try clear c180b0); (try clear c181); (try clear c181b0); (try clear c182); (try clear c182b0); (try clear c182b1); (try clear c183); (try clear c183b0); (try clear c185); (try clear c185b0); (try clear c185b1); (try clear c185b2); (try clear c186); (try clear c186b0); (try clear c188); (try clear c188b0); (try clear c188b1); (try clear c188b2); (try clear c190); (try clear c190b0); (try clear c190b1); (try clear c190b2); (try clear c191); (try clear c191b0); (try clear c193); (try clear c193b0); (try clear c193b1); (try clear c193b2); (try clear c195); (try clear c195b0); (try clear c195b1); (try clear c195b2); (try clear c196); (try clear c196b0); (try clear c196b1); (try clear c197); (try clear c200); (try clear c200b0); (try clear c200b1); (try clear c201); (try clear c201b0); (try clear c201b1); (try clear c203); (try clear c203b0); (try clear c203b1); (try clear c212); (try clear c214); (try clear c214b0); (try clear c215); (try clear c215b0); (try clear c216); (try clear c216b0); (try clear c219); (try clear c220); (try clear c220b0); (try clear c222); (try clear c222b0); (try clear c226); (try clear hx485_0); (try clear hx486_0); (try clear hx487_0); (try clear hx537_0); (try clear hx546_0); (try clear hx548_0); (try clear p485); (try clear p486); (try clear p487); (try clear p537); (try clear p546); (try clear p548); (try clear q485); (try clear q486); (try clear q487); (try clear q537); (try clear q546); (try clear q548)
                             obtain ⟨x479_10, rfl, HA, HK10, HO_31, HO_39, HO_447, HO_477, HB⟩ := hrel
                             cases gk with
                             | zero => exact absurd HA.out (by simp [laws_FnLinesStretched.l5])
                             | succ k10 =>
                              have H := HA.out
                              clear HA
                              simp only [laws_FnLinesStretched.l5] at H
                              by_cases c228 : x479_10 < (t512.length : Int)
                              ·rw [if_pos c228] at H
                               have c228b0 : decide (x479_10 < (t512.length : Int)) = true := decide_eq_true c228
                               clear c228
                               by_cases c229 : 0 ≤ x479_10
                               ·rw [if_pos c229] at H
                                have c229b0 : decide (0 ≤ x479_10) = true := decide_eq_true c229
                                clear c229
                                by_cases c230 : x479_10 < (t512.length : Int)
                                ·rw [if_pos c230] at H
                                 have c230b0 : decide (x479_10 < (t512.length : Int)) = true := decide_eq_true c230
                                 clear c230
                                 by_cases c231 : (rd t512 x479_10) > (rd t504 x449_8)
                                 ·rw [if_pos c231] at H
                                  have c231b0 : decide ((rd t504 x449_8) < (rd t512 x479_10)) = true := decide_eq_true c231
                                  clear c231
                                  by_cases c232 : (rd t512 x479_10) ≤ (wrap64 (x53_8 + t501))
                                  ·rw [if_pos c232] at H
                                   have c232b0 : decide ((rd t512 x479_10) ≤ (wrap64 (x53_8 + t501))) = true := decide_eq_true c232
                                   clear c232
                                   obtain rfl := Option.some.inj H
                                   exact absurd hr_.out (by decide)
                                  ·rw [if_neg c232] at H
                                   have c232b0 : decide ((rd t512 x479_10) ≤ (wrap64 (x53_8 + t501))) = false := decide_eq_false c232
                                   clear c232
                                   have H' := Aside0.mk H
                                   clear H
                                   have p549 : 0 ≤ (x479_10 : Int) := of_decide_eq_true (by first | (with_reducible assumption) | assumption)
                                   have q549 : x479_10 < (t512.length : Int) := of_decide_eq_true (by first | (with_reducible assumption) | assumption)
                                   obtain ⟨ad549, e549, hx549_0⟩ := Kd.at_int (Kd.R_reads' HO_477.out).2.2 x479_10 p549 q549
                                   cases e549
                                   replace p549 := eq_true p549
                                   replace q549 := eq_true q549
                                   go_wp2
                                   repeat (go_quiet (fail); try go_wp2)
                                   go_roundg k10
                                   case measure => have := HJ7.out; have := HJ17.out; have := HJ53.out; have := HJ138.out; have := HJ163.out; have := HJ171.out; have := HJ198.out; have := HK8.out; have := HJ216.out; have := HK10.out; omega
                                   case rel => exact ⟨(wrap64 (x479_10 + 1)), rs_, H', ⟨by have := HJ7.out; have := HJ17.out; have := HJ53.out; have := HJ138.out; have := HJ163.out; have := HJ171.out; have := HJ198.out; have := HK8.out; have := HJ216.out; have := HK10.out; omega⟩, ⟨rr_ HO_31.out⟩, ⟨rr_ HO_39.out⟩, ⟨rr_ HO_447.out⟩, ⟨rr_ HO_477.out⟩, ⟨bw_⟩⟩
                                 ·rw [if_neg c231] at H
                                  have c231b0 : decide ((rd t504 x449_8) < (rd t512 x479_10)) = false := decide_eq_false c231
                                  clear c231
                                  have H' := Aside0.mk H
                                  clear H
                                  have p549 : 0 ≤ (x479_10 : Int) := of_decide_eq_true (by first | (with_reducible assumption) | assumption)
                                  have q549 : x479_10 < (t512.length : Int) := of_decide_eq_true (by first | (with_reducible assumption) | assumption)
                                  obtain ⟨ad549, e549, hx549_0⟩ := Kd.at_int (Kd.R_reads' HO_477.out).2.2 x479_10 p549 q549
                                  cases e549
                                  replace p549 := eq_true p549
                                  replace q549 := eq_true q549
                                  go_wp2
                                  repeat (go_quiet (fail); try go_wp2)
                                  go_roundg k10
                                  case measure => have := HJ7.out; have := HJ17.out; have := HJ53.out; have := HJ138.out; have := HJ163.out; have := HJ171.out; have := HJ198.out; have := HK8.out; have := HJ216.out; have := HK10.out; omega
                                  case rel => exact ⟨(wrap64 (x479_10 + 1)), rs_, H', ⟨by have := HJ7.out; have := HJ17.out; have := HJ53.out; have := HJ138.out; have := HJ163.out; have := HJ171.out; have := HJ198.out; have := HK8.out; have := HJ216.out; have := HK10.out; omega⟩, ⟨rr_ HO_31.out⟩, ⟨rr_ HO_39.out⟩, ⟨rr_ HO_447.out⟩, ⟨rr_ HO_477.out⟩, ⟨bw_⟩⟩
                                ·rw [if_neg c230] at H
                                 exact absurd H (by simp)
                               ·rw [if_neg c229] at H
                                exact absurd H (by simp)
                              ·rw [if_neg c228] at H
                               have c228b0 : decide (x479_10 < (t512.length : Int)) = false := decide_eq_false c228
                               clear c228
                               have H' := Aside0.mk H
                               clear H
                               go_wp2
                               repeat (go_quiet (fail); try go_wp2)
                               go_roundg k10
                               case measure => have := HJ7.out; have := HJ17.out; have := HJ53.out; have := HJ138.out; have := HJ163.out; have := HJ171.out; have := HJ198.out; have := HK8.out; have := HJ216.out; have := HK10.out; omega
                               case rel => exact ⟨((rd t504 x449_8)), (wrap64 (x449_8 + 1)), rs_, rs_, H', ⟨by have := HJ7.out; have := HJ17.out; have := HJ53.out; have := HJ138.out; have := HJ163.out; have := HJ171.out; have := HJ198.out; have := HK8.out; have := HJ216.out; have := HK10.out; omega⟩, ⟨rr_ HO_31.out⟩, ⟨by (with_reducible repeat (first | apply Kd.R_alloc | apply Kd.R_drewN | apply Kd.R_drew)); exact Kd.R_mono HO_39.out (fun _ hk => ⟨hk.1, hk.2.1⟩)⟩, ⟨by (with_reducible repeat (first | apply Kd.R_alloc | apply Kd.R_drewN | apply Kd.R_drew)); exact Kd.R_mono HO_447.out (fun _ hk => ⟨hk.1, hk.2.1⟩)⟩, ⟨bw_⟩⟩
                        ·rw [if_neg c216] at H
                         exact absurd H (by simp)
                       ·rw [if_neg c215] at H
                        exact absurd H (by simp)
                      ·rw [if_neg c214] at H
                       have c214b0 : decide (x449_8 < (t504.length : Int)) = false := decide_eq_false c214
                       clear c214
                       by_cases c233 : (wrap64 (t543 - x53_8)) > t501
                       ·rw [if_pos c233] at H
                        have c233b0 : decide (t501 < (wrap64 (t543 - x53_8))) = true := decide_eq_true c233
                        clear c233
                        obtain rfl := Option.some.inj H
                        exact absurd hr_.out (by decide)
                       ·rw [if_neg c233] at H
                        have c233b0 : decide (t501 < (wrap64 (t543 - x53_8))) = false := decide_eq_false c233
                        clear c233
                        by_cases c234 : (wrap64 (t543 - x53_8)) < 1
                        ·rw [if_pos c234] at H
                         have c234b0 : decide ((wrap64 (t543 - x53_8)) < 1) = true := decide_eq_true c234
                         clear c234
                         obtain rfl := Option.some.inj H
                         exact absurd hr_.out (by decide)
                        ·rw [if_neg c234] at H
                         have c234b0 : decide ((wrap64 (t543 - x53_8)) < 1) = false := decide_eq_false c234
                         clear c234
                         obtain rfl := Option.some.inj H
                         simp only [Option.some.injEq, Prod.mk.injEq] at H
                         obtain ⟨rfl⟩ := H
                         go_wp2
                         repeat (go_quiet (fail); try go_wp2)
                         go_ret
                         exact ⟨by first | rfl | (simp [errW_none, errW_some] <;> rfl) | (simp [*, errW_none, errW_some] <;> rfl), bw_⟩
                ·replace c197 := Bool.eq_false_iff.mpr c197
                 subst c197
                 have H1 : (some true) = some r := by rw [if_neg (show ¬ (false = true) by decide)] at H; exact H
                 clear H
                 have H := H1
                 clear H1
                 obtain rfl := Option.some.inj H
                 simp only [Option.some.injEq, Prod.mk.injEq] at H
                 obtain ⟨rfl⟩ := H
                 go_wp2
                 repeat (go_quiet (fail); try go_wp2)
                 go_ret
                 exact ⟨by first | rfl | (simp [errW_none, errW_some] <;> rfl) | (simp [*, errW_none, errW_some] <;> rfl), bw_⟩

end Go.Proofs.YtpedlkhfeoeogaaDoor.PFnLinesStretched
