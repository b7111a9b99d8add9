-- Printed by a program of this repository (wip/xprint.py), over contracts of its own for what the kit's print does not take. Lean checks it.
import Derived.Test.YtpedlkhfeoeogaaDoorPFnLinesSetx0
import Derived.Test.YtpedlkhfeoeogaaDoorPFnLinesSetx1
import Derived.Test.YtpedlkhfeoeogaaDoorPFnLinesSetx2
import Derived.Test.YtpedlkhfeoeogaaDoorPFnLinesSetx3
import Derived.Test.YtpedlkhfeoeogaaDoorPFnLinesSetx4
import Derived.Test.YtpedlkhfeoeogaaDoorPFnLinesSetx5
import Derived.Test.YtpedlkhfeoeogaaDoorPFnLinesSetx6
import Derived.Test.YtpedlkhfeoeogaaDoorPFnLinesSetx7
import Derived.Test.YtpedlkhfeoeogaaDoorPFnLinesSetx8
import Derived.Test.YtpedlkhfeoeogaaDoorPFnLinesSetx9
import Derived.Test.YtpedlkhfeoeogaaDoorPFnLinesSetx10
import Derived.Test.YtpedlkhfeoeogaaDoorPFnLinesSetx22
namespace Go.Proofs.YtpedlkhfeoeogaaDoor.PFnLinesSet
open Go.Proofs.YtpedlkhfeoeogaaDoor.PLnB Go.RowKit Go.Proofs.YtpedlkhfeoeogaaDoorW.PrintWords Go.Proofs.YtpedlkhfeoeogaaDoorW.PrintLast Go.Proofs.YtpedlkhfeoeogaaDoorW.PrintMore
attribute [local go_sem] max2_int min2_int max_two min_two max_three min_three max_four min_four   -- for this text's walks alone
set_option linter.unusedVariables false
set_option linter.unusedSimpArgs false

set_option maxHeartbeats 400000000 in
set_option maxRecDepth 100000 in
theorem laws_FnLinesSet.calls (k : Nat) (A0 : Option Addr) (c0 : Nat) (l0 : List Int) (A1 : Option Addr) (c1 : Nat) (l1 : List Int) (r : Bool) (w : World) (hr0 : Kd.C (Kd.int .u8) w A0 l0.length l0) (hc0 : l0.length ≤ c0) (hr1 : Kd.C (Kd.int .u8) w A1 l1.length l1) (hc1 : l1.length ≤ c1) (hT : TabA w) (hr_ : Aside0 (r = true)) (h : laws_FnLinesSet.f k l0 l1 = some r) :
  Calls Tryd.prog 4 #[.slice A0 l0.length c0, .slice A1 l1.length c1] w fun e w' => e = .returned (.bool r) ∧ Below w.heap.size w w' := by
 have HR0 := Aside0.mk hr0
 have HC0 := Aside0.mk hc0
 clear hr0 hc0
 have HR1 := Aside0.mk hr1
 have HC1 := Aside0.mk hc1
 clear hr1 hc1
 have HB := Aside0.mk (Below.refl w.heap.size w)
 have HT := Aside0.mk hT
 clear hT
 have H : ((laws_big.f l0 l1).bind fun t479 => (if t479 = true then (some true) else ((spec_DrawFillLines.f k l0).bind fun bt480 => ((impl_FillLines.f k bt480.1 bt480.2).bind fun bt484 => ((spec_FillLines.f k bt480.1 bt480.2).bind fun bt488 => ((impl_CountLines.f k bt480.1 bt480.2).bind fun bt492 => ((spec_CountLines.f k bt480.1 bt480.2).bind fun bt494 => ((impl_LeastRagged.f bt480.1 bt480.2).bind fun bt496 => ((spec_LeastRagged.f bt480.1 bt480.2).bind fun bt498 => ((impl_FirstLeastRagged.f bt480.1 bt480.2).bind fun bt500 => ((spec_FirstLeastRagged.f bt480.1 bt480.2).bind fun bt504 => ((impl_LeastWorst.f bt480.1 bt480.2).bind fun bt508 => ((spec_LeastWorst.f bt480.1 bt480.2).bind fun bt510 => ((impl_CountBreaks.f bt480.1 bt480.2).bind fun bt512 => ((spec_CountBreaks.f bt480.1 bt480.2).bind fun bt514 => (if (bt484.2 != bt488.2) = true then (laws_FnLinesSet.j0 k l1 bt480.1 bt480.2 bt484.1 bt484.2 bt492.1 bt496.1 bt500.1 bt508.1 bt512.1 true) else ((laws_xSame.f k bt484.1 bt488.1).bind fun t516 => (if t516 = true then (if (bt492.2 != bt494.2) = true then (laws_FnLinesSet.j0 k l1 bt480.1 bt480.2 bt484.1 bt484.2 bt492.1 bt496.1 bt500.1 bt508.1 bt512.1 true) else (if bt492.1 = bt494.1 then (if (bt496.2 != bt498.2) = true then (laws_FnLinesSet.j0 k l1 bt480.1 bt480.2 bt484.1 bt484.2 bt492.1 bt496.1 bt500.1 bt508.1 bt512.1 true) else (if bt496.1 = bt498.1 then (if (bt500.2 != bt504.2) = true then (laws_FnLinesSet.j0 k l1 bt480.1 bt480.2 bt484.1 bt484.2 bt492.1 bt496.1 bt500.1 bt508.1 bt512.1 true) else ((laws_xSame.f k bt500.1 bt504.1).bind fun t517 => (if t517 = true then (if (bt508.2 != bt510.2) = true then (laws_FnLinesSet.j0 k l1 bt480.1 bt480.2 bt484.1 bt484.2 bt492.1 bt496.1 bt500.1 bt508.1 bt512.1 true) else (if bt508.1 = bt510.1 then (if (bt512.2 != bt514.2) = true then (laws_FnLinesSet.j0 k l1 bt480.1 bt480.2 bt484.1 bt484.2 bt492.1 bt496.1 bt500.1 bt508.1 bt512.1 true) else (if bt512.1 = bt514.1 then (if (bt492.2 != bt484.2) = true then (laws_FnLinesSet.j0 k l1 bt480.1 bt480.2 bt484.1 bt484.2 bt492.1 bt496.1 bt500.1 bt508.1 bt512.1 true) else (if (bt496.2 != bt484.2) = true then (laws_FnLinesSet.j0 k l1 bt480.1 bt480.2 bt484.1 bt484.2 bt492.1 bt496.1 bt500.1 bt508.1 bt512.1 true) else (if (bt500.2 != bt484.2) = true then (laws_FnLinesSet.j0 k l1 bt480.1 bt480.2 bt484.1 bt484.2 bt492.1 bt496.1 bt500.1 bt508.1 bt512.1 true) else (if (bt508.2 != bt484.2) = true then (laws_FnLinesSet.j0 k l1 bt480.1 bt480.2 bt484.1 bt484.2 bt492.1 bt496.1 bt500.1 bt508.1 bt512.1 true) else (if (bt512.2 != bt484.2) = true then (laws_FnLinesSet.j0 k l1 bt480.1 bt480.2 bt484.1 bt484.2 bt492.1 bt496.1 bt500.1 bt508.1 bt512.1 true) else (if bt484.2 = true then ((impl_AreWords.f k bt480.1).bind fun t518 => (if t518 = true then ((impl_AreWords.f k bt480.1).bind fun t519 => ((spec_AreWords.f k bt480.1).bind fun t520 => (laws_FnLinesSet.j0 k l1 bt480.1 bt480.2 bt484.1 bt484.2 bt492.1 bt496.1 bt500.1 bt508.1 bt512.1 (t519 != t520)))) else (laws_FnLinesSet.j0 k l1 bt480.1 bt480.2 bt484.1 bt484.2 bt492.1 bt496.1 bt500.1 bt508.1 bt512.1 true))) else ((impl_AreWords.f k bt480.1).bind fun t521 => ((spec_AreWords.f k bt480.1).bind fun t522 => (laws_FnLinesSet.j0 k l1 bt480.1 bt480.2 bt484.1 bt484.2 bt492.1 bt496.1 bt500.1 bt508.1 bt512.1 (t521 != t522)))))))))) else (laws_FnLinesSet.j0 k l1 bt480.1 bt480.2 bt484.1 bt484.2 bt492.1 bt496.1 bt500.1 bt508.1 bt512.1 true))) else (laws_FnLinesSet.j0 k l1 bt480.1 bt480.2 bt484.1 bt484.2 bt492.1 bt496.1 bt500.1 bt508.1 bt512.1 true))) else (laws_FnLinesSet.j0 k l1 bt480.1 bt480.2 bt484.1 bt484.2 bt492.1 bt496.1 bt500.1 bt508.1 bt512.1 true)))) else (laws_FnLinesSet.j0 k l1 bt480.1 bt480.2 bt484.1 bt484.2 bt492.1 bt496.1 bt500.1 bt508.1 bt512.1 true))) else (laws_FnLinesSet.j0 k l1 bt480.1 bt480.2 bt484.1 bt484.2 bt492.1 bt496.1 bt500.1 bt508.1 bt512.1 true))) else (laws_FnLinesSet.j0 k l1 bt480.1 bt480.2 bt484.1 bt484.2 bt492.1 bt496.1 bt500.1 bt508.1 bt512.1 true))))))))))))))))))) = some r := h
 clear h
 replace H := Option.bind_eq_some_iff.mp H
 obtain ⟨t479, A30, H⟩ := H
 (try dsimp only at H)
 have A3 := Aside0.mk A30
 clear A30
 by_cases c4 : t479 = true
 ·subst c4
  have H1 : (some true) = some r := by rw [if_pos rfl] at H; exact H
  clear H
  have H := H1
  clear H1
  obtain rfl := Option.some.inj H
  simp only [Option.some.injEq, Prod.mk.injEq] at H
  obtain ⟨rfl⟩ := H
  go_enter Tryd.func4, Tryd.ntmps4
  go_wp2_with (first | (go_at_call 6; (with_reducible refine (laws_big.calls _ _ l0 _ _ l1 true _ ?side1 ?side2 ?side3 ?side4 A3.out).mono ?_); (case side1 => exact cr_ HR0.out); (case side2 => exact HC0.out); (case side3 => exact cr_ HR1.out); (case side4 => exact HC1.out); rintro e w' ⟨rfl, ⟨nd, rfl⟩⟩; (try exact dd_)))
  repeat (go_quiet (first | (go_at_call 6; (with_reducible refine (laws_big.calls _ _ l0 _ _ l1 true _ ?side1 ?side2 ?side3 ?side4 A3.out).mono ?_); (case side1 => exact cr_ HR0.out); (case side2 => exact HC0.out); (case side3 => exact cr_ HR1.out); (case side4 => exact HC1.out); rintro e w' ⟨rfl, ⟨nd, rfl⟩⟩; (try exact dd_))); try go_wp2)
  go_ret
  exact ⟨by first | rfl | (simp [errW_none, errW_some] <;> rfl) | (simp [*, errW_none, errW_some] <;> rfl), bw_⟩
 ·replace c4 := Bool.eq_false_iff.mpr c4
  subst c4
  have H1 : ((spec_DrawFillLines.f k l0).bind fun bt480 => ((impl_FillLines.f k bt480.1 bt480.2).bind fun bt484 => ((spec_FillLines.f k bt480.1 bt480.2).bind fun bt488 => ((impl_CountLines.f k bt480.1 bt480.2).bind fun bt492 => ((spec_CountLines.f k bt480.1 bt480.2).bind fun bt494 => ((impl_LeastRagged.f bt480.1 bt480.2).bind fun bt496 => ((spec_LeastRagged.f bt480.1 bt480.2).bind fun bt498 => ((impl_FirstLeastRagged.f bt480.1 bt480.2).bind fun bt500 => ((spec_FirstLeastRagged.f bt480.1 bt480.2).bind fun bt504 => ((impl_LeastWorst.f bt480.1 bt480.2).bind fun bt508 => ((spec_LeastWorst.f bt480.1 bt480.2).bind fun bt510 => ((impl_CountBreaks.f bt480.1 bt480.2).bind fun bt512 => ((spec_CountBreaks.f bt480.1 bt480.2).bind fun bt514 => (if (bt484.2 != bt488.2) = true then (laws_FnLinesSet.j0 k l1 bt480.1 bt480.2 bt484.1 bt484.2 bt492.1 bt496.1 bt500.1 bt508.1 bt512.1 true) else ((laws_xSame.f k bt484.1 bt488.1).bind fun t516 => (if t516 = true then (if (bt492.2 != bt494.2) = true then (laws_FnLinesSet.j0 k l1 bt480.1 bt480.2 bt484.1 bt484.2 bt492.1 bt496.1 bt500.1 bt508.1 bt512.1 true) else (if bt492.1 = bt494.1 then (if (bt496.2 != bt498.2) = true then (laws_FnLinesSet.j0 k l1 bt480.1 bt480.2 bt484.1 bt484.2 bt492.1 bt496.1 bt500.1 bt508.1 bt512.1 true) else (if bt496.1 = bt498.1 then (if (bt500.2 != bt504.2) = true then (laws_FnLinesSet.j0 k l1 bt480.1 bt480.2 bt484.1 bt484.2 bt492.1 bt496.1 bt500.1 bt508.1 bt512.1 true) else ((laws_xSame.f k bt500.1 bt504.1).bind fun t517 => (if t517 = true then (if (bt508.2 != bt510.2) = true then (laws_FnLinesSet.j0 k l1 bt480.1 bt480.2 bt484.1 bt484.2 bt492.1 bt496.1 bt500.1 bt508.1 bt512.1 true) else (if bt508.1 = bt510.1 then (if (bt512.2 != bt514.2) = true then (laws_FnLinesSet.j0 k l1 bt480.1 bt480.2 bt484.1 bt484.2 bt492.1 bt496.1 bt500.1 bt508.1 bt512.1 true) else (if bt512.1 = bt514.1 then (if (bt492.2 != bt484.2) = true then (laws_FnLinesSet.j0 k l1 bt480.1 bt480.2 bt484.1 bt484.2 bt492.1 bt496.1 bt500.1 bt508.1 bt512.1 true) else (if (bt496.2 != bt484.2) = true then (laws_FnLinesSet.j0 k l1 bt480.1 bt480.2 bt484.1 bt484.2 bt492.1 bt496.1 bt500.1 bt508.1 bt512.1 true) else (if (bt500.2 != bt484.2) = true then (laws_FnLinesSet.j0 k l1 bt480.1 bt480.2 bt484.1 bt484.2 bt492.1 bt496.1 bt500.1 bt508.1 bt512.1 true) else (if (bt508.2 != bt484.2) = true then (laws_FnLinesSet.j0 k l1 bt480.1 bt480.2 bt484.1 bt484.2 bt492.1 bt496.1 bt500.1 bt508.1 bt512.1 true) else (if (bt512.2 != bt484.2) = true then (laws_FnLinesSet.j0 k l1 bt480.1 bt480.2 bt484.1 bt484.2 bt492.1 bt496.1 bt500.1 bt508.1 bt512.1 true) else (if bt484.2 = true then ((impl_AreWords.f k bt480.1).bind fun t518 => (if t518 = true then ((impl_AreWords.f k bt480.1).bind fun t519 => ((spec_AreWords.f k bt480.1).bind fun t520 => (laws_FnLinesSet.j0 k l1 bt480.1 bt480.2 bt484.1 bt484.2 bt492.1 bt496.1 bt500.1 bt508.1 bt512.1 (t519 != t520)))) else (laws_FnLinesSet.j0 k l1 bt480.1 bt480.2 bt484.1 bt484.2 bt492.1 bt496.1 bt500.1 bt508.1 bt512.1 true))) else ((impl_AreWords.f k bt480.1).bind fun t521 => ((spec_AreWords.f k bt480.1).bind fun t522 => (laws_FnLinesSet.j0 k l1 bt480.1 bt480.2 bt484.1 bt484.2 bt492.1 bt496.1 bt500.1 bt508.1 bt512.1 (t521 != t522)))))))))) else (laws_FnLinesSet.j0 k l1 bt480.1 bt480.2 bt484.1 bt484.2 bt492.1 bt496.1 bt500.1 bt508.1 bt512.1 true))) else (laws_FnLinesSet.j0 k l1 bt480.1 bt480.2 bt484.1 bt484.2 bt492.1 bt496.1 bt500.1 bt508.1 bt512.1 true))) else (laws_FnLinesSet.j0 k l1 bt480.1 bt480.2 bt484.1 bt484.2 bt492.1 bt496.1 bt500.1 bt508.1 bt512.1 true)))) else (laws_FnLinesSet.j0 k l1 bt480.1 bt480.2 bt484.1 bt484.2 bt492.1 bt496.1 bt500.1 bt508.1 bt512.1 true))) else (laws_FnLinesSet.j0 k l1 bt480.1 bt480.2 bt484.1 bt484.2 bt492.1 bt496.1 bt500.1 bt508.1 bt512.1 true))) else (laws_FnLinesSet.j0 k l1 bt480.1 bt480.2 bt484.1 bt484.2 bt492.1 bt496.1 bt500.1 bt508.1 bt512.1 true))))))))))))))))) = some r := by rw [if_neg (show ¬ (false = true) by decide)] at H; exact H
  clear H
  have H := H1
  clear H1
  replace H := Option.bind_eq_some_iff.mp H
  obtain ⟨⟨t480, t481⟩, A50, H⟩ := H
  (try dsimp only at H)
  have A5 := Aside0.mk A50
  clear A50
  replace H := Option.bind_eq_some_iff.mp H
  obtain ⟨⟨t484, t485⟩, A60, H⟩ := H
  (try dsimp only at H)
  have A6 := Aside0.mk A60
  clear A60
  replace H := Option.bind_eq_some_iff.mp H
  obtain ⟨⟨t488, t489⟩, A70, H⟩ := H
  (try dsimp only at H)
  have A7 := Aside0.mk A70
  clear A70
  replace H := Option.bind_eq_some_iff.mp H
  obtain ⟨⟨t492, t493⟩, A80, H⟩ := H
  (try dsimp only at H)
  have A8 := Aside0.mk A80
  clear A80
  replace H := Option.bind_eq_some_iff.mp H
  obtain ⟨⟨t494, t495⟩, A90, H⟩ := H
  (try dsimp only at H)
  have A9 := Aside0.mk A90
  clear A90
  replace H := Option.bind_eq_some_iff.mp H
  obtain ⟨⟨t496, t497⟩, A100, H⟩ := H
  (try dsimp only at H)
  have A10 := Aside0.mk A100
  clear A100
  replace H := Option.bind_eq_some_iff.mp H
  obtain ⟨⟨t498, t499⟩, A110, H⟩ := H
  (try dsimp only at H)
  have A11 := Aside0.mk A110
  clear A110
  replace H := Option.bind_eq_some_iff.mp H
  obtain ⟨⟨t500, t501⟩, A120, H⟩ := H
  (try dsimp only at H)
  have A12 := Aside0.mk A120
  clear A120
  replace H := Option.bind_eq_some_iff.mp H
  obtain ⟨⟨t504, t505⟩, A130, H⟩ := H
  (try dsimp only at H)
  have A13 := Aside0.mk A130
  clear A130
  replace H := Option.bind_eq_some_iff.mp H
  obtain ⟨⟨t508, t509⟩, A140, H⟩ := H
  (try dsimp only at H)
  have A14 := Aside0.mk A140
  clear A140
  replace H := Option.bind_eq_some_iff.mp H
  obtain ⟨⟨t510, t511⟩, A150, H⟩ := H
  (try dsimp only at H)
  have A15 := Aside0.mk A150
  clear A150
  replace H := Option.bind_eq_some_iff.mp H
  obtain ⟨⟨t512, t513⟩, A160, H⟩ := H
  (try dsimp only at H)
  have A16 := Aside0.mk A160
  clear A160
  replace H := Option.bind_eq_some_iff.mp H
  obtain ⟨⟨t514, t515⟩, A170, H⟩ := H
  (try dsimp only at H)
  have A17 := Aside0.mk A170
  clear A170
  have HC18 := Aside0.mk H
  clear H
  go_enter Tryd.func4, Tryd.ntmps4
  go_upto_region 16 with (first | (go_at_call 6; (with_reducible refine (laws_big.calls _ _ l0 _ _ l1 false _ ?side1 ?side2 ?side3 ?side4 A3.out).mono ?_); (case side1 => exact cr_ HR0.out); (case side2 => exact HC0.out); (case side3 => exact cr_ HR1.out); (case side4 => exact HC1.out); rintro e w' ⟨rfl, ⟨nd, rfl⟩⟩; (try exact dd_)) | (go_at_call 33; (with_reducible refine (spec_DrawFillLines.calls k _ _ l0 t480 t481 _ ?side1 ?side2 A5.out).mono ?_); (case side1 => exact cr_ HR0.out); (case side2 => exact HC0.out); rintro e w19 ⟨v482, rfl, ho0, hb⟩; have n0_ := Aside0.mk (Kd.R_lower ho0 (below_size bw_)); have n1_ := Aside0.mk (below_step bw_ hb); clear HB; have HO483 := n0_; have HB := n1_; clear n0_ n1_; (try clear hb); (try clear hb2); (try clear hk); (try clear hi); (try clear ho0); obtain ⟨Ao20, co20, eo20⟩ := Kd.R_slice HO483.out; subst eo20) | (go_at_call 34; (with_reducible refine (impl_FillLines.calls k _ _ t480 t481 t484 t485 _ ?side1 ?side2 A6.out).mono ?_); (case side1 => exact cr_ (Kd.R_reads' HO483.out).2.2); (case side2 => exact (Kd.R_reads' HO483.out).2.1); rintro e w21 ⟨v486, rfl, ho0, hb⟩; have n0_ := Aside0.mk (Kd.R_elder' (rr_ HO483.out) (Kd.R_base ho0) hb); have n1_ := Aside0.mk (Kd.R_lower (Kd.R_new' ho0 (Kd.R_lt (rr_ HO483.out))) (below_size bw_)); have n2_ := Aside0.mk (below_step bw_ hb); clear HO483; clear HB; have HO483 := n0_; have HO487 := n1_; have HB := n2_; clear n0_ n1_ n2_; (try clear hb); (try clear hb2); (try clear hk); (try clear hi); (try clear ho0)) | (go_at_call 35; (with_reducible refine (spec_FillLines.calls k _ _ t480 t481 t488 t489 _ ?side1 ?side2 A7.out).mono ?_); (case side1 => exact cr_ (Kd.R_reads' HO483.out).2.2); (case side2 => exact (Kd.R_reads' HO483.out).2.1); rintro e w22 ⟨v490, rfl, ho0, hb⟩; have n0_ := Aside0.mk (Kd.R_elder' (rr_ HO483.out) (Kd.R_base ho0) hb); have n1_ := Aside0.mk (Kd.R_elder' (rr_ HO487.out) (Kd.R_base ho0) hb); have n2_ := Aside0.mk (Kd.R_lower (Kd.R_new' (Kd.R_new' ho0 (Kd.R_lt (rr_ HO483.out))) (Kd.R_lt (rr_ HO487.out))) (below_size bw_)); have n3_ := Aside0.mk (below_step bw_ hb); clear HO483; clear HO487; clear HB; have HO483 := n0_; have HO487 := n1_; have HO491 := n2_; have HB := n3_; clear n0_ n1_ n2_ n3_; (try clear hb); (try clear hb2); (try clear hk); (try clear hi); (try clear ho0)) | (go_at_call 36; (with_reducible refine (impl_CountLines.calls k _ _ t480 t481 t492 t493 _ ?side1 ?side2 A8.out).mono ?_); (case side1 => exact cr_ (Kd.R_reads' HO483.out).2.2); (case side2 => exact (Kd.R_reads' HO483.out).2.1); rintro e w23 ⟨rfl, hb⟩; have n0_ := Aside0.mk (Kd.R_below (rr_ HO483.out) hb); have n1_ := Aside0.mk (Kd.R_below (rr_ HO487.out) hb); have n2_ := Aside0.mk (Kd.R_below (rr_ HO491.out) hb); have n3_ := Aside0.mk (below_step bw_ hb); clear HO483; clear HO487; clear HO491; clear HB; have HO483 := n0_; have HO487 := n1_; have HO491 := n2_; have HB := n3_; clear n0_ n1_ n2_ n3_; (try clear hb); (try clear hb2); (try clear hk); (try clear hi)) | (go_at_call 37; (with_reducible refine (spec_CountLines.calls k _ _ t480 t481 t494 t495 _ ?side1 ?side2 A9.out).mono ?_); (case side1 => exact cr_ (Kd.R_reads' HO483.out).2.2); (case side2 => exact (Kd.R_reads' HO483.out).2.1); rintro e w24 ⟨rfl, hb⟩; have n0_ := Aside0.mk (Kd.R_below (rr_ HO483.out) hb); have n1_ := Aside0.mk (Kd.R_below (rr_ HO487.out) hb); have n2_ := Aside0.mk (Kd.R_below (rr_ HO491.out) hb); have n3_ := Aside0.mk (below_step bw_ hb); clear HO483; clear HO487; clear HO491; clear HB; have HO483 := n0_; have HO487 := n1_; have HO491 := n2_; have HB := n3_; clear n0_ n1_ n2_ n3_; (try clear hb); (try clear hb2); (try clear hk); (try clear hi)) | (go_at_call 38; (with_reducible refine (impl_LeastRagged.calls _ _ t480 t481 t496 t497 _ ?side1 ?side2 A10.out).mono ?_); (case side1 => exact cr_ (Kd.R_reads' HO483.out).2.2); (case side2 => exact (Kd.R_reads' HO483.out).2.1); rintro e w25 ⟨rfl, hb⟩; have n0_ := Aside0.mk (Kd.R_below (rr_ HO483.out) hb); have n1_ := Aside0.mk (Kd.R_below (rr_ HO487.out) hb); have n2_ := Aside0.mk (Kd.R_below (rr_ HO491.out) hb); have n3_ := Aside0.mk (below_step bw_ hb); clear HO483; clear HO487; clear HO491; clear HB; have HO483 := n0_; have HO487 := n1_; have HO491 := n2_; have HB := n3_; clear n0_ n1_ n2_ n3_; (try clear hb); (try clear hb2); (try clear hk); (try clear hi)) | (go_at_call 39; (with_reducible refine (spec_LeastRagged.calls _ _ t480 t481 t498 t499 _ ?side1 ?side2 A11.out).mono ?_); (case side1 => exact cr_ (Kd.R_reads' HO483.out).2.2); (case side2 => exact (Kd.R_reads' HO483.out).2.1); rintro e w26 ⟨rfl, hb⟩; have n0_ := Aside0.mk (Kd.R_below (rr_ HO483.out) hb); have n1_ := Aside0.mk (Kd.R_below (rr_ HO487.out) hb); have n2_ := Aside0.mk (Kd.R_below (rr_ HO491.out) hb); have n3_ := Aside0.mk (below_step bw_ hb); clear HO483; clear HO487; clear HO491; clear HB; have HO483 := n0_; have HO487 := n1_; have HO491 := n2_; have HB := n3_; clear n0_ n1_ n2_ n3_; (try clear hb); (try clear hb2); (try clear hk); (try clear hi)) | (go_at_call 40; (with_reducible refine (impl_FirstLeastRagged.calls _ _ t480 t481 t500 t501 _ ?side1 ?side2 A12.out).mono ?_); (case side1 => exact cr_ (Kd.R_reads' HO483.out).2.2); (case side2 => exact (Kd.R_reads' HO483.out).2.1); rintro e w27 ⟨v502, rfl, ho0, hb⟩; have n0_ := Aside0.mk (Kd.R_elder' (rr_ HO483.out) (Kd.R_base ho0) hb); have n1_ := Aside0.mk (Kd.R_elder' (rr_ HO487.out) (Kd.R_base ho0) hb); have n2_ := Aside0.mk (Kd.R_elder' (rr_ HO491.out) (Kd.R_base ho0) hb); have n3_ := Aside0.mk (Kd.R_lower (Kd.R_new' (Kd.R_new' (Kd.R_new' ho0 (Kd.R_lt (rr_ HO483.out))) (Kd.R_lt (rr_ HO487.out))) (Kd.R_lt (rr_ HO491.out))) (below_size bw_)); have n4_ := Aside0.mk (below_step bw_ hb); clear HO483; clear HO487; clear HO491; clear HB; have HO483 := n0_; have HO487 := n1_; have HO491 := n2_; have HO503 := n3_; have HB := n4_; clear n0_ n1_ n2_ n3_ n4_; (try clear hb); (try clear hb2); (try clear hk); (try clear hi); (try clear ho0)) | (go_at_call 41; (with_reducible refine (spec_FirstLeastRagged.calls _ _ t480 t481 t504 t505 _ ?side1 ?side2 A13.out).mono ?_); (case side1 => exact cr_ (Kd.R_reads' HO483.out).2.2); (case side2 => exact (Kd.R_reads' HO483.out).2.1); rintro e w28 ⟨v506, rfl, ho0, hb⟩; have n0_ := Aside0.mk (Kd.R_elder' (rr_ HO483.out) (Kd.R_base ho0) hb); have n1_ := Aside0.mk (Kd.R_elder' (rr_ HO487.out) (Kd.R_base ho0) hb); have n2_ := Aside0.mk (Kd.R_elder' (rr_ HO491.out) (Kd.R_base ho0) hb); have n3_ := Aside0.mk (Kd.R_elder' (rr_ HO503.out) (Kd.R_base ho0) hb); have n4_ := Aside0.mk (Kd.R_lower (Kd.R_new' (Kd.R_new' (Kd.R_new' (Kd.R_new' ho0 (Kd.R_lt (rr_ HO483.out))) (Kd.R_lt (rr_ HO487.out))) (Kd.R_lt (rr_ HO491.out))) (Kd.R_lt (rr_ HO503.out))) (below_size bw_)); have n5_ := Aside0.mk (below_step bw_ hb); clear HO483; clear HO487; clear HO491; clear HO503; clear HB; have HO483 := n0_; have HO487 := n1_; have HO491 := n2_; have HO503 := n3_; have HO507 := n4_; have HB := n5_; clear n0_ n1_ n2_ n3_ n4_ n5_; (try clear hb); (try clear hb2); (try clear hk); (try clear hi); (try clear ho0)) | (go_at_call 42; (with_reducible refine (impl_LeastWorst.calls _ _ t480 t481 t508 t509 _ ?side1 ?side2 A14.out).mono ?_); (case side1 => exact cr_ (Kd.R_reads' HO483.out).2.2); (case side2 => exact (Kd.R_reads' HO483.out).2.1); rintro e w29 ⟨rfl, hb⟩; have n0_ := Aside0.mk (Kd.R_below (rr_ HO483.out) hb); have n1_ := Aside0.mk (Kd.R_below (rr_ HO487.out) hb); have n2_ := Aside0.mk (Kd.R_below (rr_ HO491.out) hb); have n3_ := Aside0.mk (Kd.R_below (rr_ HO503.out) hb); have n4_ := Aside0.mk (Kd.R_below (rr_ HO507.out) hb); have n5_ := Aside0.mk (below_step bw_ hb); clear HO483; clear HO487; clear HO491; clear HO503; clear HO507; clear HB; have HO483 := n0_; have HO487 := n1_; have HO491 := n2_; have HO503 := n3_; have HO507 := n4_; have HB := n5_; clear n0_ n1_ n2_ n3_ n4_ n5_; (try clear hb); (try clear hb2); (try clear hk); (try clear hi)) | (go_at_call 43; (with_reducible refine (spec_LeastWorst.calls _ _ t480 t481 t510 t511 _ ?side1 ?side2 A15.out).mono ?_); (case side1 => exact cr_ (Kd.R_reads' HO483.out).2.2); (case side2 => exact (Kd.R_reads' HO483.out).2.1); rintro e w30 ⟨rfl, hb⟩; have n0_ := Aside0.mk (Kd.R_below (rr_ HO483.out) hb); have n1_ := Aside0.mk (Kd.R_below (rr_ HO487.out) hb); have n2_ := Aside0.mk (Kd.R_below (rr_ HO491.out) hb); have n3_ := Aside0.mk (Kd.R_below (rr_ HO503.out) hb); have n4_ := Aside0.mk (Kd.R_below (rr_ HO507.out) hb); have n5_ := Aside0.mk (below_step bw_ hb); clear HO483; clear HO487; clear HO491; clear HO503; clear HO507; clear HB; have HO483 := n0_; have HO487 := n1_; have HO491 := n2_; have HO503 := n3_; have HO507 := n4_; have HB := n5_; clear n0_ n1_ n2_ n3_ n4_ n5_; (try clear hb); (try clear hb2); (try clear hk); (try clear hi)) | (go_at_call 44; (with_reducible refine (impl_CountBreaks.calls _ _ t480 t481 t512 t513 _ ?side1 ?side2 A16.out).mono ?_); (case side1 => exact cr_ (Kd.R_reads' HO483.out).2.2); (case side2 => exact (Kd.R_reads' HO483.out).2.1); rintro e w31 ⟨rfl, hb⟩; have n0_ := Aside0.mk (Kd.R_below (rr_ HO483.out) hb); have n1_ := Aside0.mk (Kd.R_below (rr_ HO487.out) hb); have n2_ := Aside0.mk (Kd.R_below (rr_ HO491.out) hb); have n3_ := Aside0.mk (Kd.R_below (rr_ HO503.out) hb); have n4_ := Aside0.mk (Kd.R_below (rr_ HO507.out) hb); have n5_ := Aside0.mk (below_step bw_ hb); clear HO483; clear HO487; clear HO491; clear HO503; clear HO507; clear HB; have HO483 := n0_; have HO487 := n1_; have HO491 := n2_; have HO503 := n3_; have HO507 := n4_; have HB := n5_; clear n0_ n1_ n2_ n3_ n4_ n5_; (try clear hb); (try clear hb2); (try clear hk); (try clear hi)) | (go_at_call 45; (with_reducible refine (spec_CountBreaks.calls _ _ t480 t481 t514 t515 _ ?side1 ?side2 A17.out).mono ?_); (case side1 => exact cr_ (Kd.R_reads' HO483.out).2.2); (case side2 => exact (Kd.R_reads' HO483.out).2.1); rintro e w32 ⟨rfl, hb⟩; have n0_ := Aside0.mk (Kd.R_below (rr_ HO483.out) hb); have n1_ := Aside0.mk (Kd.R_below (rr_ HO487.out) hb); have n2_ := Aside0.mk (Kd.R_below (rr_ HO491.out) hb); have n3_ := Aside0.mk (Kd.R_below (rr_ HO503.out) hb); have n4_ := Aside0.mk (Kd.R_below (rr_ HO507.out) hb); have n5_ := Aside0.mk (below_step bw_ hb); clear HO483; clear HO487; clear HO491; clear HO503; clear HO507; clear HB; have HO483 := n0_; have HO487 := n1_; have HO491 := n2_; have HO503 := n3_; have HO507 := n4_; have HB := n5_; clear n0_ n1_ n2_ n3_ n4_ n5_; (try clear hb); (try clear hb2); (try clear hk); (try clear hi)))
  repeat (go_quiet (fail); go_upto_region 16 with (fail))
  (try simp only [Act.put, List.setIfInBounds_toArray, List.set_cons_zero, List.set_cons_succ])
  go_cut [261] from 162 to 260 (fun v261 wc => ∃ (kq : Nat) (x261_17 : Bool), v261 = .bool x261_17 ∧ Aside0 (laws_FnLinesSet.j0 kq l1 t480 t481 t484 t485 t492 t496 t500 t508 t512 x261_17 = some r) ∧ Aside0 (kq ≤ k) ∧ Aside0 (Kd.R (Kd.int .i64) 3 wc w.heap.size (fun k_ => some k_ ≠ (v486 : Value).ownBlock ∧ some k_ ≠ (v502 : Value).ownBlock) (.slice Ao20 t480.length co20) t480) ∧ Aside0 (Kd.R (Kd.int .i64) 3 wc w.heap.size (fun k_ => some k_ ≠ ((.slice Ao20 t480.length co20) : Value).ownBlock ∧ some k_ ≠ (v502 : Value).ownBlock) v486 t484) ∧ Aside0 (Kd.R (Kd.int .i64) 3 wc w.heap.size (fun k_ => some k_ ≠ ((.slice Ao20 t480.length co20) : Value).ownBlock ∧ some k_ ≠ (v486 : Value).ownBlock) v502 t500) ∧ Aside0 (Below w.heap.size w wc))
  case first => as_aux_lemma =>
   have H := HC18.out
   clear HC18
   by_cases c33 : (t485 != t489) = true
   ·rw [if_pos c33] at H
    have c33b0 : (t485 != t489) = true := c33
    (try (have c33b1 : decide (t485 = t489) = false := by simpa using c33))
    (try (have c33b2 : (t485 == t489) = false := by simpa using c33))
    (try (have c33b3 : ¬ (t485 = t489) := by simpa using c33))
    clear c33
    (first | rw [c33b0] | skip)
    exact (laws_FnLinesSet.j0_no H hr_.out).elim
   ·rw [if_neg c33] at H
    have c33b0 : (t485 != t489) = false := by simpa using c33
    (try (have c33b1 : decide (t485 = t489) = true := by simpa using c33))
    (try (have c33b2 : (t485 == t489) = true := by simpa using c33))
    clear c33
    (first | rw [c33b0] | skip)
    replace H := Option.bind_eq_some_iff.mp H
    obtain ⟨t516, A340, H⟩ := H
    (try dsimp only at H)
    have A34 := Aside0.mk A340
    clear A340
    by_cases c35 : t516 = true
    ·subst c35
     have H1 : (if (t493 != t495) = true then (laws_FnLinesSet.j0 k l1 t480 t481 t484 t485 t492 t496 t500 t508 t512 true) else (if t492 = t494 then (if (t497 != t499) = true then (laws_FnLinesSet.j0 k l1 t480 t481 t484 t485 t492 t496 t500 t508 t512 true) else (if t496 = t498 then (if (t501 != t505) = true then (laws_FnLinesSet.j0 k l1 t480 t481 t484 t485 t492 t496 t500 t508 t512 true) else ((laws_xSame.f k t500 t504).bind fun t517 => (if t517 = true then (if (t509 != t511) = true then (laws_FnLinesSet.j0 k l1 t480 t481 t484 t485 t492 t496 t500 t508 t512 true) else (if t508 = t510 then (if (t513 != t515) = true then (laws_FnLinesSet.j0 k l1 t480 t481 t484 t485 t492 t496 t500 t508 t512 true) else (if t512 = t514 then (if (t493 != t485) = true then (laws_FnLinesSet.j0 k l1 t480 t481 t484 t485 t492 t496 t500 t508 t512 true) else (if (t497 != t485) = true then (laws_FnLinesSet.j0 k l1 t480 t481 t484 t485 t492 t496 t500 t508 t512 true) else (if (t501 != t485) = true then (laws_FnLinesSet.j0 k l1 t480 t481 t484 t485 t492 t496 t500 t508 t512 true) else (if (t509 != t485) = true then (laws_FnLinesSet.j0 k l1 t480 t481 t484 t485 t492 t496 t500 t508 t512 true) else (if (t513 != t485) = true then (laws_FnLinesSet.j0 k l1 t480 t481 t484 t485 t492 t496 t500 t508 t512 true) else (if t485 = true then ((impl_AreWords.f k t480).bind fun t518 => (if t518 = true then ((impl_AreWords.f k t480).bind fun t519 => ((spec_AreWords.f k t480).bind fun t520 => (laws_FnLinesSet.j0 k l1 t480 t481 t484 t485 t492 t496 t500 t508 t512 (t519 != t520)))) else (laws_FnLinesSet.j0 k l1 t480 t481 t484 t485 t492 t496 t500 t508 t512 true))) else ((impl_AreWords.f k t480).bind fun t521 => ((spec_AreWords.f k t480).bind fun t522 => (laws_FnLinesSet.j0 k l1 t480 t481 t484 t485 t492 t496 t500 t508 t512 (t521 != t522)))))))))) else (laws_FnLinesSet.j0 k l1 t480 t481 t484 t485 t492 t496 t500 t508 t512 true))) else (laws_FnLinesSet.j0 k l1 t480 t481 t484 t485 t492 t496 t500 t508 t512 true))) else (laws_FnLinesSet.j0 k l1 t480 t481 t484 t485 t492 t496 t500 t508 t512 true)))) else (laws_FnLinesSet.j0 k l1 t480 t481 t484 t485 t492 t496 t500 t508 t512 true))) else (laws_FnLinesSet.j0 k l1 t480 t481 t484 t485 t492 t496 t500 t508 t512 true))) = some r := by rw [if_pos rfl] at H; exact H
     clear H
     have H := H1
     clear H1
     by_cases c36 : (t493 != t495) = true
     ·rw [if_pos c36] at H
      have c36b0 : (t493 != t495) = true := c36
      (try (have c36b1 : decide (t493 = t495) = false := by simpa using c36))
      (try (have c36b2 : (t493 == t495) = false := by simpa using c36))
      (try (have c36b3 : ¬ (t493 = t495) := by simpa using c36))
      clear c36
      exact (laws_FnLinesSet.j0_no H hr_.out).elim
     ·rw [if_neg c36] at H
      have c36b0 : (t493 != t495) = false := by simpa using c36
      (try (have c36b1 : decide (t493 = t495) = true := by simpa using c36))
      (try (have c36b2 : (t493 == t495) = true := by simpa using c36))
      clear c36
      by_cases c39 : t492 = t494
      ·rw [if_pos c39] at H
       have c39b0 : (t492 == t494) = true := beq_iff_eq.mpr c39
       have c39b1 : (t492 != t494) = false := bne_eq_false_iff_eq.mpr c39
       clear c39
       by_cases c40 : (t497 != t499) = true
       ·rw [if_pos c40] at H
        have c40b0 : (t497 != t499) = true := c40
        (try (have c40b1 : decide (t497 = t499) = false := by simpa using c40))
        (try (have c40b2 : (t497 == t499) = false := by simpa using c40))
        (try (have c40b3 : ¬ (t497 = t499) := by simpa using c40))
        clear c40
        exact (laws_FnLinesSet.j0_no H hr_.out).elim
       ·rw [if_neg c40] at H
        have c40b0 : (t497 != t499) = false := by simpa using c40
        (try (have c40b1 : decide (t497 = t499) = true := by simpa using c40))
        (try (have c40b2 : (t497 == t499) = true := by simpa using c40))
        clear c40
        by_cases c43 : t496 = t498
        ·rw [if_pos c43] at H
         have c43b0 : (t496 == t498) = true := beq_iff_eq.mpr c43
         have c43b1 : (t496 != t498) = false := bne_eq_false_iff_eq.mpr c43
         clear c43
         by_cases c44 : (t501 != t505) = true
         ·rw [if_pos c44] at H
          have c44b0 : (t501 != t505) = true := c44
          (try (have c44b1 : decide (t501 = t505) = false := by simpa using c44))
          (try (have c44b2 : (t501 == t505) = false := by simpa using c44))
          (try (have c44b3 : ¬ (t501 = t505) := by simpa using c44))
          clear c44
          exact (laws_FnLinesSet.j0_no H hr_.out).elim
         ·rw [if_neg c44] at H
          have c44b0 : (t501 != t505) = false := by simpa using c44
          (try (have c44b1 : decide (t501 = t505) = true := by simpa using c44))
          (try (have c44b2 : (t501 == t505) = true := by simpa using c44))
          clear c44
          replace H := Option.bind_eq_some_iff.mp H
          obtain ⟨t517, A470, H⟩ := H
          (try dsimp only at H)
          have A47 := Aside0.mk A470
          clear A470
          by_cases c48 : t517 = true
          ·subst c48
           have H1 : (if (t509 != t511) = true then (laws_FnLinesSet.j0 k l1 t480 t481 t484 t485 t492 t496 t500 t508 t512 true) else (if t508 = t510 then (if (t513 != t515) = true then (laws_FnLinesSet.j0 k l1 t480 t481 t484 t485 t492 t496 t500 t508 t512 true) else (if t512 = t514 then (if (t493 != t485) = true then (laws_FnLinesSet.j0 k l1 t480 t481 t484 t485 t492 t496 t500 t508 t512 true) else (if (t497 != t485) = true then (laws_FnLinesSet.j0 k l1 t480 t481 t484 t485 t492 t496 t500 t508 t512 true) else (if (t501 != t485) = true then (laws_FnLinesSet.j0 k l1 t480 t481 t484 t485 t492 t496 t500 t508 t512 true) else (if (t509 != t485) = true then (laws_FnLinesSet.j0 k l1 t480 t481 t484 t485 t492 t496 t500 t508 t512 true) else (if (t513 != t485) = true then (laws_FnLinesSet.j0 k l1 t480 t481 t484 t485 t492 t496 t500 t508 t512 true) else (if t485 = true then ((impl_AreWords.f k t480).bind fun t518 => (if t518 = true then ((impl_AreWords.f k t480).bind fun t519 => ((spec_AreWords.f k t480).bind fun t520 => (laws_FnLinesSet.j0 k l1 t480 t481 t484 t485 t492 t496 t500 t508 t512 (t519 != t520)))) else (laws_FnLinesSet.j0 k l1 t480 t481 t484 t485 t492 t496 t500 t508 t512 true))) else ((impl_AreWords.f k t480).bind fun t521 => ((spec_AreWords.f k t480).bind fun t522 => (laws_FnLinesSet.j0 k l1 t480 t481 t484 t485 t492 t496 t500 t508 t512 (t521 != t522)))))))))) else (laws_FnLinesSet.j0 k l1 t480 t481 t484 t485 t492 t496 t500 t508 t512 true))) else (laws_FnLinesSet.j0 k l1 t480 t481 t484 t485 t492 t496 t500 t508 t512 true))) = some r := by rw [if_pos rfl] at H; exact H
           clear H
           have H := H1
           clear H1
           by_cases c49 : (t509 != t511) = true
           ·rw [if_pos c49] at H
            have c49b0 : (t509 != t511) = true := c49
            (try (have c49b1 : decide (t509 = t511) = false := by simpa using c49))
            (try (have c49b2 : (t509 == t511) = false := by simpa using c49))
            (try (have c49b3 : ¬ (t509 = t511) := by simpa using c49))
            clear c49
            exact (laws_FnLinesSet.j0_no H hr_.out).elim
           ·rw [if_neg c49] at H
            have c49b0 : (t509 != t511) = false := by simpa using c49
            (try (have c49b1 : decide (t509 = t511) = true := by simpa using c49))
            (try (have c49b2 : (t509 == t511) = true := by simpa using c49))
            clear c49
            by_cases c54 : t508 = t510
            ·rw [if_pos c54] at H
             have c54b0 : (t508 == t510) = true := beq_iff_eq.mpr c54
             have c54b1 : (t508 != t510) = false := bne_eq_false_iff_eq.mpr c54
             clear c54
             by_cases c55 : (t513 != t515) = true
             ·rw [if_pos c55] at H
              have c55b0 : (t513 != t515) = true := c55
              (try (have c55b1 : decide (t513 = t515) = false := by simpa using c55))
              (try (have c55b2 : (t513 == t515) = false := by simpa using c55))
              (try (have c55b3 : ¬ (t513 = t515) := by simpa using c55))
              clear c55
              exact (laws_FnLinesSet.j0_no H hr_.out).elim
             ·rw [if_neg c55] at H
              have c55b0 : (t513 != t515) = false := by simpa using c55
              (try (have c55b1 : decide (t513 = t515) = true := by simpa using c55))
              (try (have c55b2 : (t513 == t515) = true := by simpa using c55))
              clear c55
              by_cases c60 : t512 = t514
              ·rw [if_pos c60] at H
               have c60b0 : (t512 == t514) = true := beq_iff_eq.mpr c60
               have c60b1 : (t512 != t514) = false := bne_eq_false_iff_eq.mpr c60
               clear c60
               by_cases c61 : (t493 != t485) = true
               ·rw [if_pos c61] at H
                have c61b0 : (t493 != t485) = true := c61
                (try (have c61b1 : decide (t493 = t485) = false := by simpa using c61))
                (try (have c61b2 : (t493 == t485) = false := by simpa using c61))
                (try (have c61b3 : ¬ (t493 = t485) := by simpa using c61))
                clear c61
                exact (laws_FnLinesSet.j0_no H hr_.out).elim
               ·rw [if_neg c61] at H
                have c61b0 : (t493 != t485) = false := by simpa using c61
                (try (have c61b1 : decide (t493 = t485) = true := by simpa using c61))
                (try (have c61b2 : (t493 == t485) = true := by simpa using c61))
                clear c61
                by_cases c66 : (t497 != t485) = true
                ·rw [if_pos c66] at H
                 have c66b0 : (t497 != t485) = true := c66
                 (try (have c66b1 : decide (t497 = t485) = false := by simpa using c66))
                 (try (have c66b2 : (t497 == t485) = false := by simpa using c66))
                 (try (have c66b3 : ¬ (t497 = t485) := by simpa using c66))
                 clear c66
                 exact (laws_FnLinesSet.j0_no H hr_.out).elim
                ·rw [if_neg c66] at H
                 have c66b0 : (t497 != t485) = false := by simpa using c66
                 (try (have c66b1 : decide (t497 = t485) = true := by simpa using c66))
                 (try (have c66b2 : (t497 == t485) = true := by simpa using c66))
                 clear c66
                 by_cases c71 : (t501 != t485) = true
                 ·rw [if_pos c71] at H
                  have c71b0 : (t501 != t485) = true := c71
                  (try (have c71b1 : decide (t501 = t485) = false := by simpa using c71))
                  (try (have c71b2 : (t501 == t485) = false := by simpa using c71))
                  (try (have c71b3 : ¬ (t501 = t485) := by simpa using c71))
                  clear c71
                  exact (laws_FnLinesSet.j0_no H hr_.out).elim
                 ·rw [if_neg c71] at H
                  have c71b0 : (t501 != t485) = false := by simpa using c71
                  (try (have c71b1 : decide (t501 = t485) = true := by simpa using c71))
                  (try (have c71b2 : (t501 == t485) = true := by simpa using c71))
                  clear c71
                  by_cases c76 : (t509 != t485) = true
                  ·rw [if_pos c76] at H
                   have c76b0 : (t509 != t485) = true := c76
                   (try (have c76b1 : decide (t509 = t485) = false := by simpa using c76))
                   (try (have c76b2 : (t509 == t485) = false := by simpa using c76))
                   (try (have c76b3 : ¬ (t509 = t485) := by simpa using c76))
                   clear c76
                   exact (laws_FnLinesSet.j0_no H hr_.out).elim
                  ·rw [if_neg c76] at H
                   have c76b0 : (t509 != t485) = false := by simpa using c76
                   (try (have c76b1 : decide (t509 = t485) = true := by simpa using c76))
                   (try (have c76b2 : (t509 == t485) = true := by simpa using c76))
                   clear c76
                   by_cases c81 : (t513 != t485) = true
                   ·rw [if_pos c81] at H
                    have c81b0 : (t513 != t485) = true := c81
                    (try (have c81b1 : decide (t513 = t485) = false := by simpa using c81))
                    (try (have c81b2 : (t513 == t485) = false := by simpa using c81))
                    (try (have c81b3 : ¬ (t513 = t485) := by simpa using c81))
                    clear c81
                    exact (laws_FnLinesSet.j0_no H hr_.out).elim
                   ·rw [if_neg c81] at H
                    have c81b0 : (t513 != t485) = false := by simpa using c81
                    (try (have c81b1 : decide (t513 = t485) = true := by simpa using c81))
                    (try (have c81b2 : (t513 == t485) = true := by simpa using c81))
                    clear c81
                    by_cases c86 : t485 = true
                    ·subst c86
                     have H1 : ((impl_AreWords.f k t480).bind fun t518 => (if t518 = true then ((impl_AreWords.f k t480).bind fun t519 => ((spec_AreWords.f k t480).bind fun t520 => (laws_FnLinesSet.j0 k l1 t480 t481 t484 true t492 t496 t500 t508 t512 (t519 != t520)))) else (laws_FnLinesSet.j0 k l1 t480 t481 t484 true t492 t496 t500 t508 t512 true))) = some r := by rw [if_pos rfl] at H; exact H
                     clear H
                     have H := H1
                     clear H1
                     replace H := Option.bind_eq_some_iff.mp H
                     obtain ⟨t518, A870, H⟩ := H
                     (try dsimp only at H)
                     have A87 := Aside0.mk A870
                     clear A870
                     by_cases c88 : t518 = true
                     ·subst c88
                      have H1 : ((impl_AreWords.f k t480).bind fun t519 => ((spec_AreWords.f k t480).bind fun t520 => (laws_FnLinesSet.j0 k l1 t480 t481 t484 true t492 t496 t500 t508 t512 (t519 != t520)))) = some r := by rw [if_pos rfl] at H; exact H
                      clear H
                      have H := H1
                      clear H1
                      replace H := Option.bind_eq_some_iff.mp H
                      obtain ⟨t519, A890, H⟩ := H
                      (try dsimp only at H)
                      have A89 := Aside0.mk A890
                      clear A890
                      obtain rfl : t519 = true := Option.some.inj (A89.out.symm.trans A87.out)
                      replace H := Option.bind_eq_some_iff.mp H
                      obtain ⟨t520, A900, H⟩ := H
                      (try dsimp only at H)
                      have A90 := Aside0.mk A900
                      clear A900
                      have H' := Aside0.mk H
                      clear H
                      obtain ⟨Ao91, co91, eo91⟩ := Kd.R_slice HO487.out
                      subst eo91
                      obtain ⟨Ao92, co92, eo92⟩ := Kd.R_slice HO491.out
                      subst eo92
                      go_wp2_with (first | (go_at_call 12; (with_reducible refine (laws_xSame.calls k _ _ t484 _ _ t488 true _ ?side1 ?side2 ?side3 ?side4 A34.out).mono ?_); (case side1 => exact cr_ (Kd.R_reads' HO487.out).2.2); (case side2 => exact (Kd.R_reads' HO487.out).2.1); (case side3 => exact cr_ (Kd.R_reads' HO491.out).2.2); (case side4 => exact (Kd.R_reads' HO491.out).2.1); rintro e w' ⟨rfl, ⟨nd, rfl⟩⟩; (try exact dd_); obtain ⟨Ao93, co93, eo93⟩ := Kd.R_slice HO503.out; subst eo93; obtain ⟨Ao94, co94, eo94⟩ := Kd.R_slice HO507.out; subst eo94) | (go_at_call 12; (with_reducible refine (laws_xSame.calls k _ _ t500 _ _ t504 true _ ?side1 ?side2 ?side3 ?side4 A47.out).mono ?_); (case side1 => exact cr_ (Kd.R_reads' HO503.out).2.2); (case side2 => exact (Kd.R_reads' HO503.out).2.1); (case side3 => exact cr_ (Kd.R_reads' HO507.out).2.2); (case side4 => exact (Kd.R_reads' HO507.out).2.1); rintro e w' ⟨rfl, ⟨nd, rfl⟩⟩; (try exact dd_)) | (go_at_call 46; (with_reducible refine (impl_AreWords.calls k _ _ t480 true _ ?side1 ?side2 A87.out).mono ?_); (case side1 => exact cr_ (Kd.R_reads' HO483.out).2.2); (case side2 => exact (Kd.R_reads' HO483.out).2.1); rintro e w' ⟨rfl, ⟨nd, rfl⟩⟩; (try exact dd_)) | (go_at_call 46; (with_reducible refine (impl_AreWords.calls k _ _ t480 true _ ?side1 ?side2 A89.out).mono ?_); (case side1 => exact cr_ (Kd.R_reads' HO483.out).2.2); (case side2 => exact (Kd.R_reads' HO483.out).2.1); rintro e w' ⟨rfl, ⟨nd, rfl⟩⟩; (try exact dd_)) | (go_at_call 47; (with_reducible refine (spec_AreWords.calls k _ _ t480 t520 _ ?side1 ?side2 A90.out).mono ?_); (case side1 => exact cr_ (Kd.R_reads' HO483.out).2.2); (case side2 => exact (Kd.R_reads' HO483.out).2.1); rintro e w' ⟨rfl, ⟨nd, rfl⟩⟩; (try exact dd_)))
                      repeat (go_quiet (first | (go_at_call 12; (with_reducible refine (laws_xSame.calls k _ _ t484 _ _ t488 true _ ?side1 ?side2 ?side3 ?side4 A34.out).mono ?_); (case side1 => exact cr_ (Kd.R_reads' HO487.out).2.2); (case side2 => exact (Kd.R_reads' HO487.out).2.1); (case side3 => exact cr_ (Kd.R_reads' HO491.out).2.2); (case side4 => exact (Kd.R_reads' HO491.out).2.1); rintro e w' ⟨rfl, ⟨nd, rfl⟩⟩; (try exact dd_); obtain ⟨Ao93, co93, eo93⟩ := Kd.R_slice HO503.out; subst eo93; obtain ⟨Ao94, co94, eo94⟩ := Kd.R_slice HO507.out; subst eo94) | (go_at_call 12; (with_reducible refine (laws_xSame.calls k _ _ t500 _ _ t504 true _ ?side1 ?side2 ?side3 ?side4 A47.out).mono ?_); (case side1 => exact cr_ (Kd.R_reads' HO503.out).2.2); (case side2 => exact (Kd.R_reads' HO503.out).2.1); (case side3 => exact cr_ (Kd.R_reads' HO507.out).2.2); (case side4 => exact (Kd.R_reads' HO507.out).2.1); rintro e w' ⟨rfl, ⟨nd, rfl⟩⟩; (try exact dd_)) | (go_at_call 46; (with_reducible refine (impl_AreWords.calls k _ _ t480 true _ ?side1 ?side2 A87.out).mono ?_); (case side1 => exact cr_ (Kd.R_reads' HO483.out).2.2); (case side2 => exact (Kd.R_reads' HO483.out).2.1); rintro e w' ⟨rfl, ⟨nd, rfl⟩⟩; (try exact dd_)) | (go_at_call 46; (with_reducible refine (impl_AreWords.calls k _ _ t480 true _ ?side1 ?side2 A89.out).mono ?_); (case side1 => exact cr_ (Kd.R_reads' HO483.out).2.2); (case side2 => exact (Kd.R_reads' HO483.out).2.1); rintro e w' ⟨rfl, ⟨nd, rfl⟩⟩; (try exact dd_)) | (go_at_call 47; (with_reducible refine (spec_AreWords.calls k _ _ t480 t520 _ ?side1 ?side2 A90.out).mono ?_); (case side1 => exact cr_ (Kd.R_reads' HO483.out).2.2); (case side2 => exact (Kd.R_reads' HO483.out).2.1); rintro e w' ⟨rfl, ⟨nd, rfl⟩⟩; (try exact dd_))); try go_wp2)
                      go_meet
                      case rel => exact ⟨_, ((true != t520)), rs_, H', ⟨by first | omega | exact Nat.le_refl _⟩, ⟨by (with_reducible repeat (first | apply Kd.R_alloc | apply Kd.R_drewN | apply Kd.R_drew)); exact Kd.R_mono HO483.out (fun _ hk => ⟨hk.1.1.1.2, hk.1.2⟩)⟩, ⟨by (with_reducible repeat (first | apply Kd.R_alloc | apply Kd.R_drewN | apply Kd.R_drew)); exact Kd.R_mono HO487.out (fun _ hk => ⟨hk.1.1.1.2, hk.1.2⟩)⟩, ⟨by (with_reducible repeat (first | apply Kd.R_alloc | apply Kd.R_drewN | apply Kd.R_drew)); exact Kd.R_mono HO503.out (fun _ hk => ⟨hk.1.1.1.2, hk.1.1.2⟩)⟩, ⟨bw_⟩⟩
                     ·replace c88 := Bool.eq_false_iff.mpr c88
                      subst c88
                      have H1 : (laws_FnLinesSet.j0 k l1 t480 t481 t484 true t492 t496 t500 t508 t512 true) = some r := by rw [if_neg (show ¬ (false = true) by decide)] at H; exact H
                      clear H
                      have H := H1
                      clear H1
                      exact (laws_FnLinesSet.j0_no H hr_.out).elim
                    ·replace c86 := Bool.eq_false_iff.mpr c86
                     subst c86
                     have H1 : ((impl_AreWords.f k t480).bind fun t521 => ((spec_AreWords.f k t480).bind fun t522 => (laws_FnLinesSet.j0 k l1 t480 t481 t484 false t492 t496 t500 t508 t512 (t521 != t522)))) = some r := by rw [if_neg (show ¬ (false = true) by decide)] at H; exact H
                     clear H
                     have H := H1
                     clear H1
                     replace H := Option.bind_eq_some_iff.mp H
                     obtain ⟨t521, A990, H⟩ := H
                     (try dsimp only at H)
                     have A99 := Aside0.mk A990
                     clear A990
                     replace H := Option.bind_eq_some_iff.mp H
                     obtain ⟨t522, A1000, H⟩ := H
                     (try dsimp only at H)
                     have A100 := Aside0.mk A1000
                     clear A1000
                     have H' := Aside0.mk H
                     clear H
                     obtain ⟨Ao101, co101, eo101⟩ := Kd.R_slice HO487.out
                     subst eo101
                     obtain ⟨Ao102, co102, eo102⟩ := Kd.R_slice HO491.out
                     subst eo102
                     go_wp2_with (first | (go_at_call 12; (with_reducible refine (laws_xSame.calls k _ _ t484 _ _ t488 true _ ?side1 ?side2 ?side3 ?side4 A34.out).mono ?_); (case side1 => exact cr_ (Kd.R_reads' HO487.out).2.2); (case side2 => exact (Kd.R_reads' HO487.out).2.1); (case side3 => exact cr_ (Kd.R_reads' HO491.out).2.2); (case side4 => exact (Kd.R_reads' HO491.out).2.1); rintro e w' ⟨rfl, ⟨nd, rfl⟩⟩; (try exact dd_); obtain ⟨Ao103, co103, eo103⟩ := Kd.R_slice HO503.out; subst eo103; obtain ⟨Ao104, co104, eo104⟩ := Kd.R_slice HO507.out; subst eo104) | (go_at_call 12; (with_reducible refine (laws_xSame.calls k _ _ t500 _ _ t504 true _ ?side1 ?side2 ?side3 ?side4 A47.out).mono ?_); (case side1 => exact cr_ (Kd.R_reads' HO503.out).2.2); (case side2 => exact (Kd.R_reads' HO503.out).2.1); (case side3 => exact cr_ (Kd.R_reads' HO507.out).2.2); (case side4 => exact (Kd.R_reads' HO507.out).2.1); rintro e w' ⟨rfl, ⟨nd, rfl⟩⟩; (try exact dd_)) | (go_at_call 46; (with_reducible refine (impl_AreWords.calls k _ _ t480 t521 _ ?side1 ?side2 A99.out).mono ?_); (case side1 => exact cr_ (Kd.R_reads' HO483.out).2.2); (case side2 => exact (Kd.R_reads' HO483.out).2.1); rintro e w' ⟨rfl, ⟨nd, rfl⟩⟩; (try exact dd_)) | (go_at_call 47; (with_reducible refine (spec_AreWords.calls k _ _ t480 t522 _ ?side1 ?side2 A100.out).mono ?_); (case side1 => exact cr_ (Kd.R_reads' HO483.out).2.2); (case side2 => exact (Kd.R_reads' HO483.out).2.1); rintro e w' ⟨rfl, ⟨nd, rfl⟩⟩; (try exact dd_)))
                     repeat (go_quiet (first | (go_at_call 12; (with_reducible refine (laws_xSame.calls k _ _ t484 _ _ t488 true _ ?side1 ?side2 ?side3 ?side4 A34.out).mono ?_); (case side1 => exact cr_ (Kd.R_reads' HO487.out).2.2); (case side2 => exact (Kd.R_reads' HO487.out).2.1); (case side3 => exact cr_ (Kd.R_reads' HO491.out).2.2); (case side4 => exact (Kd.R_reads' HO491.out).2.1); rintro e w' ⟨rfl, ⟨nd, rfl⟩⟩; (try exact dd_); obtain ⟨Ao103, co103, eo103⟩ := Kd.R_slice HO503.out; subst eo103; obtain ⟨Ao104, co104, eo104⟩ := Kd.R_slice HO507.out; subst eo104) | (go_at_call 12; (with_reducible refine (laws_xSame.calls k _ _ t500 _ _ t504 true _ ?side1 ?side2 ?side3 ?side4 A47.out).mono ?_); (case side1 => exact cr_ (Kd.R_reads' HO503.out).2.2); (case side2 => exact (Kd.R_reads' HO503.out).2.1); (case side3 => exact cr_ (Kd.R_reads' HO507.out).2.2); (case side4 => exact (Kd.R_reads' HO507.out).2.1); rintro e w' ⟨rfl, ⟨nd, rfl⟩⟩; (try exact dd_)) | (go_at_call 46; (with_reducible refine (impl_AreWords.calls k _ _ t480 t521 _ ?side1 ?side2 A99.out).mono ?_); (case side1 => exact cr_ (Kd.R_reads' HO483.out).2.2); (case side2 => exact (Kd.R_reads' HO483.out).2.1); rintro e w' ⟨rfl, ⟨nd, rfl⟩⟩; (try exact dd_)) | (go_at_call 47; (with_reducible refine (spec_AreWords.calls k _ _ t480 t522 _ ?side1 ?side2 A100.out).mono ?_); (case side1 => exact cr_ (Kd.R_reads' HO483.out).2.2); (case side2 => exact (Kd.R_reads' HO483.out).2.1); rintro e w' ⟨rfl, ⟨nd, rfl⟩⟩; (try exact dd_))); try go_wp2)
                     go_meet
                     case rel => exact ⟨_, ((t521 != t522)), rs_, H', ⟨by first | omega | exact Nat.le_refl _⟩, ⟨by (with_reducible repeat (first | apply Kd.R_alloc | apply Kd.R_drewN | apply Kd.R_drew)); exact Kd.R_mono HO483.out (fun _ hk => ⟨hk.1.1.1.2, hk.1.2⟩)⟩, ⟨by (with_reducible repeat (first | apply Kd.R_alloc | apply Kd.R_drewN | apply Kd.R_drew)); exact Kd.R_mono HO487.out (fun _ hk => ⟨hk.1.1.1.2, hk.1.2⟩)⟩, ⟨by (with_reducible repeat (first | apply Kd.R_alloc | apply Kd.R_drewN | apply Kd.R_drew)); exact Kd.R_mono HO503.out (fun _ hk => ⟨hk.1.1.1.2, hk.1.1.2⟩)⟩, ⟨bw_⟩⟩
              ·rw [if_neg c60] at H
               have c60b0 : (t512 == t514) = false := beq_eq_false_iff_ne.mpr c60
               have c60b1 : (t512 != t514) = true := bne_iff_ne.mpr c60
               exact (laws_FnLinesSet.j0_no H hr_.out).elim
            ·rw [if_neg c54] at H
             have c54b0 : (t508 == t510) = false := beq_eq_false_iff_ne.mpr c54
             have c54b1 : (t508 != t510) = true := bne_iff_ne.mpr c54
             exact (laws_FnLinesSet.j0_no H hr_.out).elim
          ·replace c48 := Bool.eq_false_iff.mpr c48
           subst c48
           have H1 : (laws_FnLinesSet.j0 k l1 t480 t481 t484 t485 t492 t496 t500 t508 t512 true) = some r := by rw [if_neg (show ¬ (false = true) by decide)] at H; exact H
           clear H
           have H := H1
           clear H1
           exact (laws_FnLinesSet.j0_no H hr_.out).elim
        ·rw [if_neg c43] at H
         have c43b0 : (t496 == t498) = false := beq_eq_false_iff_ne.mpr c43
         have c43b1 : (t496 != t498) = true := bne_iff_ne.mpr c43
         exact (laws_FnLinesSet.j0_no H hr_.out).elim
      ·rw [if_neg c39] at H
       have c39b0 : (t492 == t494) = false := beq_eq_false_iff_ne.mpr c39
       have c39b1 : (t492 != t494) = true := bne_iff_ne.mpr c39
       exact (laws_FnLinesSet.j0_no H hr_.out).elim
    ·replace c35 := Bool.eq_false_iff.mpr c35
     subst c35
     have H1 : (laws_FnLinesSet.j0 k l1 t480 t481 t484 t485 t492 t496 t500 t508 t512 true) = some r := by rw [if_neg (show ¬ (false = true) by decide)] at H; exact H
     clear H
     have H := H1
     clear H1
     exact (laws_FnLinesSet.j0_no H hr_.out).elim
  case rest => as_aux_lemma =>
   clear HC18
   (try clear c1); (try clear p2); (try clear c3); (try clear c4); (try clear c5); (try clear c6); (try clear c7); (try clear c8); (try clear c33); (try clear c33b0); (try clear c33b1); (try clear c33b2); (try clear c35); (try clear c36); (try clear c36b0); (try clear c36b1); (try clear c36b2); (try clear c39); (try clear c39b0); (try clear c39b1); (try clear c40); (try clear c40b0); (try clear c40b1); (try clear c40b2); (try clear c43); (try clear c43b0); (try clear c43b1); (try clear c44); (try clear c44b0); (try clear c44b1); (try clear c44b2); (try clear c48); (try clear c49); (try clear c49b0); (try clear c49b1); (try clear c49b2); (try clear c54); (try clear c54b0); (try clear c54b1); (try clear c55); (try clear c55b0); (try clear c55b1); (try clear c55b2); (try clear c60); (try clear c60b0); (try clear c60b1); (try clear c61); (try clear c61b0); (try clear c61b1); (try clear c61b2); (try clear c66); (try clear c66b0); (try clear c66b1); (try clear c66b2); (try clear c71); (try clear c71b0); (try clear c71b1); (try clear c71b2); (try clear c76); (try clear c76b0); (try clear c76b1); (try clear c76b2); (try clear c81); (try clear c81b0); (try clear c81b1); (try clear c81b2); (try clear c86); (try clear c88)
   obtain ⟨kq, x261_17, rfl, HA, HJ17, HO_5, HO_7, HO_19, HB⟩ := hcut
   cases kq with
   | zero => exact absurd HA.out (by simp [laws_FnLinesSet.j0])
   | succ kj17 =>
    have H := HA.out
    clear HA
    simp only [laws_FnLinesSet.j0] at H
    by_cases c123 : x261_17 = true
    ·subst c123
     have H1 : (some false) = some r := by rw [if_pos rfl] at H; exact H
     clear H
     have H := H1
     clear H1
     obtain rfl := Option.some.inj H
     exact absurd hr_.out (by decide)
    ·replace c123 := Bool.eq_false_iff.mpr c123
     subst c123
     have H1 : (if t485 = true then ((impl_RaggedOf.f kj17 t480 t481 t484).bind fun bt523 => ((impl_RaggedOf.f kj17 t480 t481 t500).bind fun bt525 => ((impl_WidthsUsed.f kj17 t480 t484).bind fun bt527 => ((impl_LeastWidth.f kj17 t480 t492).bind fun bt531 => (if (t484.length : Int) = t492 then ((laws_xSum.f kj17 t484).bind fun t533 => (if t533 = (t480.length : Int) then (if (t500.length : Int) < t492 then (laws_FnLinesSet.j1 kj17 l1 t480 t481 t484 bt527.1 true) else (if bt523.2 = true then (if bt523.1 < t496 then (laws_FnLinesSet.j1 kj17 l1 t480 t481 t484 bt527.1 true) else (if bt525.2 = true then (if bt525.1 = t496 then (if bt527.2 = true then (if (bt527.1.length : Int) = t492 then (if bt531.2 = true then (if bt531.1 > t481 then (laws_FnLinesSet.j1 kj17 l1 t480 t481 t484 bt527.1 true) else (if t512 < 1 then (laws_FnLinesSet.j1 kj17 l1 t480 t481 t484 bt527.1 true) else (if t508 < 0 then (laws_FnLinesSet.j1 kj17 l1 t480 t481 t484 bt527.1 true) else (if t508 ≥ t481 then (laws_FnLinesSet.j1 kj17 l1 t480 t481 t484 bt527.1 true) else (laws_FnLinesSet.j1 kj17 l1 t480 t481 t484 bt527.1 (decide ((wrap64 (t508 * t508)) > t496))))))) else (laws_FnLinesSet.j1 kj17 l1 t480 t481 t484 bt527.1 true)) else (laws_FnLinesSet.j1 kj17 l1 t480 t481 t484 bt527.1 true)) else (laws_FnLinesSet.j1 kj17 l1 t480 t481 t484 bt527.1 true)) else (laws_FnLinesSet.j1 kj17 l1 t480 t481 t484 bt527.1 true)) else (laws_FnLinesSet.j1 kj17 l1 t480 t481 t484 bt527.1 true))) else (laws_FnLinesSet.j1 kj17 l1 t480 t481 t484 bt527.1 true))) else (laws_FnLinesSet.j1 kj17 l1 t480 t481 t484 bt527.1 true))) else (laws_FnLinesSet.j1 kj17 l1 t480 t481 t484 bt527.1 true)))))) else (laws_FnLinesSet.j3 kj17 l1)) = some r := by rw [if_neg (show ¬ (false = true) by decide)] at H; exact H
     clear H
     have H := H1
     clear H1
     have HC124 := Aside0.mk H
     clear H
     go_upto_if 262 with (fail)
     repeat (go_quiet (fail); go_upto_if 262 with (fail))
     go_cut [31, 32, 33, 34, 35, 36, 37, 38, 39, 40, 41] from 263 to 399 (fun v31 v32 v33 v34 v35 v36 v37 v38 v39 v40 v41 wc => ∃ (kq : Nat), Aside0 (laws_FnLinesSet.j3 kq l1 = some r) ∧ Aside0 (kq ≤ kj17) ∧ Aside0 (Below w.heap.size w wc))
     case first => as_aux_lemma =>
      have H := HC124.out
      clear HC124
      by_cases c125 : t485 = true
      ·subst c125
       have H1 : ((impl_RaggedOf.f kj17 t480 t481 t484).bind fun bt523 => ((impl_RaggedOf.f kj17 t480 t481 t500).bind fun bt525 => ((impl_WidthsUsed.f kj17 t480 t484).bind fun bt527 => ((impl_LeastWidth.f kj17 t480 t492).bind fun bt531 => (if (t484.length : Int) = t492 then ((laws_xSum.f kj17 t484).bind fun t533 => (if t533 = (t480.length : Int) then (if (t500.length : Int) < t492 then (laws_FnLinesSet.j1 kj17 l1 t480 t481 t484 bt527.1 true) else (if bt523.2 = true then (if bt523.1 < t496 then (laws_FnLinesSet.j1 kj17 l1 t480 t481 t484 bt527.1 true) else (if bt525.2 = true then (if bt525.1 = t496 then (if bt527.2 = true then (if (bt527.1.length : Int) = t492 then (if bt531.2 = true then (if bt531.1 > t481 then (laws_FnLinesSet.j1 kj17 l1 t480 t481 t484 bt527.1 true) else (if t512 < 1 then (laws_FnLinesSet.j1 kj17 l1 t480 t481 t484 bt527.1 true) else (if t508 < 0 then (laws_FnLinesSet.j1 kj17 l1 t480 t481 t484 bt527.1 true) else (if t508 ≥ t481 then (laws_FnLinesSet.j1 kj17 l1 t480 t481 t484 bt527.1 true) else (laws_FnLinesSet.j1 kj17 l1 t480 t481 t484 bt527.1 (decide ((wrap64 (t508 * t508)) > t496))))))) else (laws_FnLinesSet.j1 kj17 l1 t480 t481 t484 bt527.1 true)) else (laws_FnLinesSet.j1 kj17 l1 t480 t481 t484 bt527.1 true)) else (laws_FnLinesSet.j1 kj17 l1 t480 t481 t484 bt527.1 true)) else (laws_FnLinesSet.j1 kj17 l1 t480 t481 t484 bt527.1 true)) else (laws_FnLinesSet.j1 kj17 l1 t480 t481 t484 bt527.1 true))) else (laws_FnLinesSet.j1 kj17 l1 t480 t481 t484 bt527.1 true))) else (laws_FnLinesSet.j1 kj17 l1 t480 t481 t484 bt527.1 true))) else (laws_FnLinesSet.j1 kj17 l1 t480 t481 t484 bt527.1 true)))))) = some r := by rw [if_pos rfl] at H; exact H
       clear H
       have H := H1
       clear H1
       replace H := Option.bind_eq_some_iff.mp H
       obtain ⟨⟨t523, t524⟩, A1260, H⟩ := H
       (try dsimp only at H)
       have A126 := Aside0.mk A1260
       clear A1260
       replace H := Option.bind_eq_some_iff.mp H
       obtain ⟨⟨t525, t526⟩, A1270, H⟩ := H
       (try dsimp only at H)
       have A127 := Aside0.mk A1270
       clear A1270
       replace H := Option.bind_eq_some_iff.mp H
       obtain ⟨⟨t527, t528⟩, A1280, H⟩ := H
       (try dsimp only at H)
       have A128 := Aside0.mk A1280
       clear A1280
       replace H := Option.bind_eq_some_iff.mp H
       obtain ⟨⟨t531, t532⟩, A1290, H⟩ := H
       (try dsimp only at H)
       have A129 := Aside0.mk A1290
       clear A1290
       have HC130 := Aside0.mk H
       clear H
       obtain ⟨Ao131, co131, eo131⟩ := Kd.R_slice HO_7.out
       subst eo131
       go_upto_region 23 with (first | (go_at_call 48; (with_reducible refine (impl_RaggedOf.calls kj17 _ _ t480 t481 _ _ t484 t523 t524 _ ?side1 ?side2 ?side3 ?side4 A126.out).mono ?_); (case side1 => exact cr_ (Kd.R_reads' HO_5.out).2.2); (case side2 => exact (Kd.R_reads' HO_5.out).2.1); (case side3 => exact cr_ (Kd.R_reads' HO_7.out).2.2); (case side4 => exact (Kd.R_reads' HO_7.out).2.1); rintro e w132 ⟨rfl, hb⟩; have n0_ := Aside0.mk (Kd.R_below (rr_ HO_5.out) hb); have n1_ := Aside0.mk (Kd.R_below (rr_ HO_7.out) hb); have n2_ := Aside0.mk (Kd.R_below (rr_ HO_19.out) hb); have n3_ := Aside0.mk (below_step bw_ hb); clear HO_5; clear HO_7; clear HO_19; clear HB; have HO_5 := n0_; have HO_7 := n1_; have HO_19 := n2_; have HB := n3_; clear n0_ n1_ n2_ n3_; (try clear hb); (try clear hb2); (try clear hk); (try clear hi); obtain ⟨Ao133, co133, eo133⟩ := Kd.R_slice HO_19.out; subst eo133) | (go_at_call 48; (with_reducible refine (impl_RaggedOf.calls kj17 _ _ t480 t481 _ _ t500 t525 t526 _ ?side1 ?side2 ?side3 ?side4 A127.out).mono ?_); (case side1 => exact cr_ (Kd.R_reads' HO_5.out).2.2); (case side2 => exact (Kd.R_reads' HO_5.out).2.1); (case side3 => exact cr_ (Kd.R_reads' HO_19.out).2.2); (case side4 => exact (Kd.R_reads' HO_19.out).2.1); rintro e w134 ⟨rfl, hb⟩; have n0_ := Aside0.mk (Kd.R_below (rr_ HO_5.out) hb); have n1_ := Aside0.mk (Kd.R_below (rr_ HO_7.out) hb); have n2_ := Aside0.mk (Kd.R_below (rr_ HO_19.out) hb); have n3_ := Aside0.mk (below_step bw_ hb); clear HO_5; clear HO_7; clear HO_19; clear HB; have HO_5 := n0_; have HO_7 := n1_; have HO_19 := n2_; have HB := n3_; clear n0_ n1_ n2_ n3_; (try clear hb); (try clear hb2); (try clear hk); (try clear hi)) | (go_at_call 49; (with_reducible refine (impl_WidthsUsed.calls kj17 _ _ t480 _ _ t484 t527 t528 _ ?side1 ?side2 ?side3 ?side4 A128.out).mono ?_); (case side1 => exact cr_ (Kd.R_reads' HO_5.out).2.2); (case side2 => exact (Kd.R_reads' HO_5.out).2.1); (case side3 => exact cr_ (Kd.R_reads' HO_7.out).2.2); (case side4 => exact (Kd.R_reads' HO_7.out).2.1); rintro e w135 ⟨v529, rfl, ho0, hb⟩; have n0_ := Aside0.mk (Kd.R_elder' (rr_ HO_5.out) (Kd.R_base ho0) hb); have n1_ := Aside0.mk (Kd.R_elder' (rr_ HO_7.out) (Kd.R_base ho0) hb); have n2_ := Aside0.mk (Kd.R_elder' (rr_ HO_19.out) (Kd.R_base ho0) hb); have n3_ := Aside0.mk (Kd.R_lower (Kd.R_new' (Kd.R_new' (Kd.R_new' ho0 (Kd.R_lt (rr_ HO_5.out))) (Kd.R_lt (rr_ HO_7.out))) (Kd.R_lt (rr_ HO_19.out))) (below_size bw_)); have n4_ := Aside0.mk (below_step bw_ hb); clear HO_5; clear HO_7; clear HO_19; clear HB; have HO_5 := n0_; have HO_7 := n1_; have HO_19 := n2_; have HO530 := n3_; have HB := n4_; clear n0_ n1_ n2_ n3_ n4_; (try clear hb); (try clear hb2); (try clear hk); (try clear hi); (try clear ho0)) | (go_at_call 50; (with_reducible refine (impl_LeastWidth.calls kj17 _ _ t480 t492 t531 t532 _ ?side1 ?side2 A129.out).mono ?_); (case side1 => exact cr_ (Kd.R_reads' HO_5.out).2.2); (case side2 => exact (Kd.R_reads' HO_5.out).2.1); rintro e w136 ⟨rfl, hb⟩; have n0_ := Aside0.mk (Kd.R_below (rr_ HO_5.out) hb); have n1_ := Aside0.mk (Kd.R_below (rr_ HO_7.out) hb); have n2_ := Aside0.mk (Kd.R_below (rr_ HO_19.out) hb); have n3_ := Aside0.mk (Kd.R_below (rr_ HO530.out) hb); have n4_ := Aside0.mk (below_step bw_ hb); clear HO_5; clear HO_7; clear HO_19; clear HO530; clear HB; have HO_5 := n0_; have HO_7 := n1_; have HO_19 := n2_; have HO530 := n3_; have HB := n4_; clear n0_ n1_ n2_ n3_ n4_; (try clear hb); (try clear hb2); (try clear hk); (try clear hi)))
       repeat (go_quiet (fail); go_upto_region 23 with (fail))
       (try simp only [Act.put, List.setIfInBounds_toArray, List.set_cons_zero, List.set_cons_succ])
       go_cut [362] from 289 to 361 (fun v362 wc => ∃ (kq : Nat) (x362_129 : Bool), v362 = .bool x362_129 ∧ Aside0 (laws_FnLinesSet.j1 kq l1 t480 t481 t484 t527 x362_129 = some r) ∧ Aside0 (kq ≤ kj17) ∧ Aside0 (Kd.R (Kd.int .i64) 3 wc w.heap.size (fun k_ => some k_ ≠ ((.slice Ao131 t484.length co131) : Value).ownBlock ∧ some k_ ≠ (v529 : Value).ownBlock) (.slice Ao20 t480.length co20) t480) ∧ Aside0 (Kd.R (Kd.int .i64) 3 wc w.heap.size (fun k_ => some k_ ≠ ((.slice Ao20 t480.length co20) : Value).ownBlock ∧ some k_ ≠ (v529 : Value).ownBlock) (.slice Ao131 t484.length co131) t484) ∧ Aside0 (Kd.R (Kd.int .i64) 3 wc w.heap.size (fun k_ => some k_ ≠ ((.slice Ao20 t480.length co20) : Value).ownBlock ∧ some k_ ≠ ((.slice Ao131 t484.length co131) : Value).ownBlock) v529 t527) ∧ Aside0 (Below w.heap.size w wc))
       case first => as_aux_lemma =>
        have H := HC130.out
        clear HC130
        by_cases c137 : (t484.length : Int) = t492
        ·rw [if_pos c137] at H
         have c137b0 : ((t484.length : Int) == t492) = true := beq_iff_eq.mpr c137
         have c137b1 : ((t484.length : Int) != t492) = false := bne_eq_false_iff_eq.mpr c137
         clear c137
         (first | rw [c137b0] | skip)
         replace H := Option.bind_eq_some_iff.mp H
         obtain ⟨t533, A1380, H⟩ := H
         (try dsimp only at H)
         have A138 := Aside0.mk A1380
         clear A1380
         by_cases c139 : t533 = (t480.length : Int)
         ·rw [if_pos c139] at H
          have c139b0 : (t533 == (t480.length : Int)) = true := beq_iff_eq.mpr c139
          have c139b1 : (t533 != (t480.length : Int)) = false := bne_eq_false_iff_eq.mpr c139
          clear c139
          by_cases c140 : (t500.length : Int) < t492
          ·rw [if_pos c140] at H
           have c140b0 : decide ((t500.length : Int) < t492) = true := decide_eq_true c140
           clear c140
           exact (laws_FnLinesSet.j1_no H hr_.out).elim
          ·rw [if_neg c140] at H
           have c140b0 : decide ((t500.length : Int) < t492) = false := decide_eq_false c140
           clear c140
           by_cases c141 : t524 = true
           ·subst c141
            have H1 : (if t523 < t496 then (laws_FnLinesSet.j1 kj17 l1 t480 t481 t484 t527 true) else (if t526 = true then (if t525 = t496 then (if t528 = true then (if (t527.length : Int) = t492 then (if t532 = true then (if t531 > t481 then (laws_FnLinesSet.j1 kj17 l1 t480 t481 t484 t527 true) else (if t512 < 1 then (laws_FnLinesSet.j1 kj17 l1 t480 t481 t484 t527 true) else (if t508 < 0 then (laws_FnLinesSet.j1 kj17 l1 t480 t481 t484 t527 true) else (if t508 ≥ t481 then (laws_FnLinesSet.j1 kj17 l1 t480 t481 t484 t527 true) else (laws_FnLinesSet.j1 kj17 l1 t480 t481 t484 t527 (decide ((wrap64 (t508 * t508)) > t496))))))) else (laws_FnLinesSet.j1 kj17 l1 t480 t481 t484 t527 true)) else (laws_FnLinesSet.j1 kj17 l1 t480 t481 t484 t527 true)) else (laws_FnLinesSet.j1 kj17 l1 t480 t481 t484 t527 true)) else (laws_FnLinesSet.j1 kj17 l1 t480 t481 t484 t527 true)) else (laws_FnLinesSet.j1 kj17 l1 t480 t481 t484 t527 true))) = some r := by rw [if_pos rfl] at H; exact H
            clear H
            have H := H1
            clear H1
            by_cases c142 : t523 < t496
            ·rw [if_pos c142] at H
             have c142b0 : decide (t523 < t496) = true := decide_eq_true c142
             clear c142
             exact (laws_FnLinesSet.j1_no H hr_.out).elim
            ·rw [if_neg c142] at H
             have c142b0 : decide (t523 < t496) = false := decide_eq_false c142
             clear c142
             by_cases c143 : t526 = true
             ·subst c143
              have H1 : (if t525 = t496 then (if t528 = true then (if (t527.length : Int) = t492 then (if t532 = true then (if t531 > t481 then (laws_FnLinesSet.j1 kj17 l1 t480 t481 t484 t527 true) else (if t512 < 1 then (laws_FnLinesSet.j1 kj17 l1 t480 t481 t484 t527 true) else (if t508 < 0 then (laws_FnLinesSet.j1 kj17 l1 t480 t481 t484 t527 true) else (if t508 ≥ t481 then (laws_FnLinesSet.j1 kj17 l1 t480 t481 t484 t527 true) else (laws_FnLinesSet.j1 kj17 l1 t480 t481 t484 t527 (decide ((wrap64 (t508 * t508)) > t496))))))) else (laws_FnLinesSet.j1 kj17 l1 t480 t481 t484 t527 true)) else (laws_FnLinesSet.j1 kj17 l1 t480 t481 t484 t527 true)) else (laws_FnLinesSet.j1 kj17 l1 t480 t481 t484 t527 true)) else (laws_FnLinesSet.j1 kj17 l1 t480 t481 t484 t527 true)) = some r := by rw [if_pos rfl] at H; exact H
              clear H
              have H := H1
              clear H1
              by_cases c144 : t525 = t496
              ·rw [if_pos c144] at H
               have c144b0 : (t525 == t496) = true := beq_iff_eq.mpr c144
               have c144b1 : (t525 != t496) = false := bne_eq_false_iff_eq.mpr c144
               clear c144
               by_cases c145 : t528 = true
               ·subst c145
                have H1 : (if (t527.length : Int) = t492 then (if t532 = true then (if t531 > t481 then (laws_FnLinesSet.j1 kj17 l1 t480 t481 t484 t527 true) else (if t512 < 1 then (laws_FnLinesSet.j1 kj17 l1 t480 t481 t484 t527 true) else (if t508 < 0 then (laws_FnLinesSet.j1 kj17 l1 t480 t481 t484 t527 true) else (if t508 ≥ t481 then (laws_FnLinesSet.j1 kj17 l1 t480 t481 t484 t527 true) else (laws_FnLinesSet.j1 kj17 l1 t480 t481 t484 t527 (decide ((wrap64 (t508 * t508)) > t496))))))) else (laws_FnLinesSet.j1 kj17 l1 t480 t481 t484 t527 true)) else (laws_FnLinesSet.j1 kj17 l1 t480 t481 t484 t527 true)) = some r := by rw [if_pos rfl] at H; exact H
                clear H
                have H := H1
                clear H1
                by_cases c146 : (t527.length : Int) = t492
                ·rw [if_pos c146] at H
                 have c146b0 : ((t527.length : Int) == t492) = true := beq_iff_eq.mpr c146
                 have c146b1 : ((t527.length : Int) != t492) = false := bne_eq_false_iff_eq.mpr c146
                 clear c146
                 by_cases c147 : t532 = true
                 ·subst c147
                  have H1 : (if t531 > t481 then (laws_FnLinesSet.j1 kj17 l1 t480 t481 t484 t527 true) else (if t512 < 1 then (laws_FnLinesSet.j1 kj17 l1 t480 t481 t484 t527 true) else (if t508 < 0 then (laws_FnLinesSet.j1 kj17 l1 t480 t481 t484 t527 true) else (if t508 ≥ t481 then (laws_FnLinesSet.j1 kj17 l1 t480 t481 t484 t527 true) else (laws_FnLinesSet.j1 kj17 l1 t480 t481 t484 t527 (decide ((wrap64 (t508 * t508)) > t496))))))) = some r := by rw [if_pos rfl] at H; exact H
                  clear H
                  have H := H1
                  clear H1
                  by_cases c148 : t531 > t481
                  ·rw [if_pos c148] at H
                   have c148b0 : decide (t481 < t531) = true := decide_eq_true c148
                   clear c148
                   exact (laws_FnLinesSet.j1_no H hr_.out).elim
                  ·rw [if_neg c148] at H
                   have c148b0 : decide (t481 < t531) = false := decide_eq_false c148
                   clear c148
                   by_cases c150 : t512 < 1
                   ·rw [if_pos c150] at H
                    have c150b0 : decide (t512 < 1) = true := decide_eq_true c150
                    clear c150
                    exact (laws_FnLinesSet.j1_no H hr_.out).elim
                   ·rw [if_neg c150] at H
                    have c150b0 : decide (t512 < 1) = false := decide_eq_false c150
                    clear c150
                    by_cases c152 : t508 < 0
                    ·rw [if_pos c152] at H
                     have c152b0 : decide (t508 < 0) = true := decide_eq_true c152
                     clear c152
                     exact (laws_FnLinesSet.j1_no H hr_.out).elim
                    ·rw [if_neg c152] at H
                     have c152b0 : decide (t508 < 0) = false := decide_eq_false c152
                     clear c152
                     by_cases c154 : t508 ≥ t481
                     ·rw [if_pos c154] at H
                      have c154b0 : decide (t481 ≤ t508) = true := decide_eq_true c154
                      clear c154
                      exact (laws_FnLinesSet.j1_no H hr_.out).elim
                     ·rw [if_neg c154] at H
                      have c154b0 : decide (t481 ≤ t508) = false := decide_eq_false c154
                      clear c154
                      have H' := Aside0.mk H
                      clear H
                      go_wp2_with (first | (go_at_call 13; (with_reducible refine (laws_xSum.calls kj17 _ _ t484 t533 _ ?side1 ?side2 A138.out).mono ?_); (case side1 => exact cr_ (Kd.R_reads' HO_7.out).2.2); (case side2 => exact (Kd.R_reads' HO_7.out).2.1); rintro e w' ⟨rfl, ⟨nd, rfl⟩⟩; (try exact dd_); obtain ⟨Ao156, co156, eo156⟩ := Kd.R_slice HO530.out; subst eo156))
                      repeat (go_quiet (first | (go_at_call 13; (with_reducible refine (laws_xSum.calls kj17 _ _ t484 t533 _ ?side1 ?side2 A138.out).mono ?_); (case side1 => exact cr_ (Kd.R_reads' HO_7.out).2.2); (case side2 => exact (Kd.R_reads' HO_7.out).2.1); rintro e w' ⟨rfl, ⟨nd, rfl⟩⟩; (try exact dd_); obtain ⟨Ao156, co156, eo156⟩ := Kd.R_slice HO530.out; subst eo156)); try go_wp2)
                      go_meet
                      case rel => exact ⟨_, (decide ((wrap64 (t508 * t508)) > t496)), rs_, H', ⟨by have := HJ17.out; first | omega | exact Nat.le_refl _⟩, ⟨by (with_reducible repeat (first | apply Kd.R_alloc | apply Kd.R_drewN | apply Kd.R_drew)); exact Kd.R_mono HO_5.out (fun _ hk => ⟨hk.1.1, hk.2⟩)⟩, ⟨by (with_reducible repeat (first | apply Kd.R_alloc | apply Kd.R_drewN | apply Kd.R_drew)); exact Kd.R_mono HO_7.out (fun _ hk => ⟨hk.1.1, hk.2⟩)⟩, ⟨by (with_reducible repeat (first | apply Kd.R_alloc | apply Kd.R_drewN | apply Kd.R_drew)); exact Kd.R_mono HO530.out (fun _ hk => ⟨hk.1.1.2, hk.1.2⟩)⟩, ⟨bw_⟩⟩
                 ·replace c147 := Bool.eq_false_iff.mpr c147
                  subst c147
                  have H1 : (laws_FnLinesSet.j1 kj17 l1 t480 t481 t484 t527 true) = some r := by rw [if_neg (show ¬ (false = true) by decide)] at H; exact H
                  clear H
                  have H := H1
                  clear H1
                  exact (laws_FnLinesSet.j1_no H hr_.out).elim
                ·rw [if_neg c146] at H
                 have c146b0 : ((t527.length : Int) == t492) = false := beq_eq_false_iff_ne.mpr c146
                 have c146b1 : ((t527.length : Int) != t492) = true := bne_iff_ne.mpr c146
                 exact (laws_FnLinesSet.j1_no H hr_.out).elim
               ·replace c145 := Bool.eq_false_iff.mpr c145
                subst c145
                have H1 : (laws_FnLinesSet.j1 kj17 l1 t480 t481 t484 t527 true) = some r := by rw [if_neg (show ¬ (false = true) by decide)] at H; exact H
                clear H
                have H := H1
                clear H1
                exact (laws_FnLinesSet.j1_no H hr_.out).elim
              ·rw [if_neg c144] at H
               have c144b0 : (t525 == t496) = false := beq_eq_false_iff_ne.mpr c144
               have c144b1 : (t525 != t496) = true := bne_iff_ne.mpr c144
               exact (laws_FnLinesSet.j1_no H hr_.out).elim
             ·replace c143 := Bool.eq_false_iff.mpr c143
              subst c143
              have H1 : (laws_FnLinesSet.j1 kj17 l1 t480 t481 t484 t527 true) = some r := by rw [if_neg (show ¬ (false = true) by decide)] at H; exact H
              clear H
              have H := H1
              clear H1
              exact (laws_FnLinesSet.j1_no H hr_.out).elim
           ·replace c141 := Bool.eq_false_iff.mpr c141
            subst c141
            have H1 : (laws_FnLinesSet.j1 kj17 l1 t480 t481 t484 t527 true) = some r := by rw [if_neg (show ¬ (false = true) by decide)] at H; exact H
            clear H
            have H := H1
            clear H1
            exact (laws_FnLinesSet.j1_no H hr_.out).elim
         ·rw [if_neg c139] at H
          have c139b0 : (t533 == (t480.length : Int)) = false := beq_eq_false_iff_ne.mpr c139
          have c139b1 : (t533 != (t480.length : Int)) = true := bne_iff_ne.mpr c139
          exact (laws_FnLinesSet.j1_no H hr_.out).elim
        ·rw [if_neg c137] at H
         have c137b0 : ((t484.length : Int) == t492) = false := beq_eq_false_iff_ne.mpr c137
         have c137b1 : ((t484.length : Int) != t492) = true := bne_iff_ne.mpr c137
         (first | rw [c137b0] | skip)
         exact (laws_FnLinesSet.j1_no H hr_.out).elim
       case rest => as_aux_lemma =>
        clear HC130
        (try clear c1); (try clear p2); (try clear c3); (try clear c4); (try clear c5); (try clear c6); (try clear p6); (try clear c7); (try clear c8); (try clear c12); (try clear c13); (try clear c14); (try clear c15); (try clear c33); (try clear c33b0); (try clear c33b1); (try clear c33b2); (try clear c35); (try clear c36); (try clear c36b0); (try clear c36b1); (try clear c36b2); (try clear c39); (try clear c39b0); (try clear c39b1); (try clear c40); (try clear c40b0); (try clear c40b1); (try clear c40b2); (try clear c43); (try clear c43b0); (try clear c43b1); (try clear c44); (try clear c44b0); (try clear c44b1); (try clear c44b2); (try clear c48); (try clear c49); (try clear c49b0); (try clear c49b1); (try clear c49b2); (try clear c54); (try clear c54b0); (try clear c54b1); (try clear c55); (try clear c55b0); (try clear c55b1); (try clear c55b2); (try clear c60); (try clear c60b0); (try clear c60b1); (try clear c61); (try clear c61b0); (try clear c61b1); (try clear c61b2); (try clear p64); (try clear c66); (try clear c66b0); (try clear c66b1); (try clear c66b2); (try clear c71); (try clear c71b0); (try clear c71b1); (try clear c71b2); (try clear c76); (try clear c76b0); (try clear c76b1); (try clear c76b2); (try clear c81); (try clear c81b0); (try clear c81b1); (try clear c81b2); (try clear c86); (try clear c88); (try clear c123); (try clear c125); (try clear c137); (try clear c137b0); (try clear c137b1); (try clear c139); (try clear c139b0); (try clear c139b1); (try clear c140); (try clear c140b0); (try clear c141); (try clear c142); (try clear c142b0); (try clear c143); (try clear c144); (try clear c144b0); (try clear c144b1); (try clear c145); (try clear c146); (try clear c146b0); (try clear c146b1); (try clear c147); (try clear c148); (try clear c148b0); (try clear c150); (try clear c150b0); (try clear c152); (try clear c152b0); (try clear c154); (try clear c154b0)
        obtain ⟨kq, x362_129, rfl, HA, HJ129, HO_5, HO_7, HO_35, HB⟩ := hcut
        cases kq with
        | zero => exact absurd HA.out (by simp [laws_FnLinesSet.j1])
        | succ kj129 =>
         have H := HA.out
         clear HA
         simp only [laws_FnLinesSet.j1] at H
         by_cases c159 : x362_129 = true
         ·subst c159
          have H1 : (some false) = some r := by rw [if_pos rfl] at H; exact H
          clear H
          have H := H1
          clear H1
          obtain rfl := Option.some.inj H
          exact absurd hr_.out (by decide)
         ·replace c159 := Bool.eq_false_iff.mpr c159
          subst c159
          have H1 : (laws_FnLinesSet.l0 kj129 l1 t480 t481 t527 0 t484 (t484.length : Int) 0) = some r := by rw [if_neg (show ¬ (false = true) by decide)] at H; exact H
          clear H
          have H := H1
          clear H1
          have H' := Aside0.mk H
          clear H
          go_wp2
          repeat (go_quiet (fail); try go_wp2)
          go_loopg [39, 365] kj129 (fun kq v39 v365 w' => ∃ (x39_3 : Int) (x365_3 : Int), v39 = .int .i64 x39_3 ∧ v365 = .int .i64 x365_3 ∧ Aside0 (laws_FnLinesSet.l0 kq l1 t480 t481 t527 x39_3 t484 (t484.length : Int) x365_3 = some r) ∧ Aside0 (kq ≤ kj129) ∧ Aside0 (Kd.R (Kd.int .i64) 3 w' w.heap.size (fun k_ => some k_ ≠ (v529 : Value).ownBlock ∧ some k_ ≠ ((.slice Ao131 t484.length co131) : Value).ownBlock) (.slice Ao20 t480.length co20) t480) ∧ Aside0 (Kd.R (Kd.int .i64) 3 w' w.heap.size (fun k_ => some k_ ≠ ((.slice Ao20 t480.length co20) : Value).ownBlock ∧ some k_ ≠ ((.slice Ao131 t484.length co131) : Value).ownBlock) v529 t527) ∧ Aside0 (Kd.R (Kd.int .i64) 3 w' w.heap.size (fun k_ => some k_ ≠ ((.slice Ao20 t480.length co20) : Value).ownBlock ∧ some k_ ≠ (v529 : Value).ownBlock) (.slice Ao131 t484.length co131) t484) ∧ Aside0 (Below w.heap.size w w'))
          case atStart => exact ⟨(0), (0), rs_, rs_, H', ⟨Nat.le_refl _⟩, ⟨by (with_reducible repeat (first | apply Kd.R_alloc | apply Kd.R_drewN | apply Kd.R_drew)); exact Kd.R_mono HO_5.out (fun _ hk => ⟨hk.2, hk.1⟩)⟩, ⟨rr_ HO_35.out⟩, ⟨rr_ HO_7.out⟩, ⟨bw_⟩⟩
          case round =>
           clear H'
           (try clear c1); (try clear p2); (try clear c3); (try clear c4); (try clear c5); (try clear c6); (try clear p6); (try clear c7); (try clear c8); (try clear c12); (try clear c13); (try clear c14); (try clear c15); (try clear c33); (try clear c33b0); (try clear c33b1); (try clear c33b2); (try clear c35); (try clear c36); (try clear c36b0); (try clear c36b1); (try clear c36b2); (try clear c39); (try clear c39b0); (try clear c39b1); (try clear c40); (try clear c40b0); (try clear c40b1); (try clear c40b2); (try clear c43); (try clear c43b0); (try clear c43b1); (try clear c44); (try clear c44b0); (try clear c44b1); (try clear c44b2); (try clear c48); (try clear c49); (try clear c49b0); (try clear c49b1); (try clear c49b2); (try clear c54); (try clear c54b0); (try clear c54b1); (try clear c55); (try clear c55b0); (try clear c55b1); (try clear c55b2); (try clear c60); (try clear c60b0); (try clear c60b1); (try clear c61); (try clear c61b0); (try clear c61b1); (try clear c61b2); (try clear p64); (try clear c66); (try clear c66b0); (try clear c66b1); (try clear c66b2); (try clear c71); (try clear c71b0); (try clear c71b1); (try clear c71b2); (try clear c76); (try clear c76b0); (try clear c76b1); (try clear c76b2); (try clear c81); (try clear c81b0); (try clear c81b1); (try clear c81b2); (try clear c86); (try clear c88); (try clear c123); (try clear c125); (try clear c137); (try clear c137b0); (try clear c137b1); (try clear c139); (try clear c139b0); (try clear c139b1); (try clear c140); (try clear c140b0); (try clear c141); (try clear c142); (try clear c142b0); (try clear c143); (try clear c144); (try clear c144b0); (try clear c144b1); (try clear c145); (try clear c146); (try clear c146b0); (try clear c146b1); (try clear c147); (try clear c148); (try clear c148b0); (try clear c150); (try clear c150b0); (try clear c152); (try clear c152b0); (try clear c154); (try clear c154b0); (try clear c159)
           obtain ⟨x39_3, x365_3, rfl, rfl, HA, HK3, HO_5, HO_35, HO_363, HB⟩ := hrel
           cases gk with
           | zero => exact absurd HA.out (by simp [laws_FnLinesSet.l0])
           | succ k3 =>
            have H := HA.out
            clear HA
            simp only [laws_FnLinesSet.l0] at H
            by_cases c160 : x365_3 < (t484.length : Int)
            ·rw [if_pos c160] at H
             have c160b0 : decide (x365_3 < (t484.length : Int)) = true := decide_eq_true c160
             clear c160
             by_cases c161 : 0 ≤ x365_3
             ·rw [if_pos c161] at H
              have c161b0 : decide (0 ≤ x365_3) = true := decide_eq_true c161
              clear c161
              by_cases c162 : x365_3 < (t484.length : Int)
              ·rw [if_pos c162] at H
               have c162b0 : decide (x365_3 < (t484.length : Int)) = true := decide_eq_true c162
               clear c162
               by_cases c163 : x365_3 < (t527.length : Int)
               ·rw [if_pos c163] at H
                have c163b0 : decide (x365_3 < (t527.length : Int)) = true := decide_eq_true c163
                clear c163
                by_cases c164 : (rd t527 x365_3) > t481
                ·rw [if_pos c164] at H
                 have c164b0 : decide (t481 < (rd t527 x365_3)) = true := decide_eq_true c164
                 clear c164
                 obtain rfl := Option.some.inj H
                 exact absurd hr_.out (by decide)
                ·rw [if_neg c164] at H
                 have c164b0 : decide (t481 < (rd t527 x365_3)) = false := decide_eq_false c164
                 clear c164
                 by_cases c165 : (wrap64 (x39_3 + (rd t484 x365_3))) < (t480.length : Int)
                 ·rw [if_pos c165] at H
                  have c165b0 : decide ((wrap64 (x39_3 + (rd t484 x365_3))) < (t480.length : Int)) = true := decide_eq_true c165
                  clear c165
                  obtain ⟨ji166, hji166⟩ : ∃ j_ : Int, (wrap64 (x39_3 + (rd t484 x365_3))) = j_ := ⟨_, rfl⟩
                  replace H : (if 0 ≤ (ji166) then (if (wrap64 ((wrap64 ((rd t527 x365_3) + 1)) + (rd t480 (ji166)))) ≤ t481 then (some false) else (laws_FnLinesSet.l0 k3 l1 t480 t481 t527 ji166 t484 (t484.length : Int) (wrap64 (x365_3 + 1)))) else (none)) = some r := by first | (rw [hji166] at H; exact H) | (simp only [hji166] at H ⊢; exact H)
                  (try rw [hji166] at c165b0)
                  have hji166w : (IntKind.i64.wrap (x39_3 + (rd t484 x365_3))) = ji166 := (i64_w _).trans hji166
                  by_cases c167 : 0 ≤ (ji166)
                  ·rw [if_pos c167] at H
                   have c167b0 : decide (0 ≤ (ji166)) = true := decide_eq_true c167
                   clear c167
                   by_cases c168 : (wrap64 ((wrap64 ((rd t527 x365_3) + 1)) + (rd t480 (ji166)))) ≤ t481
                   ·rw [if_pos c168] at H
                    have c168b0 : decide ((wrap64 ((wrap64 ((rd t527 x365_3) + 1)) + (rd t480 (ji166)))) ≤ t481) = true := decide_eq_true c168
                    clear c168
                    obtain rfl := Option.some.inj H
                    exact absurd hr_.out (by decide)
                   ·rw [if_neg c168] at H
                    have c168b0 : decide ((wrap64 ((wrap64 ((rd t527 x365_3) + 1)) + (rd t480 (ji166)))) ≤ t481) = false := decide_eq_false c168
                    clear c168
                    have H' := Aside0.mk H
                    clear H
                    have p534 : 0 ≤ (x365_3 : Int) := of_decide_eq_true (by first | (with_reducible assumption) | assumption)
                    have q534 : x365_3 < (t484.length : Int) := of_decide_eq_true (by first | (with_reducible assumption) | assumption)
                    obtain ⟨ad534, e534, hx534_0⟩ := Kd.at_int (Kd.R_reads' HO_363.out).2.2 x365_3 p534 q534
                    cases e534
                    replace p534 := eq_true p534
                    replace q534 := eq_true q534
                    obtain ⟨Ao169, co169, eo169⟩ := Kd.R_slice HO_35.out
                    subst eo169
                    have p535 : 0 ≤ (x365_3 : Int) := of_decide_eq_true (by first | (with_reducible assumption) | assumption)
                    have q535 : x365_3 < (t527.length : Int) := of_decide_eq_true (by first | (with_reducible assumption) | assumption)
                    obtain ⟨ad535, e535, hx535_0⟩ := Kd.at_int (Kd.R_reads' HO_35.out).2.2 x365_3 p535 q535
                    cases e535
                    replace p535 := eq_true p535
                    replace q535 := eq_true q535
                    have p536 : 0 ≤ (x365_3 : Int) := of_decide_eq_true (by first | (with_reducible assumption) | assumption)
                    have q536 : x365_3 < (t527.length : Int) := of_decide_eq_true (by first | (with_reducible assumption) | assumption)
                    obtain ⟨ad536, e536, hx536_0⟩ := Kd.at_int (Kd.R_reads' HO_35.out).2.2 x365_3 p536 q536
                    obtain rfl : ad535 = ad536 := (by injection e536)
                    replace p536 := eq_true p536
                    replace q536 := eq_true q536
                    have p537 : 0 ≤ ((ji166) : Int) := of_decide_eq_true (by first | (with_reducible assumption) | assumption)
                    have q537 : (ji166) < (t480.length : Int) := of_decide_eq_true (by first | (with_reducible assumption) | assumption)
                    obtain ⟨ad537, e537, hx537_0⟩ := Kd.at_int (Kd.R_reads' HO_5.out).2.2 (ji166) p537 q537
                    cases e537
                    replace p537 := eq_true p537
                    replace q537 := eq_true q537
                    go_wp2
                    repeat (go_quiet (fail); try go_wp2)
                    go_roundg k3
                    case measure => have := HJ17.out; have := HJ129.out; have := HK3.out; omega
                    case rel => exact ⟨(ji166), (wrap64 (x365_3 + 1)), (by first | rfl | (simp; done) | (simp only [← hji166] <;> (first | rfl | simp)) | (simp [*]; done)), rs_, H', ⟨by have := HJ17.out; have := HJ129.out; have := HK3.out; omega⟩, ⟨rr_ HO_5.out⟩, ⟨rr_ HO_35.out⟩, ⟨rr_ HO_363.out⟩, ⟨bw_⟩⟩
                  ·rw [if_neg c167] at H
                   exact absurd H (by simp)
                 ·rw [if_neg c165] at H
                  have c165b0 : decide ((wrap64 (x39_3 + (rd t484 x365_3))) < (t480.length : Int)) = false := decide_eq_false c165
                  clear c165
                  have H' := Aside0.mk H
                  clear H
                  have p534 : 0 ≤ (x365_3 : Int) := of_decide_eq_true (by first | (with_reducible assumption) | assumption)
                  have q534 : x365_3 < (t484.length : Int) := of_decide_eq_true (by first | (with_reducible assumption) | assumption)
                  obtain ⟨ad534, e534, hx534_0⟩ := Kd.at_int (Kd.R_reads' HO_363.out).2.2 x365_3 p534 q534
                  cases e534
                  replace p534 := eq_true p534
                  replace q534 := eq_true q534
                  obtain ⟨Ao170, co170, eo170⟩ := Kd.R_slice HO_35.out
                  subst eo170
                  have p535 : 0 ≤ (x365_3 : Int) := of_decide_eq_true (by first | (with_reducible assumption) | assumption)
                  have q535 : x365_3 < (t527.length : Int) := of_decide_eq_true (by first | (with_reducible assumption) | assumption)
                  obtain ⟨ad535, e535, hx535_0⟩ := Kd.at_int (Kd.R_reads' HO_35.out).2.2 x365_3 p535 q535
                  cases e535
                  replace p535 := eq_true p535
                  replace q535 := eq_true q535
                  go_wp2
                  repeat (go_quiet (fail); try go_wp2)
                  go_roundg k3
                  case measure => have := HJ17.out; have := HJ129.out; have := HK3.out; omega
                  case rel => exact ⟨(wrap64 (x39_3 + (rd t484 x365_3))), (wrap64 (x365_3 + 1)), rs_, rs_, H', ⟨by have := HJ17.out; have := HJ129.out; have := HK3.out; omega⟩, ⟨rr_ HO_5.out⟩, ⟨rr_ HO_35.out⟩, ⟨rr_ HO_363.out⟩, ⟨bw_⟩⟩
               ·rw [if_neg c163] at H
                exact absurd H (by simp)
              ·rw [if_neg c162] at H
               exact absurd H (by simp)
             ·rw [if_neg c161] at H
              exact absurd H (by simp)
            ·rw [if_neg c160] at H
             have c160b0 : decide (x365_3 < (t484.length : Int)) = false := decide_eq_false c160
             clear c160
             have H' := Aside0.mk H
             clear H
             go_wp2
             repeat (go_quiet (fail); try go_wp2)
             go_meet
             case rel => exact ⟨_, H', ⟨by have := HJ17.out; have := HJ129.out; have := HK3.out; first | omega | exact Nat.le_refl _⟩, ⟨bw_⟩⟩
      ·replace c125 := Bool.eq_false_iff.mpr c125
       subst c125
       have H1 : (laws_FnLinesSet.j3 kj17 l1) = some r := by rw [if_neg (show ¬ (false = true) by decide)] at H; exact H
       clear H
       have H := H1
       clear H1
       have H' := Aside0.mk H
       clear H
       go_wp2
       repeat (go_quiet (fail); try go_wp2)
       go_meet
       case rel => exact ⟨_, H', ⟨by have := HJ17.out; first | omega | exact Nat.le_refl _⟩, ⟨bw_⟩⟩
     case rest => as_aux_lemma =>
      clear HC124
      (try clear c1); (try clear p2); (try clear c3); (try clear c4); (try clear c5); (try clear p5); (try clear q5); (try clear hx5); (try clear c6); (try clear p6); (try clear c7); (try clear c8); (try clear c12); (try clear c13); (try clear c14); (try clear c15); (try clear c16); (try clear c33); (try clear c33b0); (try clear c33b1); (try clear c33b2); (try clear c35); (try clear c36); (try clear c36b0); (try clear c36b1); (try clear c36b2); (try clear c39); (try clear c39b0); (try clear c39b1); (try clear c40); (try clear c40b0); (try clear c40b1); (try clear c40b2); (try clear c43); (try clear c43b0); (try clear c43b1); (try clear c44); (try clear c44b0); (try clear c44b1); (try clear c44b2); (try clear c48); (try clear c49); (try clear c49b0); (try clear c49b1); (try clear c49b2); (try clear p53); (try clear q53); (try clear hx53); (try clear c54); (try clear c54b0); (try clear c54b1); (try clear c55); (try clear c55b0); (try clear c55b1); (try clear c55b2); (try clear c60); (try clear c60b0); (try clear c60b1); (try clear c61); (try clear c61b0); (try clear c61b1); (try clear c61b2); (try clear p64); (try clear c66); (try clear c66b0); (try clear c66b1); (try clear c66b2); (try clear c71); (try clear c71b0); (try clear c71b1); (try clear c71b2); (try clear c76); (try clear c76b0); (try clear c76b1); (try clear c76b2); (try clear c81); (try clear c81b0); (try clear c81b1); (try clear c81b2); (try clear c86); (try clear c88); (try clear c123); (try clear c125); (try clear c137); (try clear c137b0); (try clear c137b1); (try clear c139); (try clear c139b0); (try clear c139b1); (try clear c140); (try clear c140b0); (try clear c141); (try clear c142); (try clear c142b0); (try clear c143); (try clear c144); (try clear c144b0); (try clear c144b1); (try clear c145); (try clear c146); (try clear c146b0); (try clear c146b1); (try clear c147); (try clear c148); (try clear c148b0); (try clear c150); (try clear c150b0); (try clear c152); (try clear c152b0); (try clear c154); (try clear c154b0); (try clear c159); (try clear c160); (try clear c160b0); (try clear c161); (try clear c161b0); (try clear c162); (try clear c162b0); (try clear c163); (try clear c163b0); (try clear c164); (try clear c164b0); (try clear c165); (try clear c165b0); (try clear c167); (try clear c167b0); (try clear c168); (try clear c168b0); (try clear hx534_0); (try clear hx535_0); (try clear hx536_0); (try clear hx537_0); (try clear p534); (try clear p535); (try clear p536); (try clear p537); (try clear q534); (try clear q535); (try clear q536); (try clear q537)
      obtain ⟨kq, HA, HJ123, HB⟩ := hcut
      cases kq with
      | zero => exact absurd HA.out (by simp [laws_FnLinesSet.j3])
      | succ kj123 =>
       have H := HA.out
       clear HA
       simp only [laws_FnLinesSet.j3] at H
       replace H := Option.bind_eq_some_iff.mp H
       obtain ⟨⟨t538, t539, t540⟩, A1710, H⟩ := H
       (try dsimp only at H)
       have A171 := Aside0.mk A1710
       clear A1710
       replace H := Option.bind_eq_some_iff.mp H
       obtain ⟨⟨t545, t546⟩, A1720, H⟩ := H
       (try dsimp only at H)
       have A172 := Aside0.mk A1720
       clear A1720
       replace H := Option.bind_eq_some_iff.mp H
       obtain ⟨⟨t547, t548⟩, A1730, H⟩ := H
       (try dsimp only at H)
       have A173 := Aside0.mk A1730
       clear A1730
       replace H := Option.bind_eq_some_iff.mp H
       obtain ⟨⟨t549, t550⟩, A1740, H⟩ := H
       (try dsimp only at H)
       have A174 := Aside0.mk A1740
       clear A1740
       replace H := Option.bind_eq_some_iff.mp H
       obtain ⟨⟨t555, t556⟩, A1750, H⟩ := H
       (try dsimp only at H)
       have A175 := Aside0.mk A1750
       clear A1750
       replace H := Option.bind_eq_some_iff.mp H
       obtain ⟨⟨t559, t560⟩, A1760, H⟩ := H
       (try dsimp only at H)
       have A176 := Aside0.mk A1760
       clear A1760
       replace H := Option.bind_eq_some_iff.mp H
       obtain ⟨⟨t563, t564⟩, A1770, H⟩ := H
       (try dsimp only at H)
       have A177 := Aside0.mk A1770
       clear A1770
       replace H := Option.bind_eq_some_iff.mp H
       obtain ⟨⟨t567, t568⟩, A1780, H⟩ := H
       (try dsimp only at H)
       have A178 := Aside0.mk A1780
       clear A1780
       replace H := Option.bind_eq_some_iff.mp H
       obtain ⟨⟨t569, t570⟩, A1790, H⟩ := H
       (try dsimp only at H)
       have A179 := Aside0.mk A1790
       clear A1790
       replace H := Option.bind_eq_some_iff.mp H
       obtain ⟨⟨t571, t572⟩, A1800, H⟩ := H
       (try dsimp only at H)
       have A180 := Aside0.mk A1800
       clear A1800
       replace H := Option.bind_eq_some_iff.mp H
       obtain ⟨⟨t573, t574⟩, A1810, H⟩ := H
       (try dsimp only at H)
       have A181 := Aside0.mk A1810
       clear A1810
       replace H := Option.bind_eq_some_iff.mp H
       obtain ⟨⟨t577, t578⟩, A1820, H⟩ := H
       (try dsimp only at H)
       have A182 := Aside0.mk A1820
       clear A1820
       replace H := Option.bind_eq_some_iff.mp H
       obtain ⟨⟨t581, t582⟩, A1830, H⟩ := H
       (try dsimp only at H)
       have A183 := Aside0.mk A1830
       clear A1830
       replace H := Option.bind_eq_some_iff.mp H
       obtain ⟨⟨t585, t586⟩, A1840, H⟩ := H
       (try dsimp only at H)
       have A184 := Aside0.mk A1840
       clear A1840
       have HC185 := Aside0.mk H
       clear H
       go_upto_region 47 with (first | (go_at_call 51; (with_reducible refine (spec_DrawRaggedOf.calls kj123 _ _ l1 t538 t539 t540 _ ?side1 ?side2 A171.out).mono ?_); (case side1 => exact cr_ (Kd.C_below HR1.out HB.out)); (case side2 => exact HC1.out); rintro e w186 ⟨v541, v543, rfl, ho0, ho1, hb⟩; have n0_ := Aside0.mk (Kd.R_lower ho0 (below_size bw_)); have n1_ := Aside0.mk (Kd.R_lower ho1 (below_size bw_)); have n2_ := Aside0.mk (below_step bw_ hb); clear HB; have HO542 := n0_; have HO544 := n1_; have HB := n2_; clear n0_ n1_ n2_; (try clear hb); (try clear hb2); (try clear hk); (try clear hi); (try clear ho0); (try clear ho1); obtain ⟨Ao187, co187, eo187⟩ := Kd.R_slice HO542.out; subst eo187; obtain ⟨Ao188, co188, eo188⟩ := Kd.R_slice HO544.out; subst eo188) | (go_at_call 48; (with_reducible refine (impl_RaggedOf.calls kj123 _ _ t538 t539 _ _ t540 t545 t546 _ ?side1 ?side2 ?side3 ?side4 A172.out).mono ?_); (case side1 => exact cr_ (Kd.R_reads' HO542.out).2.2); (case side2 => exact (Kd.R_reads' HO542.out).2.1); (case side3 => exact cr_ (Kd.R_reads' HO544.out).2.2); (case side4 => exact (Kd.R_reads' HO544.out).2.1); rintro e w189 ⟨rfl, hb⟩; have n0_ := Aside0.mk (Kd.R_below (rr_ HO542.out) hb); have n1_ := Aside0.mk (Kd.R_below (rr_ HO544.out) hb); have n2_ := Aside0.mk (below_step bw_ hb); clear HO542; clear HO544; clear HB; have HO542 := n0_; have HO544 := n1_; have HB := n2_; clear n0_ n1_ n2_; (try clear hb); (try clear hb2); (try clear hk); (try clear hi)) | (go_at_call 52; (with_reducible refine (spec_RaggedOf.calls kj123 _ _ t538 t539 _ _ t540 t547 t548 _ ?side1 ?side2 ?side3 ?side4 A173.out).mono ?_); (case side1 => exact cr_ (Kd.R_reads' HO542.out).2.2); (case side2 => exact (Kd.R_reads' HO542.out).2.1); (case side3 => exact cr_ (Kd.R_reads' HO544.out).2.2); (case side4 => exact (Kd.R_reads' HO544.out).2.1); rintro e w190 ⟨rfl, hb⟩; have n0_ := Aside0.mk (Kd.R_below (rr_ HO542.out) hb); have n1_ := Aside0.mk (Kd.R_below (rr_ HO544.out) hb); have n2_ := Aside0.mk (below_step bw_ hb); clear HO542; clear HO544; clear HB; have HO542 := n0_; have HO544 := n1_; have HB := n2_; clear n0_ n1_ n2_; (try clear hb); (try clear hb2); (try clear hk); (try clear hi)) | (go_at_call 53; (with_reducible refine (spec_DrawWidthsUsed.calls kj123 _ _ l1 t549 t550 _ ?side1 ?side2 A174.out).mono ?_); (case side1 => exact cr_ (Kd.C_below HR1.out HB.out)); (case side2 => exact HC1.out); rintro e w191 ⟨v551, v553, rfl, ho0, ho1, hb⟩; have n0_ := Aside0.mk (Kd.R_mono (Kd.R_told (Kd.R_told (Kd.R_old (rr_ HO542.out) hb) (Kd.R_base ho0)) (Kd.R_base ho1)) (fun _ h_ => h_.1)); have n1_ := Aside0.mk (Kd.R_mono (Kd.R_told (Kd.R_told (Kd.R_old (rr_ HO544.out) hb) (Kd.R_base ho0)) (Kd.R_base ho1)) (fun _ h_ => h_.1)); have n2_ := Aside0.mk (Kd.R_lower (Kd.R_new' (Kd.R_new' ho0 (Kd.R_lt (rr_ HO542.out))) (Kd.R_lt (rr_ HO544.out))) (below_size bw_)); have n3_ := Aside0.mk (Kd.R_lower (Kd.R_new' (Kd.R_new' ho1 (Kd.R_lt (rr_ HO542.out))) (Kd.R_lt (rr_ HO544.out))) (below_size bw_)); have n4_ := Aside0.mk (below_step bw_ hb); clear HO542; clear HO544; clear HB; have HO542 := n0_; have HO544 := n1_; have HO552 := n2_; have HO554 := n3_; have HB := n4_; clear n0_ n1_ n2_ n3_ n4_; (try clear hb); (try clear hb2); (try clear hk); (try clear hi); (try clear ho0); (try clear ho1); obtain ⟨Ao192, co192, eo192⟩ := Kd.R_slice HO552.out; subst eo192; obtain ⟨Ao193, co193, eo193⟩ := Kd.R_slice HO554.out; subst eo193) | (go_at_call 49; (with_reducible refine (impl_WidthsUsed.calls kj123 _ _ t549 _ _ t550 t555 t556 _ ?side1 ?side2 ?side3 ?side4 A175.out).mono ?_); (case side1 => exact cr_ (Kd.R_reads' HO552.out).2.2); (case side2 => exact (Kd.R_reads' HO552.out).2.1); (case side3 => exact cr_ (Kd.R_reads' HO554.out).2.2); (case side4 => exact (Kd.R_reads' HO554.out).2.1); rintro e w194 ⟨v557, rfl, ho0, hb⟩; have n0_ := Aside0.mk (Kd.R_elder' (rr_ HO542.out) (Kd.R_base ho0) hb); have n1_ := Aside0.mk (Kd.R_elder' (rr_ HO544.out) (Kd.R_base ho0) hb); have n2_ := Aside0.mk (Kd.R_elder' (rr_ HO552.out) (Kd.R_base ho0) hb); have n3_ := Aside0.mk (Kd.R_elder' (rr_ HO554.out) (Kd.R_base ho0) hb); have n4_ := Aside0.mk (Kd.R_lower (Kd.R_new' (Kd.R_new' (Kd.R_new' (Kd.R_new' ho0 (Kd.R_lt (rr_ HO542.out))) (Kd.R_lt (rr_ HO544.out))) (Kd.R_lt (rr_ HO552.out))) (Kd.R_lt (rr_ HO554.out))) (below_size bw_)); have n5_ := Aside0.mk (below_step bw_ hb); clear HO542; clear HO544; clear HO552; clear HO554; clear HB; have HO542 := n0_; have HO544 := n1_; have HO552 := n2_; have HO554 := n3_; have HO558 := n4_; have HB := n5_; clear n0_ n1_ n2_ n3_ n4_ n5_; (try clear hb); (try clear hb2); (try clear hk); (try clear hi); (try clear ho0)) | (go_at_call 54; (with_reducible refine (spec_WidthsUsed.calls kj123 _ _ t549 _ _ t550 t559 t560 _ ?side1 ?side2 ?side3 ?side4 A176.out).mono ?_); (case side1 => exact cr_ (Kd.R_reads' HO552.out).2.2); (case side2 => exact (Kd.R_reads' HO552.out).2.1); (case side3 => exact cr_ (Kd.R_reads' HO554.out).2.2); (case side4 => exact (Kd.R_reads' HO554.out).2.1); rintro e w195 ⟨v561, rfl, ho0, hb⟩; have n0_ := Aside0.mk (Kd.R_elder' (rr_ HO542.out) (Kd.R_base ho0) hb); have n1_ := Aside0.mk (Kd.R_elder' (rr_ HO544.out) (Kd.R_base ho0) hb); have n2_ := Aside0.mk (Kd.R_elder' (rr_ HO552.out) (Kd.R_base ho0) hb); have n3_ := Aside0.mk (Kd.R_elder' (rr_ HO554.out) (Kd.R_base ho0) hb); have n4_ := Aside0.mk (Kd.R_elder' (rr_ HO558.out) (Kd.R_base ho0) hb); have n5_ := Aside0.mk (Kd.R_lower (Kd.R_new' (Kd.R_new' (Kd.R_new' (Kd.R_new' (Kd.R_new' ho0 (Kd.R_lt (rr_ HO542.out))) (Kd.R_lt (rr_ HO544.out))) (Kd.R_lt (rr_ HO552.out))) (Kd.R_lt (rr_ HO554.out))) (Kd.R_lt (rr_ HO558.out))) (below_size bw_)); have n6_ := Aside0.mk (below_step bw_ hb); clear HO542; clear HO544; clear HO552; clear HO554; clear HO558; clear HB; have HO542 := n0_; have HO544 := n1_; have HO552 := n2_; have HO554 := n3_; have HO558 := n4_; have HO562 := n5_; have HB := n6_; clear n0_ n1_ n2_ n3_ n4_ n5_ n6_; (try clear hb); (try clear hb2); (try clear hk); (try clear hi); (try clear ho0)) | (go_at_call 55; (with_reducible refine (spec_DrawLeastWidth.calls kj123 _ _ l1 t563 t564 _ ?side1 ?side2 A177.out).mono ?_); (case side1 => exact cr_ (Kd.C_below HR1.out HB.out)); (case side2 => exact HC1.out); rintro e w196 ⟨v565, rfl, ho0, hb⟩; have n0_ := Aside0.mk (Kd.R_elder' (rr_ HO542.out) (Kd.R_base ho0) hb); have n1_ := Aside0.mk (Kd.R_elder' (rr_ HO544.out) (Kd.R_base ho0) hb); have n2_ := Aside0.mk (Kd.R_elder' (rr_ HO552.out) (Kd.R_base ho0) hb); have n3_ := Aside0.mk (Kd.R_elder' (rr_ HO554.out) (Kd.R_base ho0) hb); have n4_ := Aside0.mk (Kd.R_elder' (rr_ HO558.out) (Kd.R_base ho0) hb); have n5_ := Aside0.mk (Kd.R_elder' (rr_ HO562.out) (Kd.R_base ho0) hb); have n6_ := Aside0.mk (Kd.R_lower (Kd.R_new' (Kd.R_new' (Kd.R_new' (Kd.R_new' (Kd.R_new' (Kd.R_new' ho0 (Kd.R_lt (rr_ HO542.out))) (Kd.R_lt (rr_ HO544.out))) (Kd.R_lt (rr_ HO552.out))) (Kd.R_lt (rr_ HO554.out))) (Kd.R_lt (rr_ HO558.out))) (Kd.R_lt (rr_ HO562.out))) (below_size bw_)); have n7_ := Aside0.mk (below_step bw_ hb); clear HO542; clear HO544; clear HO552; clear HO554; clear HO558; clear HO562; clear HB; have HO542 := n0_; have HO544 := n1_; have HO552 := n2_; have HO554 := n3_; have HO558 := n4_; have HO562 := n5_; have HO566 := n6_; have HB := n7_; clear n0_ n1_ n2_ n3_ n4_ n5_ n6_ n7_; (try clear hb); (try clear hb2); (try clear hk); (try clear hi); (try clear ho0); obtain ⟨Ao197, co197, eo197⟩ := Kd.R_slice HO566.out; subst eo197) | (go_at_call 50; (with_reducible refine (impl_LeastWidth.calls kj123 _ _ t563 t564 t567 t568 _ ?side1 ?side2 A178.out).mono ?_); (case side1 => exact cr_ (Kd.R_reads' HO566.out).2.2); (case side2 => exact (Kd.R_reads' HO566.out).2.1); rintro e w198 ⟨rfl, hb⟩; have n0_ := Aside0.mk (Kd.R_below (rr_ HO542.out) hb); have n1_ := Aside0.mk (Kd.R_below (rr_ HO544.out) hb); have n2_ := Aside0.mk (Kd.R_below (rr_ HO552.out) hb); have n3_ := Aside0.mk (Kd.R_below (rr_ HO554.out) hb); have n4_ := Aside0.mk (Kd.R_below (rr_ HO558.out) hb); have n5_ := Aside0.mk (Kd.R_below (rr_ HO562.out) hb); have n6_ := Aside0.mk (Kd.R_below (rr_ HO566.out) hb); have n7_ := Aside0.mk (below_step bw_ hb); clear HO542; clear HO544; clear HO552; clear HO554; clear HO558; clear HO562; clear HO566; clear HB; have HO542 := n0_; have HO544 := n1_; have HO552 := n2_; have HO554 := n3_; have HO558 := n4_; have HO562 := n5_; have HO566 := n6_; have HB := n7_; clear n0_ n1_ n2_ n3_ n4_ n5_ n6_ n7_; (try clear hb); (try clear hb2); (try clear hk); (try clear hi)) | (go_at_call 56; (with_reducible refine (spec_LeastWidth.calls kj123 _ _ t563 t564 t569 t570 _ ?side1 ?side2 A179.out).mono ?_); (case side1 => exact cr_ (Kd.R_reads' HO566.out).2.2); (case side2 => exact (Kd.R_reads' HO566.out).2.1); rintro e w199 ⟨rfl, hb⟩; have n0_ := Aside0.mk (Kd.R_below (rr_ HO542.out) hb); have n1_ := Aside0.mk (Kd.R_below (rr_ HO544.out) hb); have n2_ := Aside0.mk (Kd.R_below (rr_ HO552.out) hb); have n3_ := Aside0.mk (Kd.R_below (rr_ HO554.out) hb); have n4_ := Aside0.mk (Kd.R_below (rr_ HO558.out) hb); have n5_ := Aside0.mk (Kd.R_below (rr_ HO562.out) hb); have n6_ := Aside0.mk (Kd.R_below (rr_ HO566.out) hb); have n7_ := Aside0.mk (below_step bw_ hb); clear HO542; clear HO544; clear HO552; clear HO554; clear HO558; clear HO562; clear HO566; clear HB; have HO542 := n0_; have HO544 := n1_; have HO552 := n2_; have HO554 := n3_; have HO558 := n4_; have HO562 := n5_; have HO566 := n6_; have HB := n7_; clear n0_ n1_ n2_ n3_ n4_ n5_ n6_ n7_; (try clear hb); (try clear hb2); (try clear hk); (try clear hi)) | (go_at_call 57; (with_reducible refine (spec_DrawSetText.calls kj123 _ _ l1 t571 t572 _ ?side1 ?side2 A180.out).mono ?_); (case side1 => exact cr_ (Kd.C_below HR1.out HB.out)); (case side2 => exact HC1.out); rintro e w200 ⟨rfl, hb⟩; have n0_ := Aside0.mk (Kd.R_below (rr_ HO542.out) hb); have n1_ := Aside0.mk (Kd.R_below (rr_ HO544.out) hb); have n2_ := Aside0.mk (Kd.R_below (rr_ HO552.out) hb); have n3_ := Aside0.mk (Kd.R_below (rr_ HO554.out) hb); have n4_ := Aside0.mk (Kd.R_below (rr_ HO558.out) hb); have n5_ := Aside0.mk (Kd.R_below (rr_ HO562.out) hb); have n6_ := Aside0.mk (Kd.R_below (rr_ HO566.out) hb); have n7_ := Aside0.mk (below_step bw_ hb); clear HO542; clear HO544; clear HO552; clear HO554; clear HO558; clear HO562; clear HO566; clear HB; have HO542 := n0_; have HO544 := n1_; have HO552 := n2_; have HO554 := n3_; have HO558 := n4_; have HO562 := n5_; have HO566 := n6_; have HB := n7_; clear n0_ n1_ n2_ n3_ n4_ n5_ n6_ n7_; (try clear hb); (try clear hb2); (try clear hk); (try clear hi)) | (go_at_call 58; (with_reducible refine (impl_SetText.calls kj123 t571 t572 t573 t574 _ ?side1 A181.out).mono ?_); (case side1 => exact TabA.below HT.out bw_); rintro e w201 ⟨v575, rfl, ho0, hb⟩; have n0_ := Aside0.mk (Kd.R_below (rr_ HO542.out) hb); have n1_ := Aside0.mk (Kd.R_below (rr_ HO544.out) hb); have n2_ := Aside0.mk (Kd.R_below (rr_ HO552.out) hb); have n3_ := Aside0.mk (Kd.R_below (rr_ HO554.out) hb); have n4_ := Aside0.mk (Kd.R_below (rr_ HO558.out) hb); have n5_ := Aside0.mk (Kd.R_below (rr_ HO562.out) hb); have n6_ := Aside0.mk (Kd.R_below (rr_ HO566.out) hb); have n7_ := Aside0.mk (Kd.R_lower ho0 (below_size bw_)); have n8_ := Aside0.mk (below_step bw_ hb); clear HO542; clear HO544; clear HO552; clear HO554; clear HO558; clear HO562; clear HO566; clear HB; have HO542 := n0_; have HO544 := n1_; have HO552 := n2_; have HO554 := n3_; have HO558 := n4_; have HO562 := n5_; have HO566 := n6_; have HO576 := n7_; have HB := n8_; clear n0_ n1_ n2_ n3_ n4_ n5_ n6_ n7_ n8_; (try clear hb); (try clear hb2); (try clear hk); (try clear hi); (try clear ho0)) | (go_at_call 59; (with_reducible refine (spec_SetText.calls kj123 t571 t572 t577 t578 _ A182.out).mono ?_); rintro e w202 ⟨v579, rfl, ho0, hb⟩; have n0_ := Aside0.mk (Kd.R_below (rr_ HO542.out) hb); have n1_ := Aside0.mk (Kd.R_below (rr_ HO544.out) hb); have n2_ := Aside0.mk (Kd.R_below (rr_ HO552.out) hb); have n3_ := Aside0.mk (Kd.R_below (rr_ HO554.out) hb); have n4_ := Aside0.mk (Kd.R_below (rr_ HO558.out) hb); have n5_ := Aside0.mk (Kd.R_below (rr_ HO562.out) hb); have n6_ := Aside0.mk (Kd.R_below (rr_ HO566.out) hb); have n7_ := Aside0.mk (Kd.R_elder' (rr_ HO576.out) (Kd.R_base ho0) hb); have n8_ := Aside0.mk (Kd.R_lower (Kd.R_new' ho0 (Kd.R_lt (rr_ HO576.out))) (below_size bw_)); have n9_ := Aside0.mk (below_step bw_ hb); clear HO542; clear HO544; clear HO552; clear HO554; clear HO558; clear HO562; clear HO566; clear HO576; clear HB; have HO542 := n0_; have HO544 := n1_; have HO552 := n2_; have HO554 := n3_; have HO558 := n4_; have HO562 := n5_; have HO566 := n6_; have HO576 := n7_; have HO580 := n8_; have HB := n9_; clear n0_ n1_ n2_ n3_ n4_ n5_ n6_ n7_ n8_ n9_; (try clear hb); (try clear hb2); (try clear hk); (try clear hi); (try clear ho0)) | (go_at_call 60; (with_reducible refine (impl_WordsOfText.calls kj123 t571 t581 t582 _ ?side1 A183.out).mono ?_); (case side1 => exact TabA.below HT.out bw_); rintro e w203 ⟨v583, rfl, ho0, hb⟩; have n0_ := Aside0.mk (Kd.R_elder' (rr_ HO542.out) (Kd.R_base ho0) hb); have n1_ := Aside0.mk (Kd.R_elder' (rr_ HO544.out) (Kd.R_base ho0) hb); have n2_ := Aside0.mk (Kd.R_elder' (rr_ HO552.out) (Kd.R_base ho0) hb); have n3_ := Aside0.mk (Kd.R_elder' (rr_ HO554.out) (Kd.R_base ho0) hb); have n4_ := Aside0.mk (Kd.R_elder' (rr_ HO558.out) (Kd.R_base ho0) hb); have n5_ := Aside0.mk (Kd.R_elder' (rr_ HO562.out) (Kd.R_base ho0) hb); have n6_ := Aside0.mk (Kd.R_elder' (rr_ HO566.out) (Kd.R_base ho0) hb); have n7_ := Aside0.mk (Kd.R_below (rr_ HO576.out) hb); have n8_ := Aside0.mk (Kd.R_below (rr_ HO580.out) hb); have n9_ := Aside0.mk (Kd.R_lower (Kd.R_new' (Kd.R_new' (Kd.R_new' (Kd.R_new' (Kd.R_new' (Kd.R_new' (Kd.R_new' ho0 (Kd.R_lt (rr_ HO542.out))) (Kd.R_lt (rr_ HO544.out))) (Kd.R_lt (rr_ HO552.out))) (Kd.R_lt (rr_ HO554.out))) (Kd.R_lt (rr_ HO558.out))) (Kd.R_lt (rr_ HO562.out))) (Kd.R_lt (rr_ HO566.out))) (below_size bw_)); have n10_ := Aside0.mk (below_step bw_ hb); clear HO542; clear HO544; clear HO552; clear HO554; clear HO558; clear HO562; clear HO566; clear HO576; clear HO580; clear HB; have HO542 := n0_; have HO544 := n1_; have HO552 := n2_; have HO554 := n3_; have HO558 := n4_; have HO562 := n5_; have HO566 := n6_; have HO576 := n7_; have HO580 := n8_; have HO584 := n9_; have HB := n10_; clear n0_ n1_ n2_ n3_ n4_ n5_ n6_ n7_ n8_ n9_ n10_; (try clear hb); (try clear hb2); (try clear hk); (try clear hi); (try clear ho0)) | (go_at_call 61; (with_reducible refine (spec_WordsOfText.calls kj123 t571 t585 t586 _ A184.out).mono ?_); rintro e w204 ⟨v587, rfl, ho0, hb⟩; have n0_ := Aside0.mk (Kd.R_elder' (rr_ HO542.out) (Kd.R_base ho0) hb); have n1_ := Aside0.mk (Kd.R_elder' (rr_ HO544.out) (Kd.R_base ho0) hb); have n2_ := Aside0.mk (Kd.R_elder' (rr_ HO552.out) (Kd.R_base ho0) hb); have n3_ := Aside0.mk (Kd.R_elder' (rr_ HO554.out) (Kd.R_base ho0) hb); have n4_ := Aside0.mk (Kd.R_elder' (rr_ HO558.out) (Kd.R_base ho0) hb); have n5_ := Aside0.mk (Kd.R_elder' (rr_ HO562.out) (Kd.R_base ho0) hb); have n6_ := Aside0.mk (Kd.R_elder' (rr_ HO566.out) (Kd.R_base ho0) hb); have n7_ := Aside0.mk (Kd.R_below (rr_ HO576.out) hb); have n8_ := Aside0.mk (Kd.R_below (rr_ HO580.out) hb); have n9_ := Aside0.mk (Kd.R_elder' (rr_ HO584.out) (Kd.R_base ho0) hb); have n10_ := Aside0.mk (Kd.R_lower (Kd.R_new' (Kd.R_new' (Kd.R_new' (Kd.R_new' (Kd.R_new' (Kd.R_new' (Kd.R_new' (Kd.R_new' ho0 (Kd.R_lt (rr_ HO542.out))) (Kd.R_lt (rr_ HO544.out))) (Kd.R_lt (rr_ HO552.out))) (Kd.R_lt (rr_ HO554.out))) (Kd.R_lt (rr_ HO558.out))) (Kd.R_lt (rr_ HO562.out))) (Kd.R_lt (rr_ HO566.out))) (Kd.R_lt (rr_ HO584.out))) (below_size bw_)); have n11_ := Aside0.mk (below_step bw_ hb); clear HO542; clear HO544; clear HO552; clear HO554; clear HO558; clear HO562; clear HO566; clear HO576; clear HO580; clear HO584; clear HB; have HO542 := n0_; have HO544 := n1_; have HO552 := n2_; have HO554 := n3_; have HO558 := n4_; have HO562 := n5_; have HO566 := n6_; have HO576 := n7_; have HO580 := n8_; have HO584 := n9_; have HO588 := n10_; have HB := n11_; clear n0_ n1_ n2_ n3_ n4_ n5_ n6_ n7_ n8_ n9_ n10_ n11_; (try clear hb); (try clear hb2); (try clear hk); (try clear hi); (try clear ho0)))
       repeat (go_quiet (fail); go_upto_region 47 with (fail))
       (try simp only [Act.put, List.setIfInBounds_toArray, List.set_cons_zero, List.set_cons_succ])
       go_cut [538] from 481 to 537 (fun v538 wc => ∃ (kq : Nat) (x538_184 : Bool), v538 = .bool x538_184 ∧ Aside0 (laws_FnLinesSet.j4 kq t538 t539 t545 t546 t549 t550 t555 t556 t563 t564 t567 t568 t571 t572 t573 t574 t581 x538_184 = some r) ∧ Aside0 (kq ≤ kj123) ∧ Aside0 (Kd.R (Kd.int .i64) 3 wc w.heap.size (fun k_ => some k_ ≠ ((.slice Ao192 t549.length co192) : Value).ownBlock ∧ some k_ ≠ ((.slice Ao193 t550.length co193) : Value).ownBlock ∧ some k_ ≠ (v557 : Value).ownBlock ∧ some k_ ≠ ((.slice Ao197 t563.length co197) : Value).ownBlock ∧ some k_ ≠ (v583 : Value).ownBlock) (.slice Ao187 t538.length co187) t538) ∧ Aside0 (Kd.R (Kd.int .i64) 3 wc w.heap.size (fun k_ => some k_ ≠ ((.slice Ao187 t538.length co187) : Value).ownBlock ∧ some k_ ≠ ((.slice Ao193 t550.length co193) : Value).ownBlock ∧ some k_ ≠ (v557 : Value).ownBlock ∧ some k_ ≠ ((.slice Ao197 t563.length co197) : Value).ownBlock ∧ some k_ ≠ (v583 : Value).ownBlock) (.slice Ao192 t549.length co192) t549) ∧ Aside0 (Kd.R (Kd.int .i64) 3 wc w.heap.size (fun k_ => some k_ ≠ ((.slice Ao187 t538.length co187) : Value).ownBlock ∧ some k_ ≠ ((.slice Ao192 t549.length co192) : Value).ownBlock ∧ some k_ ≠ (v557 : Value).ownBlock ∧ some k_ ≠ ((.slice Ao197 t563.length co197) : Value).ownBlock ∧ some k_ ≠ (v583 : Value).ownBlock) (.slice Ao193 t550.length co193) t550) ∧ Aside0 (Kd.R (Kd.int .i64) 3 wc w.heap.size (fun k_ => some k_ ≠ ((.slice Ao187 t538.length co187) : Value).ownBlock ∧ some k_ ≠ ((.slice Ao192 t549.length co192) : Value).ownBlock ∧ some k_ ≠ ((.slice Ao193 t550.length co193) : Value).ownBlock ∧ some k_ ≠ ((.slice Ao197 t563.length co197) : Value).ownBlock ∧ some k_ ≠ (v583 : Value).ownBlock) v557 t555) ∧ Aside0 (Kd.R (Kd.int .i64) 3 wc w.heap.size (fun k_ => some k_ ≠ ((.slice Ao187 t538.length co187) : Value).ownBlock ∧ some k_ ≠ ((.slice Ao192 t549.length co192) : Value).ownBlock ∧ some k_ ≠ ((.slice Ao193 t550.length co193) : Value).ownBlock ∧ some k_ ≠ (v557 : Value).ownBlock ∧ some k_ ≠ (v583 : Value).ownBlock) (.slice Ao197 t563.length co197) t563) ∧ Aside0 (Kd.R Kd.string 9 wc w.heap.size (fun _ => True) v575 t573) ∧ Aside0 (Kd.R (Kd.int .i64) 3 wc w.heap.size (fun k_ => some k_ ≠ ((.slice Ao187 t538.length co187) : Value).ownBlock ∧ some k_ ≠ ((.slice Ao192 t549.length co192) : Value).ownBlock ∧ some k_ ≠ ((.slice Ao193 t550.length co193) : Value).ownBlock ∧ some k_ ≠ (v557 : Value).ownBlock ∧ some k_ ≠ ((.slice Ao197 t563.length co197) : Value).ownBlock) v583 t581) ∧ Aside0 (Below w.heap.size w wc))
       case first => as_aux_lemma =>
        have H := HC185.out
        clear HC185
        by_cases c205 : (t546 != t548) = true
        ·rw [if_pos c205] at H
         have c205b0 : (t546 != t548) = true := c205
         (try (have c205b1 : decide (t546 = t548) = false := by simpa using c205))
         (try (have c205b2 : (t546 == t548) = false := by simpa using c205))
         (try (have c205b3 : ¬ (t546 = t548) := by simpa using c205))
         clear c205
         (first | rw [c205b0] | skip)
         exact (laws_FnLinesSet.j4_no H hr_.out).elim
        ·rw [if_neg c205] at H
         have c205b0 : (t546 != t548) = false := by simpa using c205
         (try (have c205b1 : decide (t546 = t548) = true := by simpa using c205))
         (try (have c205b2 : (t546 == t548) = true := by simpa using c205))
         clear c205
         (first | rw [c205b0] | skip)
         by_cases c206 : t545 = t547
         ·rw [if_pos c206] at H
          have c206b0 : (t545 == t547) = true := beq_iff_eq.mpr c206
          have c206b1 : (t545 != t547) = false := bne_eq_false_iff_eq.mpr c206
          clear c206
          by_cases c207 : (t556 != t560) = true
          ·rw [if_pos c207] at H
           have c207b0 : (t556 != t560) = true := c207
           (try (have c207b1 : decide (t556 = t560) = false := by simpa using c207))
           (try (have c207b2 : (t556 == t560) = false := by simpa using c207))
           (try (have c207b3 : ¬ (t556 = t560) := by simpa using c207))
           clear c207
           exact (laws_FnLinesSet.j4_no H hr_.out).elim
          ·rw [if_neg c207] at H
           have c207b0 : (t556 != t560) = false := by simpa using c207
           (try (have c207b1 : decide (t556 = t560) = true := by simpa using c207))
           (try (have c207b2 : (t556 == t560) = true := by simpa using c207))
           clear c207
           replace H := Option.bind_eq_some_iff.mp H
           obtain ⟨t589, A2080, H⟩ := H
           (try dsimp only at H)
           have A208 := Aside0.mk A2080
           clear A2080
           by_cases c209 : t589 = true
           ·subst c209
            have H1 : (if (t568 != t570) = true then (laws_FnLinesSet.j4 kj123 t538 t539 t545 t546 t549 t550 t555 t556 t563 t564 t567 t568 t571 t572 t573 t574 t581 true) else (if t567 = t569 then (if (t574 != t578) = true then (laws_FnLinesSet.j4 kj123 t538 t539 t545 t546 t549 t550 t555 t556 t563 t564 t567 t568 t571 t572 t573 t574 t581 true) else ((laws_xTexts.f kj123 t573 t577).bind fun t590 => (if t590 = true then (if (t582 != t586) = true then (laws_FnLinesSet.j4 kj123 t538 t539 t545 t546 t549 t550 t555 t556 t563 t564 t567 t568 t571 t572 t573 t574 t581 true) else ((laws_xSame.f kj123 t581 t585).bind fun t591 => (if t591 = true then (if t574 = true then (laws_FnLinesSet.j4 kj123 t538 t539 t545 t546 t549 t550 t555 t556 t563 t564 t567 t568 t571 t572 t573 t574 t581 (!t582)) else (laws_FnLinesSet.j4 kj123 t538 t539 t545 t546 t549 t550 t555 t556 t563 t564 t567 t568 t571 t572 t573 t574 t581 false)) else (laws_FnLinesSet.j4 kj123 t538 t539 t545 t546 t549 t550 t555 t556 t563 t564 t567 t568 t571 t572 t573 t574 t581 true)))) else (laws_FnLinesSet.j4 kj123 t538 t539 t545 t546 t549 t550 t555 t556 t563 t564 t567 t568 t571 t572 t573 t574 t581 true)))) else (laws_FnLinesSet.j4 kj123 t538 t539 t545 t546 t549 t550 t555 t556 t563 t564 t567 t568 t571 t572 t573 t574 t581 true))) = some r := by rw [if_pos rfl] at H; exact H
            clear H
            have H := H1
            clear H1
            by_cases c210 : (t568 != t570) = true
            ·rw [if_pos c210] at H
             have c210b0 : (t568 != t570) = true := c210
             (try (have c210b1 : decide (t568 = t570) = false := by simpa using c210))
             (try (have c210b2 : (t568 == t570) = false := by simpa using c210))
             (try (have c210b3 : ¬ (t568 = t570) := by simpa using c210))
             clear c210
             exact (laws_FnLinesSet.j4_no H hr_.out).elim
            ·rw [if_neg c210] at H
             have c210b0 : (t568 != t570) = false := by simpa using c210
             (try (have c210b1 : decide (t568 = t570) = true := by simpa using c210))
             (try (have c210b2 : (t568 == t570) = true := by simpa using c210))
             clear c210
             by_cases c213 : t567 = t569
             ·rw [if_pos c213] at H
              have c213b0 : (t567 == t569) = true := beq_iff_eq.mpr c213
              have c213b1 : (t567 != t569) = false := bne_eq_false_iff_eq.mpr c213
              clear c213
              by_cases c214 : (t574 != t578) = true
              ·rw [if_pos c214] at H
               have c214b0 : (t574 != t578) = true := c214
               (try (have c214b1 : decide (t574 = t578) = false := by simpa using c214))
               (try (have c214b2 : (t574 == t578) = false := by simpa using c214))
               (try (have c214b3 : ¬ (t574 = t578) := by simpa using c214))
               clear c214
               exact (laws_FnLinesSet.j4_no H hr_.out).elim
              ·rw [if_neg c214] at H
               have c214b0 : (t574 != t578) = false := by simpa using c214
               (try (have c214b1 : decide (t574 = t578) = true := by simpa using c214))
               (try (have c214b2 : (t574 == t578) = true := by simpa using c214))
               clear c214
               replace H := Option.bind_eq_some_iff.mp H
               obtain ⟨t590, A2170, H⟩ := H
               (try dsimp only at H)
               have A217 := Aside0.mk A2170
               clear A2170
               by_cases c218 : t590 = true
               ·subst c218
                have H1 : (if (t582 != t586) = true then (laws_FnLinesSet.j4 kj123 t538 t539 t545 t546 t549 t550 t555 t556 t563 t564 t567 t568 t571 t572 t573 t574 t581 true) else ((laws_xSame.f kj123 t581 t585).bind fun t591 => (if t591 = true then (if t574 = true then (laws_FnLinesSet.j4 kj123 t538 t539 t545 t546 t549 t550 t555 t556 t563 t564 t567 t568 t571 t572 t573 t574 t581 (!t582)) else (laws_FnLinesSet.j4 kj123 t538 t539 t545 t546 t549 t550 t555 t556 t563 t564 t567 t568 t571 t572 t573 t574 t581 false)) else (laws_FnLinesSet.j4 kj123 t538 t539 t545 t546 t549 t550 t555 t556 t563 t564 t567 t568 t571 t572 t573 t574 t581 true)))) = some r := by rw [if_pos rfl] at H; exact H
                clear H
                have H := H1
                clear H1
                by_cases c219 : (t582 != t586) = true
                ·rw [if_pos c219] at H
                 have c219b0 : (t582 != t586) = true := c219
                 (try (have c219b1 : decide (t582 = t586) = false := by simpa using c219))
                 (try (have c219b2 : (t582 == t586) = false := by simpa using c219))
                 (try (have c219b3 : ¬ (t582 = t586) := by simpa using c219))
                 clear c219
                 exact (laws_FnLinesSet.j4_no H hr_.out).elim
                ·rw [if_neg c219] at H
                 have c219b0 : (t582 != t586) = false := by simpa using c219
                 (try (have c219b1 : decide (t582 = t586) = true := by simpa using c219))
                 (try (have c219b2 : (t582 == t586) = true := by simpa using c219))
                 clear c219
                 replace H := Option.bind_eq_some_iff.mp H
                 obtain ⟨t591, A2240, H⟩ := H
                 (try dsimp only at H)
                 have A224 := Aside0.mk A2240
                 clear A2240
                 by_cases c225 : t591 = true
                 ·subst c225
                  have H1 : (if t574 = true then (laws_FnLinesSet.j4 kj123 t538 t539 t545 t546 t549 t550 t555 t556 t563 t564 t567 t568 t571 t572 t573 t574 t581 (!t582)) else (laws_FnLinesSet.j4 kj123 t538 t539 t545 t546 t549 t550 t555 t556 t563 t564 t567 t568 t571 t572 t573 t574 t581 false)) = some r := by rw [if_pos rfl] at H; exact H
                  clear H
                  have H := H1
                  clear H1
                  by_cases c226 : t574 = true
                  ·subst c226
                   have H1 : (laws_FnLinesSet.j4 kj123 t538 t539 t545 t546 t549 t550 t555 t556 t563 t564 t567 t568 t571 t572 t573 true t581 (!t582)) = some r := by rw [if_pos rfl] at H; exact H
                   clear H
                   have H := H1
                   clear H1
                   have H' := Aside0.mk H
                   clear H
                   obtain ⟨Ao227, co227, eo227⟩ := Kd.R_slice HO558.out
                   subst eo227
                   obtain ⟨Ao228, co228, eo228⟩ := Kd.R_slice HO562.out
                   subst eo228
                   go_wp2_with (first | (go_at_call 12; (with_reducible refine (laws_xSame.calls kj123 _ _ t555 _ _ t559 true _ ?side1 ?side2 ?side3 ?side4 A208.out).mono ?_); (case side1 => exact cr_ (Kd.R_reads' HO558.out).2.2); (case side2 => exact (Kd.R_reads' HO558.out).2.1); (case side3 => exact cr_ (Kd.R_reads' HO562.out).2.2); (case side4 => exact (Kd.R_reads' HO562.out).2.1); rintro e w' ⟨rfl, ⟨nd, rfl⟩⟩; (try exact dd_); obtain ⟨Ao229, co229, eo229⟩ := Kd.R_slice HO576.out; subst eo229; obtain ⟨Ao230, co230, eo230⟩ := Kd.R_slice HO580.out; subst eo230) | (go_at_call 31; (with_reducible refine (laws_xTexts.calls kj123 _ _ t573 _ _ t577 true _ ?side1 ?side2 ?side3 ?side4 A217.out).mono ?_); (case side1 => exact cr_ (Kd.R_reads' HO576.out).2.2); (case side2 => exact (Kd.R_reads' HO576.out).2.1); (case side3 => exact cr_ (Kd.R_reads' HO580.out).2.2); (case side4 => exact (Kd.R_reads' HO580.out).2.1); rintro e w' ⟨rfl, ⟨nd, rfl⟩⟩; (try exact dd_); obtain ⟨Ao231, co231, eo231⟩ := Kd.R_slice HO584.out; subst eo231; obtain ⟨Ao232, co232, eo232⟩ := Kd.R_slice HO588.out; subst eo232) | (go_at_call 12; (with_reducible refine (laws_xSame.calls kj123 _ _ t581 _ _ t585 true _ ?side1 ?side2 ?side3 ?side4 A224.out).mono ?_); (case side1 => exact cr_ (Kd.R_reads' HO584.out).2.2); (case side2 => exact (Kd.R_reads' HO584.out).2.1); (case side3 => exact cr_ (Kd.R_reads' HO588.out).2.2); (case side4 => exact (Kd.R_reads' HO588.out).2.1); rintro e w' ⟨rfl, ⟨nd, rfl⟩⟩; (try exact dd_)))
                   repeat (go_quiet (first | (go_at_call 12; (with_reducible refine (laws_xSame.calls kj123 _ _ t555 _ _ t559 true _ ?side1 ?side2 ?side3 ?side4 A208.out).mono ?_); (case side1 => exact cr_ (Kd.R_reads' HO558.out).2.2); (case side2 => exact (Kd.R_reads' HO558.out).2.1); (case side3 => exact cr_ (Kd.R_reads' HO562.out).2.2); (case side4 => exact (Kd.R_reads' HO562.out).2.1); rintro e w' ⟨rfl, ⟨nd, rfl⟩⟩; (try exact dd_); obtain ⟨Ao229, co229, eo229⟩ := Kd.R_slice HO576.out; subst eo229; obtain ⟨Ao230, co230, eo230⟩ := Kd.R_slice HO580.out; subst eo230) | (go_at_call 31; (with_reducible refine (laws_xTexts.calls kj123 _ _ t573 _ _ t577 true _ ?side1 ?side2 ?side3 ?side4 A217.out).mono ?_); (case side1 => exact cr_ (Kd.R_reads' HO576.out).2.2); (case side2 => exact (Kd.R_reads' HO576.out).2.1); (case side3 => exact cr_ (Kd.R_reads' HO580.out).2.2); (case side4 => exact (Kd.R_reads' HO580.out).2.1); rintro e w' ⟨rfl, ⟨nd, rfl⟩⟩; (try exact dd_); obtain ⟨Ao231, co231, eo231⟩ := Kd.R_slice HO584.out; subst eo231; obtain ⟨Ao232, co232, eo232⟩ := Kd.R_slice HO588.out; subst eo232) | (go_at_call 12; (with_reducible refine (laws_xSame.calls kj123 _ _ t581 _ _ t585 true _ ?side1 ?side2 ?side3 ?side4 A224.out).mono ?_); (case side1 => exact cr_ (Kd.R_reads' HO584.out).2.2); (case side2 => exact (Kd.R_reads' HO584.out).2.1); (case side3 => exact cr_ (Kd.R_reads' HO588.out).2.2); (case side4 => exact (Kd.R_reads' HO588.out).2.1); rintro e w' ⟨rfl, ⟨nd, rfl⟩⟩; (try exact dd_))); try go_wp2)
                   go_meet
                   case rel => exact ⟨_, (!t582), rs_, H', ⟨by have := HJ17.out; have := HJ123.out; first | omega | exact Nat.le_refl _⟩, ⟨by (with_reducible repeat (first | apply Kd.R_alloc | apply Kd.R_drewN | apply Kd.R_drew)); exact Kd.R_mono HO542.out (fun _ hk => ⟨hk.1.1.1.1.1.1.2, ⟨hk.1.1.1.1.1.2, ⟨hk.1.1.1.1.2, ⟨hk.1.1.2, hk.1.2⟩⟩⟩⟩)⟩, ⟨by (with_reducible repeat (first | apply Kd.R_alloc | apply Kd.R_drewN | apply Kd.R_drew)); exact Kd.R_mono HO552.out (fun _ hk => ⟨hk.1.1.1.1.1.1.2, ⟨hk.1.1.1.1.1.1.1, ⟨hk.1.1.1.1.2, ⟨hk.1.1.2, hk.1.2⟩⟩⟩⟩)⟩, ⟨by (with_reducible repeat (first | apply Kd.R_alloc | apply Kd.R_drewN | apply Kd.R_drew)); exact Kd.R_mono HO554.out (fun _ hk => ⟨hk.1.1.1.1.1.1.2, ⟨hk.1.1.1.1.1.1.1, ⟨hk.1.1.1.1.2, ⟨hk.1.1.2, hk.1.2⟩⟩⟩⟩)⟩, ⟨by (with_reducible repeat (first | apply Kd.R_alloc | apply Kd.R_drewN | apply Kd.R_drew)); exact Kd.R_mono HO558.out (fun _ hk => ⟨hk.1.1.1.1.1.1.1.2, ⟨hk.1.1.1.1.1.2, ⟨hk.1.1.1.1.2, ⟨hk.1.1.2, hk.1.2⟩⟩⟩⟩)⟩, ⟨by (with_reducible repeat (first | apply Kd.R_alloc | apply Kd.R_drewN | apply Kd.R_drew)); exact Kd.R_mono HO566.out (fun _ hk => ⟨hk.1.1.1.1.1.1.1.2, ⟨hk.1.1.1.1.1.2, ⟨hk.1.1.1.1.2, ⟨hk.1.1.1.2, hk.1.2⟩⟩⟩⟩)⟩, ⟨by (with_reducible repeat (first | apply Kd.R_alloc | apply Kd.R_drewN | apply Kd.R_drew)); exact Kd.R_mono HO576.out (fun _ hk => trivial)⟩, ⟨by (with_reducible repeat (first | apply Kd.R_alloc | apply Kd.R_drewN | apply Kd.R_drew)); exact Kd.R_mono HO584.out (fun _ hk => ⟨hk.1.1.1.1.1.1.1.2, ⟨hk.1.1.1.1.1.2, ⟨hk.1.1.1.1.2, ⟨hk.1.1.1.2, hk.1.2⟩⟩⟩⟩)⟩, ⟨bw_⟩⟩
                  ·replace c226 := Bool.eq_false_iff.mpr c226
                   subst c226
                   have H1 : (laws_FnLinesSet.j4 kj123 t538 t539 t545 t546 t549 t550 t555 t556 t563 t564 t567 t568 t571 t572 t573 false t581 false) = some r := by rw [if_neg (show ¬ (false = true) by decide)] at H; exact H
                   clear H
                   have H := H1
                   clear H1
                   have H' := Aside0.mk H
                   clear H
                   obtain ⟨Ao233, co233, eo233⟩ := Kd.R_slice HO558.out
                   subst eo233
                   obtain ⟨Ao234, co234, eo234⟩ := Kd.R_slice HO562.out
                   subst eo234
                   go_wp2_with (first | (go_at_call 12; (with_reducible refine (laws_xSame.calls kj123 _ _ t555 _ _ t559 true _ ?side1 ?side2 ?side3 ?side4 A208.out).mono ?_); (case side1 => exact cr_ (Kd.R_reads' HO558.out).2.2); (case side2 => exact (Kd.R_reads' HO558.out).2.1); (case side3 => exact cr_ (Kd.R_reads' HO562.out).2.2); (case side4 => exact (Kd.R_reads' HO562.out).2.1); rintro e w' ⟨rfl, ⟨nd, rfl⟩⟩; (try exact dd_); obtain ⟨Ao235, co235, eo235⟩ := Kd.R_slice HO576.out; subst eo235; obtain ⟨Ao236, co236, eo236⟩ := Kd.R_slice HO580.out; subst eo236) | (go_at_call 31; (with_reducible refine (laws_xTexts.calls kj123 _ _ t573 _ _ t577 true _ ?side1 ?side2 ?side3 ?side4 A217.out).mono ?_); (case side1 => exact cr_ (Kd.R_reads' HO576.out).2.2); (case side2 => exact (Kd.R_reads' HO576.out).2.1); (case side3 => exact cr_ (Kd.R_reads' HO580.out).2.2); (case side4 => exact (Kd.R_reads' HO580.out).2.1); rintro e w' ⟨rfl, ⟨nd, rfl⟩⟩; (try exact dd_); obtain ⟨Ao237, co237, eo237⟩ := Kd.R_slice HO584.out; subst eo237; obtain ⟨Ao238, co238, eo238⟩ := Kd.R_slice HO588.out; subst eo238) | (go_at_call 12; (with_reducible refine (laws_xSame.calls kj123 _ _ t581 _ _ t585 true _ ?side1 ?side2 ?side3 ?side4 A224.out).mono ?_); (case side1 => exact cr_ (Kd.R_reads' HO584.out).2.2); (case side2 => exact (Kd.R_reads' HO584.out).2.1); (case side3 => exact cr_ (Kd.R_reads' HO588.out).2.2); (case side4 => exact (Kd.R_reads' HO588.out).2.1); rintro e w' ⟨rfl, ⟨nd, rfl⟩⟩; (try exact dd_)))
                   repeat (go_quiet (first | (go_at_call 12; (with_reducible refine (laws_xSame.calls kj123 _ _ t555 _ _ t559 true _ ?side1 ?side2 ?side3 ?side4 A208.out).mono ?_); (case side1 => exact cr_ (Kd.R_reads' HO558.out).2.2); (case side2 => exact (Kd.R_reads' HO558.out).2.1); (case side3 => exact cr_ (Kd.R_reads' HO562.out).2.2); (case side4 => exact (Kd.R_reads' HO562.out).2.1); rintro e w' ⟨rfl, ⟨nd, rfl⟩⟩; (try exact dd_); obtain ⟨Ao235, co235, eo235⟩ := Kd.R_slice HO576.out; subst eo235; obtain ⟨Ao236, co236, eo236⟩ := Kd.R_slice HO580.out; subst eo236) | (go_at_call 31; (with_reducible refine (laws_xTexts.calls kj123 _ _ t573 _ _ t577 true _ ?side1 ?side2 ?side3 ?side4 A217.out).mono ?_); (case side1 => exact cr_ (Kd.R_reads' HO576.out).2.2); (case side2 => exact (Kd.R_reads' HO576.out).2.1); (case side3 => exact cr_ (Kd.R_reads' HO580.out).2.2); (case side4 => exact (Kd.R_reads' HO580.out).2.1); rintro e w' ⟨rfl, ⟨nd, rfl⟩⟩; (try exact dd_); obtain ⟨Ao237, co237, eo237⟩ := Kd.R_slice HO584.out; subst eo237; obtain ⟨Ao238, co238, eo238⟩ := Kd.R_slice HO588.out; subst eo238) | (go_at_call 12; (with_reducible refine (laws_xSame.calls kj123 _ _ t581 _ _ t585 true _ ?side1 ?side2 ?side3 ?side4 A224.out).mono ?_); (case side1 => exact cr_ (Kd.R_reads' HO584.out).2.2); (case side2 => exact (Kd.R_reads' HO584.out).2.1); (case side3 => exact cr_ (Kd.R_reads' HO588.out).2.2); (case side4 => exact (Kd.R_reads' HO588.out).2.1); rintro e w' ⟨rfl, ⟨nd, rfl⟩⟩; (try exact dd_))); try go_wp2)
                   go_meet
                   case rel => exact ⟨_, (false), rs_, H', ⟨by have := HJ17.out; have := HJ123.out; first | omega | exact Nat.le_refl _⟩, ⟨by (with_reducible repeat (first | apply Kd.R_alloc | apply Kd.R_drewN | apply Kd.R_drew)); exact Kd.R_mono HO542.out (fun _ hk => ⟨hk.1.1.1.1.1.1.2, ⟨hk.1.1.1.1.1.2, ⟨hk.1.1.1.1.2, ⟨hk.1.1.2, hk.1.2⟩⟩⟩⟩)⟩, ⟨by (with_reducible repeat (first | apply Kd.R_alloc | apply Kd.R_drewN | apply Kd.R_drew)); exact Kd.R_mono HO552.out (fun _ hk => ⟨hk.1.1.1.1.1.1.2, ⟨hk.1.1.1.1.1.1.1, ⟨hk.1.1.1.1.2, ⟨hk.1.1.2, hk.1.2⟩⟩⟩⟩)⟩, ⟨by (with_reducible repeat (first | apply Kd.R_alloc | apply Kd.R_drewN | apply Kd.R_drew)); exact Kd.R_mono HO554.out (fun _ hk => ⟨hk.1.1.1.1.1.1.2, ⟨hk.1.1.1.1.1.1.1, ⟨hk.1.1.1.1.2, ⟨hk.1.1.2, hk.1.2⟩⟩⟩⟩)⟩, ⟨by (with_reducible repeat (first | apply Kd.R_alloc | apply Kd.R_drewN | apply Kd.R_drew)); exact Kd.R_mono HO558.out (fun _ hk => ⟨hk.1.1.1.1.1.1.1.2, ⟨hk.1.1.1.1.1.2, ⟨hk.1.1.1.1.2, ⟨hk.1.1.2, hk.1.2⟩⟩⟩⟩)⟩, ⟨by (with_reducible repeat (first | apply Kd.R_alloc | apply Kd.R_drewN | apply Kd.R_drew)); exact Kd.R_mono HO566.out (fun _ hk => ⟨hk.1.1.1.1.1.1.1.2, ⟨hk.1.1.1.1.1.2, ⟨hk.1.1.1.1.2, ⟨hk.1.1.1.2, hk.1.2⟩⟩⟩⟩)⟩, ⟨by (with_reducible repeat (first | apply Kd.R_alloc | apply Kd.R_drewN | apply Kd.R_drew)); exact Kd.R_mono HO576.out (fun _ hk => trivial)⟩, ⟨by (with_reducible repeat (first | apply Kd.R_alloc | apply Kd.R_drewN | apply Kd.R_drew)); exact Kd.R_mono HO584.out (fun _ hk => ⟨hk.1.1.1.1.1.1.1.2, ⟨hk.1.1.1.1.1.2, ⟨hk.1.1.1.1.2, ⟨hk.1.1.1.2, hk.1.2⟩⟩⟩⟩)⟩, ⟨bw_⟩⟩
                 ·replace c225 := Bool.eq_false_iff.mpr c225
                  subst c225
                  have H1 : (laws_FnLinesSet.j4 kj123 t538 t539 t545 t546 t549 t550 t555 t556 t563 t564 t567 t568 t571 t572 t573 t574 t581 true) = some r := by rw [if_neg (show ¬ (false = true) by decide)] at H; exact H
                  clear H
                  have H := H1
                  clear H1
                  exact (laws_FnLinesSet.j4_no H hr_.out).elim
               ·replace c218 := Bool.eq_false_iff.mpr c218
                subst c218
                have H1 : (laws_FnLinesSet.j4 kj123 t538 t539 t545 t546 t549 t550 t555 t556 t563 t564 t567 t568 t571 t572 t573 t574 t581 true) = some r := by rw [if_neg (show ¬ (false = true) by decide)] at H; exact H
                clear H
                have H := H1
                clear H1
                exact (laws_FnLinesSet.j4_no H hr_.out).elim
             ·rw [if_neg c213] at H
              have c213b0 : (t567 == t569) = false := beq_eq_false_iff_ne.mpr c213
              have c213b1 : (t567 != t569) = true := bne_iff_ne.mpr c213
              exact (laws_FnLinesSet.j4_no H hr_.out).elim
           ·replace c209 := Bool.eq_false_iff.mpr c209
            subst c209
            have H1 : (laws_FnLinesSet.j4 kj123 t538 t539 t545 t546 t549 t550 t555 t556 t563 t564 t567 t568 t571 t572 t573 t574 t581 true) = some r := by rw [if_neg (show ¬ (false = true) by decide)] at H; exact H
            clear H
            have H := H1
            clear H1
            exact (laws_FnLinesSet.j4_no H hr_.out).elim
         ·rw [if_neg c206] at H
          have c206b0 : (t545 == t547) = false := beq_eq_false_iff_ne.mpr c206
          have c206b1 : (t545 != t547) = true := bne_iff_ne.mpr c206
          exact (laws_FnLinesSet.j4_no H hr_.out).elim
       case rest => as_aux_lemma =>
        clear HC185
        (try clear c1); (try clear c2); (try clear p2); (try clear c3); (try clear c4); (try clear c5); (try clear p5); (try clear q5); (try clear hx5); (try clear c6); (try clear p6); (try clear c7); (try clear c8); (try clear c12); (try clear c13); (try clear c14); (try clear c15); (try clear c16); (try clear c20); (try clear c21); (try clear c22); (try clear c33); (try clear c33b0); (try clear c33b1); (try clear c33b2); (try clear c35); (try clear c36); (try clear c36b0); (try clear c36b1); (try clear c36b2); (try clear c39); (try clear c39b0); (try clear c39b1); (try clear c40); (try clear c40b0); (try clear c40b1); (try clear c40b2); (try clear c43); (try clear c43b0); (try clear c43b1); (try clear c44); (try clear c44b0); (try clear c44b1); (try clear c44b2); (try clear c48); (try clear c49); (try clear c49b0); (try clear c49b1); (try clear c49b2); (try clear p53); (try clear q53); (try clear hx53); (try clear c54); (try clear c54b0); (try clear c54b1); (try clear c55); (try clear c55b0); (try clear c55b1); (try clear c55b2); (try clear c60); (try clear c60b0); (try clear c60b1); (try clear c61); (try clear c61b0); (try clear c61b1); (try clear c61b2); (try clear p64); (try clear c66); (try clear c66b0); (try clear c66b1); (try clear c66b2); (try clear c71); (try clear c71b0); (try clear c71b1); (try clear c71b2); (try clear c76); (try clear c76b0); (try clear c76b1); (try clear c76b2); (try clear c81); (try clear c81b0); (try clear c81b1); (try clear c81b2); (try clear c86); (try clear c88); (try clear c123); (try clear c125); (try clear c137); (try clear c137b0); (try clear c137b1); (try clear c139); (try clear c139b0); (try clear c139b1); (try clear c140); (try clear c140b0); (try clear c141); (try clear c142); (try clear c142b0); (try clear c143); (try clear c144); (try clear c144b0); (try clear c144b1); (try clear c145); (try clear c146); (try clear c146b0); (try clear c146b1); (try clear c147); (try clear c148); (try clear c148b0); (try clear c150); (try clear c150b0); (try clear c152); (try clear c152b0); (try clear c154); (try clear c154b0); (try clear c159); (try clear c160); (try clear c160b0); (try clear c161); (try clear c161b0); (try clear c162); (try clear c162b0); (try clear c163); (try clear c163b0); (try clear c164); (try clear c164b0); (try clear c165); (try clear c165b0); (try clear c167); (try clear c167b0); (try clear c168); (try clear c168b0); (try clear c205); (try clear c205b0); (try clear c205b1); (try clear c205b2); (try clear c206); (try clear c206b0); (try clear c206b1); (try clear c207); (try clear c207b0); (try clear c207b1); (try clear c207b2); (try clear c209); (try clear c210); (try clear c210b0); (try clear c210b1); (try clear c210b2); (try clear c213); (try clear c213b0); (try clear c213b1); (try clear c214); (try clear c214b0); (try clear c214b1); (try clear c214b2); (try clear c218); (try clear c219); (try clear c219b0); (try clear c219b1); (try clear c219b2); (try clear c225); (try clear c226); (try clear hx534_0); (try clear hx535_0); (try clear hx536_0); (try clear hx537_0); (try clear p534); (try clear p535); (try clear p536); (try clear p537); (try clear q534); (try clear q535); (try clear q536); (try clear q537)
        obtain ⟨kq, x538_184, rfl, HA, HJ184, HO_42, HO_49, HO_50, HO_51, HO_55, HO_63, HO_67, HB⟩ := hcut
        cases kq with
        | zero => exact absurd HA.out (by simp [laws_FnLinesSet.j4])
        | succ kj184 =>
         have H := HA.out
         clear HA
         simp only [laws_FnLinesSet.j4] at H
         by_cases c253 : x538_184 = true
         ·subst c253
          have H1 : (some false) = some r := by rw [if_pos rfl] at H; exact H
          clear H
          have H := H1
          clear H1
          obtain rfl := Option.some.inj H
          exact absurd hr_.out (by decide)
         ·replace c253 := Bool.eq_false_iff.mpr c253
          subst c253
          have H1 : (if t546 = true then ((impl_LeastRagged.f t538 t539).bind fun bt592 => (if bt592.2 = true then (if t545 < bt592.1 then (some false) else (laws_FnLinesSet.j5 kj184 t549 t550 t555 t556 t563 t564 t567 t568 t571 t572 t573 t574 t581)) else (some false))) else (laws_FnLinesSet.j5 kj184 t549 t550 t555 t556 t563 t564 t567 t568 t571 t572 t573 t574 t581)) = some r := by rw [if_neg (show ¬ (false = true) by decide)] at H; exact H
          clear H
          have H := H1
          clear H1
          have HC254 := Aside0.mk H
          clear H
          go_upto_if 539 with (fail)
          repeat (go_quiet (fail); go_upto_if 539 with (fail))
          go_cut [71, 72] from 540 to 552 (fun v71 v72 wc => ∃ (kq : Nat), Aside0 (laws_FnLinesSet.j5 kq t549 t550 t555 t556 t563 t564 t567 t568 t571 t572 t573 t574 t581 = some r) ∧ Aside0 (kq ≤ kj184) ∧ Aside0 (Kd.R (Kd.int .i64) 3 wc w.heap.size (fun k_ => some k_ ≠ ((.slice Ao193 t550.length co193) : Value).ownBlock ∧ some k_ ≠ (v557 : Value).ownBlock ∧ some k_ ≠ ((.slice Ao197 t563.length co197) : Value).ownBlock ∧ some k_ ≠ (v583 : Value).ownBlock) (.slice Ao192 t549.length co192) t549) ∧ Aside0 (Kd.R (Kd.int .i64) 3 wc w.heap.size (fun k_ => some k_ ≠ ((.slice Ao192 t549.length co192) : Value).ownBlock ∧ some k_ ≠ (v557 : Value).ownBlock ∧ some k_ ≠ ((.slice Ao197 t563.length co197) : Value).ownBlock ∧ some k_ ≠ (v583 : Value).ownBlock) (.slice Ao193 t550.length co193) t550) ∧ Aside0 (Kd.R (Kd.int .i64) 3 wc w.heap.size (fun k_ => some k_ ≠ ((.slice Ao192 t549.length co192) : Value).ownBlock ∧ some k_ ≠ ((.slice Ao193 t550.length co193) : Value).ownBlock ∧ some k_ ≠ ((.slice Ao197 t563.length co197) : Value).ownBlock ∧ some k_ ≠ (v583 : Value).ownBlock) v557 t555) ∧ Aside0 (Kd.R (Kd.int .i64) 3 wc w.heap.size (fun k_ => some k_ ≠ ((.slice Ao192 t549.length co192) : Value).ownBlock ∧ some k_ ≠ ((.slice Ao193 t550.length co193) : Value).ownBlock ∧ some k_ ≠ (v557 : Value).ownBlock ∧ some k_ ≠ (v583 : Value).ownBlock) (.slice Ao197 t563.length co197) t563) ∧ Aside0 (Kd.R Kd.string 9 wc w.heap.size (fun _ => True) v575 t573) ∧ Aside0 (Kd.R (Kd.int .i64) 3 wc w.heap.size (fun k_ => some k_ ≠ ((.slice Ao192 t549.length co192) : Value).ownBlock ∧ some k_ ≠ ((.slice Ao193 t550.length co193) : Value).ownBlock ∧ some k_ ≠ (v557 : Value).ownBlock ∧ some k_ ≠ ((.slice Ao197 t563.length co197) : Value).ownBlock) v583 t581) ∧ Aside0 (Below w.heap.size w wc))
          case first => as_aux_lemma =>
           have H := HC254.out
           clear HC254
           by_cases c255 : t546 = true
           ·subst c255
            have H1 : ((impl_LeastRagged.f t538 t539).bind fun bt592 => (if bt592.2 = true then (if t545 < bt592.1 then (some false) else (laws_FnLinesSet.j5 kj184 t549 t550 t555 t556 t563 t564 t567 t568 t571 t572 t573 t574 t581)) else (some false))) = some r := by rw [if_pos rfl] at H; exact H
            clear H
            have H := H1
            clear H1
            replace H := Option.bind_eq_some_iff.mp H
            obtain ⟨⟨t592, t593⟩, A2560, H⟩ := H
            (try dsimp only at H)
            have A256 := Aside0.mk A2560
            clear A2560
            by_cases c257 : t593 = true
            ·subst c257
             have H1 : (if t545 < t592 then (some false) else (laws_FnLinesSet.j5 kj184 t549 t550 t555 t556 t563 t564 t567 t568 t571 t572 t573 t574 t581)) = some r := by rw [if_pos rfl] at H; exact H
             clear H
             have H := H1
             clear H1
             by_cases c258 : t545 < t592
             ·rw [if_pos c258] at H
              have c258b0 : decide (t545 < t592) = true := decide_eq_true c258
              clear c258
              (first | rw [c258b0] | skip)
              obtain rfl := Option.some.inj H
              exact absurd hr_.out (by decide)
             ·rw [if_neg c258] at H
              have c258b0 : decide (t545 < t592) = false := decide_eq_false c258
              clear c258
              (first | rw [c258b0] | skip)
              have H' := Aside0.mk H
              clear H
              go_wp2_with (first | (go_at_call 38; (with_reducible refine (impl_LeastRagged.calls _ _ t538 t539 t592 true _ ?side1 ?side2 A256.out).mono ?_); (case side1 => exact cr_ (Kd.R_reads' HO_42.out).2.2); (case side2 => exact (Kd.R_reads' HO_42.out).2.1); rintro e w259 ⟨rfl, hb⟩; have n0_ := Aside0.mk (Kd.R_below (rr_ HO_42.out) hb); have n1_ := Aside0.mk (Kd.R_below (rr_ HO_49.out) hb); have n2_ := Aside0.mk (Kd.R_below (rr_ HO_50.out) hb); have n3_ := Aside0.mk (Kd.R_below (rr_ HO_51.out) hb); have n4_ := Aside0.mk (Kd.R_below (rr_ HO_55.out) hb); have n5_ := Aside0.mk (Kd.R_below (rr_ HO_63.out) hb); have n6_ := Aside0.mk (Kd.R_below (rr_ HO_67.out) hb); have n7_ := Aside0.mk (below_step bw_ hb); clear HO_42; clear HO_49; clear HO_50; clear HO_51; clear HO_55; clear HO_63; clear HO_67; clear HB; have HO_42 := n0_; have HO_49 := n1_; have HO_50 := n2_; have HO_51 := n3_; have HO_55 := n4_; have HO_63 := n5_; have HO_67 := n6_; have HB := n7_; clear n0_ n1_ n2_ n3_ n4_ n5_ n6_ n7_; (try clear hb); (try clear hb2); (try clear hk); (try clear hi)))
              repeat (go_quiet (first | (go_at_call 38; (with_reducible refine (impl_LeastRagged.calls _ _ t538 t539 t592 true _ ?side1 ?side2 A256.out).mono ?_); (case side1 => exact cr_ (Kd.R_reads' HO_42.out).2.2); (case side2 => exact (Kd.R_reads' HO_42.out).2.1); rintro e w259 ⟨rfl, hb⟩; have n0_ := Aside0.mk (Kd.R_below (rr_ HO_42.out) hb); have n1_ := Aside0.mk (Kd.R_below (rr_ HO_49.out) hb); have n2_ := Aside0.mk (Kd.R_below (rr_ HO_50.out) hb); have n3_ := Aside0.mk (Kd.R_below (rr_ HO_51.out) hb); have n4_ := Aside0.mk (Kd.R_below (rr_ HO_55.out) hb); have n5_ := Aside0.mk (Kd.R_below (rr_ HO_63.out) hb); have n6_ := Aside0.mk (Kd.R_below (rr_ HO_67.out) hb); have n7_ := Aside0.mk (below_step bw_ hb); clear HO_42; clear HO_49; clear HO_50; clear HO_51; clear HO_55; clear HO_63; clear HO_67; clear HB; have HO_42 := n0_; have HO_49 := n1_; have HO_50 := n2_; have HO_51 := n3_; have HO_55 := n4_; have HO_63 := n5_; have HO_67 := n6_; have HB := n7_; clear n0_ n1_ n2_ n3_ n4_ n5_ n6_ n7_; (try clear hb); (try clear hb2); (try clear hk); (try clear hi))); try go_wp2)
              go_meet
              case rel => exact ⟨_, H', ⟨by have := HJ17.out; have := HJ123.out; have := HJ184.out; first | omega | exact Nat.le_refl _⟩, ⟨by (with_reducible repeat (first | apply Kd.R_alloc | apply Kd.R_drewN | apply Kd.R_drew)); exact Kd.R_mono HO_49.out (fun _ hk => ⟨hk.2.1, ⟨hk.2.2.1, ⟨hk.2.2.2.1, hk.2.2.2.2⟩⟩⟩)⟩, ⟨by (with_reducible repeat (first | apply Kd.R_alloc | apply Kd.R_drewN | apply Kd.R_drew)); exact Kd.R_mono HO_50.out (fun _ hk => ⟨hk.2.1, ⟨hk.2.2.1, ⟨hk.2.2.2.1, hk.2.2.2.2⟩⟩⟩)⟩, ⟨by (with_reducible repeat (first | apply Kd.R_alloc | apply Kd.R_drewN | apply Kd.R_drew)); exact Kd.R_mono HO_51.out (fun _ hk => ⟨hk.2.1, ⟨hk.2.2.1, ⟨hk.2.2.2.1, hk.2.2.2.2⟩⟩⟩)⟩, ⟨by (with_reducible repeat (first | apply Kd.R_alloc | apply Kd.R_drewN | apply Kd.R_drew)); exact Kd.R_mono HO_55.out (fun _ hk => ⟨hk.2.1, ⟨hk.2.2.1, ⟨hk.2.2.2.1, hk.2.2.2.2⟩⟩⟩)⟩, ⟨rr_ HO_63.out⟩, ⟨by (with_reducible repeat (first | apply Kd.R_alloc | apply Kd.R_drewN | apply Kd.R_drew)); exact Kd.R_mono HO_67.out (fun _ hk => ⟨hk.2.1, ⟨hk.2.2.1, ⟨hk.2.2.2.1, hk.2.2.2.2⟩⟩⟩)⟩, ⟨bw_⟩⟩
            ·replace c257 := Bool.eq_false_iff.mpr c257
             subst c257
             have H1 : (some false) = some r := by rw [if_neg (show ¬ (false = true) by decide)] at H; exact H
             clear H
             have H := H1
             clear H1
             obtain rfl := Option.some.inj H
             exact absurd hr_.out (by decide)
           ·replace c255 := Bool.eq_false_iff.mpr c255
            subst c255
            have H1 : (laws_FnLinesSet.j5 kj184 t549 t550 t555 t556 t563 t564 t567 t568 t571 t572 t573 t574 t581) = some r := by rw [if_neg (show ¬ (false = true) by decide)] at H; exact H
            clear H
            have H := H1
            clear H1
            have H' := Aside0.mk H
            clear H
            go_wp2
            repeat (go_quiet (fail); try go_wp2)
            go_meet
            case rel => exact ⟨_, H', ⟨by have := HJ17.out; have := HJ123.out; have := HJ184.out; first | omega | exact Nat.le_refl _⟩, ⟨by (with_reducible repeat (first | apply Kd.R_alloc | apply Kd.R_drewN | apply Kd.R_drew)); exact Kd.R_mono HO_49.out (fun _ hk => ⟨hk.2.1, ⟨hk.2.2.1, ⟨hk.2.2.2.1, hk.2.2.2.2⟩⟩⟩)⟩, ⟨by (with_reducible repeat (first | apply Kd.R_alloc | apply Kd.R_drewN | apply Kd.R_drew)); exact Kd.R_mono HO_50.out (fun _ hk => ⟨hk.2.1, ⟨hk.2.2.1, ⟨hk.2.2.2.1, hk.2.2.2.2⟩⟩⟩)⟩, ⟨by (with_reducible repeat (first | apply Kd.R_alloc | apply Kd.R_drewN | apply Kd.R_drew)); exact Kd.R_mono HO_51.out (fun _ hk => ⟨hk.2.1, ⟨hk.2.2.1, ⟨hk.2.2.2.1, hk.2.2.2.2⟩⟩⟩)⟩, ⟨by (with_reducible repeat (first | apply Kd.R_alloc | apply Kd.R_drewN | apply Kd.R_drew)); exact Kd.R_mono HO_55.out (fun _ hk => ⟨hk.2.1, ⟨hk.2.2.1, ⟨hk.2.2.2.1, hk.2.2.2.2⟩⟩⟩)⟩, ⟨rr_ HO_63.out⟩, ⟨by (with_reducible repeat (first | apply Kd.R_alloc | apply Kd.R_drewN | apply Kd.R_drew)); exact Kd.R_mono HO_67.out (fun _ hk => ⟨hk.2.1, ⟨hk.2.2.1, ⟨hk.2.2.2.1, hk.2.2.2.2⟩⟩⟩)⟩, ⟨bw_⟩⟩
          case rest => as_aux_lemma =>
           clear HC254
           (try clear c1); (try clear c2); (try clear p2); (try clear c3); (try clear c4); (try clear c5); (try clear p5); (try clear q5); (try clear hx5); (try clear c6); (try clear p6); (try clear c7); (try clear c8); (try clear c12); (try clear c13); (try clear c14); (try clear c15); (try clear c16); (try clear c20); (try clear c21); (try clear c22); (try clear c25); (try clear c33); (try clear c33b0); (try clear c33b1); (try clear c33b2); (try clear c35); (try clear c36); (try clear c36b0); (try clear c36b1); (try clear c36b2); (try clear c39); (try clear c39b0); (try clear c39b1); (try clear c40); (try clear c40b0); (try clear c40b1); (try clear c40b2); (try clear c43); (try clear c43b0); (try clear c43b1); (try clear c44); (try clear c44b0); (try clear c44b1); (try clear c44b2); (try clear c48); (try clear c49); (try clear c49b0); (try clear c49b1); (try clear c49b2); (try clear p53); (try clear q53); (try clear hx53); (try clear c54); (try clear c54b0); (try clear c54b1); (try clear c55); (try clear c55b0); (try clear c55b1); (try clear c55b2); (try clear c60); (try clear c60b0); (try clear c60b1); (try clear c61); (try clear c61b0); (try clear c61b1); (try clear c61b2); (try clear p64); (try clear c66); (try clear c66b0); (try clear c66b1); (try clear c66b2); (try clear c71); (try clear c71b0); (try clear c71b1); (try clear c71b2); (try clear c76); (try clear c76b0); (try clear c76b1); (try clear c76b2); (try clear c81); (try clear c81b0); (try clear c81b1); (try clear c81b2); (try clear c86); (try clear c88); (try clear c123); (try clear c125); (try clear c137); (try clear c137b0); (try clear c137b1); (try clear c139); (try clear c139b0); (try clear c139b1); (try clear c140); (try clear c140b0); (try clear c141); (try clear c142); (try clear c142b0); (try clear c143); (try clear c144); (try clear c144b0); (try clear c144b1); (try clear c145); (try clear c146); (try clear c146b0); (try clear c146b1); (try clear c147); (try clear c148); (try clear c148b0); (try clear c150); (try clear c150b0); (try clear c152); (try clear c152b0); (try clear c154); (try clear c154b0); (try clear c159); (try clear c160); (try clear c160b0); (try clear c161); (try clear c161b0); (try clear c162); (try clear c162b0); (try clear c163); (try clear c163b0); (try clear c164); (try clear c164b0); (try clear c165); (try clear c165b0); (try clear c167); (try clear c167b0); (try clear c168); (try clear c168b0); (try clear c205); (try clear c205b0); (try clear c205b1); (try clear c205b2); (try clear c206); (try clear c206b0); (try clear c206b1); (try clear c207); (try clear c207b0); (try clear c207b1); (try clear c207b2); (try clear c209); (try clear c210); (try clear c210b0); (try clear c210b1); (try clear c210b2); (try clear c213); (try clear c213b0); (try clear c213b1); (try clear c214); (try clear c214b0); (try clear c214b1); (try clear c214b2); (try clear c218); (try clear c219); (try clear c219b0); (try clear c219b1); (try clear c219b2); (try clear c225); (try clear c226); (try clear c253); (try clear c255); (try clear c257); (try clear c258); (try clear c258b0); (try clear hx534_0); (try clear hx535_0); (try clear hx536_0); (try clear hx537_0); (try clear p534); (try clear p535); (try clear p536); (try clear p537); (try clear q534); (try clear q535); (try clear q536); (try clear q537)
           obtain ⟨kq, HA, HJ253, HO_49, HO_50, HO_51, HO_55, HO_63, HO_67, HB⟩ := hcut
           cases kq with
           | zero => exact absurd HA.out (by simp [laws_FnLinesSet.j5])
           | succ kj253 =>
            have H := HA.out
            clear HA
            simp only [laws_FnLinesSet.j5] at H
            have HC260 := Aside0.mk H
            clear H
            go_upto_region 53 with (fail)
            repeat (go_quiet (fail); go_upto_region 53 with (fail))
            go_cut [566] from 553 to 565 (fun v566 wc => ∃ (kq : Nat) (x566_259 : Bool), v566 = .bool x566_259 ∧ Aside0 (laws_FnLinesSet.j6 kq t563 t564 t567 t568 t571 t572 t573 t574 t581 x566_259 = some r) ∧ Aside0 (kq ≤ kj253) ∧ Aside0 (Kd.R (Kd.int .i64) 3 wc w.heap.size (fun k_ => some k_ ≠ (v583 : Value).ownBlock) (.slice Ao197 t563.length co197) t563) ∧ Aside0 (Kd.R Kd.string 9 wc w.heap.size (fun _ => True) v575 t573) ∧ Aside0 (Kd.R (Kd.int .i64) 3 wc w.heap.size (fun k_ => some k_ ≠ ((.slice Ao197 t563.length co197) : Value).ownBlock) v583 t581) ∧ Aside0 (Below w.heap.size w wc))
            case first => as_aux_lemma =>
             have H := HC260.out
             clear HC260
             by_cases c261 : t556 = true
             ·subst c261
              have H1 : ((laws_xSum.f kj253 t555).bind fun t594 => ((laws_xSum.f kj253 t549).bind fun t595 => (laws_FnLinesSet.j6 kj253 t563 t564 t567 t568 t571 t572 t573 t574 t581 (t594 != (wrap64 ((wrap64 (t595 + (t549.length : Int))) - (t550.length : Int))))))) = some r := by rw [if_pos rfl] at H; exact H
              clear H
              have H := H1
              clear H1
              replace H := Option.bind_eq_some_iff.mp H
              obtain ⟨t594, A2620, H⟩ := H
              (try dsimp only at H)
              have A262 := Aside0.mk A2620
              clear A2620
              replace H := Option.bind_eq_some_iff.mp H
              obtain ⟨t595, A2630, H⟩ := H
              (try dsimp only at H)
              have A263 := Aside0.mk A2630
              clear A2630
              have H' := Aside0.mk H
              clear H
              obtain ⟨Ao264, co264, eo264⟩ := Kd.R_slice HO_51.out
              subst eo264
              go_wp2_with (first | (go_at_call 13; (with_reducible refine (laws_xSum.calls kj253 _ _ t555 t594 _ ?side1 ?side2 A262.out).mono ?_); (case side1 => exact cr_ (Kd.R_reads' HO_51.out).2.2); (case side2 => exact (Kd.R_reads' HO_51.out).2.1); rintro e w' ⟨rfl, ⟨nd, rfl⟩⟩; (try exact dd_)) | (go_at_call 13; (with_reducible refine (laws_xSum.calls kj253 _ _ t549 t595 _ ?side1 ?side2 A263.out).mono ?_); (case side1 => exact cr_ (Kd.R_reads' HO_49.out).2.2); (case side2 => exact (Kd.R_reads' HO_49.out).2.1); rintro e w' ⟨rfl, ⟨nd, rfl⟩⟩; (try exact dd_)))
              repeat (go_quiet (first | (go_at_call 13; (with_reducible refine (laws_xSum.calls kj253 _ _ t555 t594 _ ?side1 ?side2 A262.out).mono ?_); (case side1 => exact cr_ (Kd.R_reads' HO_51.out).2.2); (case side2 => exact (Kd.R_reads' HO_51.out).2.1); rintro e w' ⟨rfl, ⟨nd, rfl⟩⟩; (try exact dd_)) | (go_at_call 13; (with_reducible refine (laws_xSum.calls kj253 _ _ t549 t595 _ ?side1 ?side2 A263.out).mono ?_); (case side1 => exact cr_ (Kd.R_reads' HO_49.out).2.2); (case side2 => exact (Kd.R_reads' HO_49.out).2.1); rintro e w' ⟨rfl, ⟨nd, rfl⟩⟩; (try exact dd_))); try go_wp2)
              go_meet
              case rel => exact ⟨_, ((t594 != (wrap64 ((wrap64 (t595 + (t549.length : Int))) - (t550.length : Int))))), rs_, H', ⟨by have := HJ17.out; have := HJ123.out; have := HJ184.out; have := HJ253.out; first | omega | exact Nat.le_refl _⟩, ⟨by (with_reducible repeat (first | apply Kd.R_alloc | apply Kd.R_drewN | apply Kd.R_drew)); exact Kd.R_mono HO_55.out (fun _ hk => hk.2.2.2)⟩, ⟨rr_ HO_63.out⟩, ⟨by (with_reducible repeat (first | apply Kd.R_alloc | apply Kd.R_drewN | apply Kd.R_drew)); exact Kd.R_mono HO_67.out (fun _ hk => hk.2.2.2)⟩, ⟨bw_⟩⟩
             ·replace c261 := Bool.eq_false_iff.mpr c261
              subst c261
              have H1 : (laws_FnLinesSet.j6 kj253 t563 t564 t567 t568 t571 t572 t573 t574 t581 false) = some r := by rw [if_neg (show ¬ (false = true) by decide)] at H; exact H
              clear H
              have H := H1
              clear H1
              have H' := Aside0.mk H
              clear H
              go_wp2
              repeat (go_quiet (fail); try go_wp2)
              go_meet
              case rel => exact ⟨_, (false), rs_, H', ⟨by have := HJ17.out; have := HJ123.out; have := HJ184.out; have := HJ253.out; first | omega | exact Nat.le_refl _⟩, ⟨by (with_reducible repeat (first | apply Kd.R_alloc | apply Kd.R_drewN | apply Kd.R_drew)); exact Kd.R_mono HO_55.out (fun _ hk => hk.2.2.2)⟩, ⟨rr_ HO_63.out⟩, ⟨by (with_reducible repeat (first | apply Kd.R_alloc | apply Kd.R_drewN | apply Kd.R_drew)); exact Kd.R_mono HO_67.out (fun _ hk => hk.2.2.2)⟩, ⟨bw_⟩⟩
            case rest => as_aux_lemma =>
             clear HC260
             (try clear c1); (try clear c2); (try clear p2); (try clear c3); (try clear c4); (try clear c5); (try clear p5); (try clear q5); (try clear hx5); (try clear c6); (try clear p6); (try clear c7); (try clear c8); (try clear c12); (try clear c13); (try clear c14); (try clear c15); (try clear c16); (try clear c20); (try clear c21); (try clear c22); (try clear c25); (try clear c26); (try clear c33); (try clear c33b0); (try clear c33b1); (try clear c33b2); (try clear c35); (try clear c36); (try clear c36b0); (try clear c36b1); (try clear c36b2); (try clear c39); (try clear c39b0); (try clear c39b1); (try clear c40); (try clear c40b0); (try clear c40b1); (try clear c40b2); (try clear c43); (try clear c43b0); (try clear c43b1); (try clear c44); (try clear c44b0); (try clear c44b1); (try clear c44b2); (try clear c48); (try clear c49); (try clear c49b0); (try clear c49b1); (try clear c49b2); (try clear p53); (try clear q53); (try clear hx53); (try clear c54); (try clear c54b0); (try clear c54b1); (try clear c55); (try clear c55b0); (try clear c55b1); (try clear c55b2); (try clear c60); (try clear c60b0); (try clear c60b1); (try clear c61); (try clear c61b0); (try clear c61b1); (try clear c61b2); (try clear p64); (try clear c66); (try clear c66b0); (try clear c66b1); (try clear c66b2); (try clear c71); (try clear c71b0); (try clear c71b1); (try clear c71b2); (try clear c76); (try clear c76b0); (try clear c76b1); (try clear c76b2); (try clear c81); (try clear c81b0); (try clear c81b1); (try clear c81b2); (try clear c86); (try clear c88); (try clear c123); (try clear c125); (try clear c137); (try clear c137b0); (try clear c137b1); (try clear c139); (try clear c139b0); (try clear c139b1); (try clear c140); (try clear c140b0); (try clear c141); (try clear c142); (try clear c142b0); (try clear c143); (try clear c144); (try clear c144b0); (try clear c144b1); (try clear c145); (try clear c146); (try clear c146b0); (try clear c146b1); (try clear c147); (try clear c148); (try clear c148b0); (try clear c150); (try clear c150b0); (try clear c152); (try clear c152b0); (try clear c154); (try clear c154b0); (try clear c159); (try clear c160); (try clear c160b0); (try clear c161); (try clear c161b0); (try clear c162); (try clear c162b0); (try clear c163); (try clear c163b0); (try clear c164); (try clear c164b0); (try clear c165); (try clear c165b0); (try clear c167); (try clear c167b0); (try clear c168); (try clear c168b0); (try clear c205); (try clear c205b0); (try clear c205b1); (try clear c205b2); (try clear c206); (try clear c206b0); (try clear c206b1); (try clear c207); (try clear c207b0); (try clear c207b1); (try clear c207b2); (try clear c209); (try clear c210); (try clear c210b0); (try clear c210b1); (try clear c210b2); (try clear c213); (try clear c213b0); (try clear c213b1); (try clear c214); (try clear c214b0); (try clear c214b1); (try clear c214b2); (try clear c218); (try clear c219); (try clear c219b0); (try clear c219b1); (try clear c219b2); (try clear c225); (try clear c226); (try clear c253); (try clear c255); (try clear c257); (try clear c258); (try clear c258b0); (try clear c261); (try clear hx534_0); (try clear hx535_0); (try clear hx536_0); (try clear hx537_0); (try clear p534); (try clear p535); (try clear p536); (try clear p537); (try clear q534); (try clear q535); (try clear q536); (try clear q537)
             obtain ⟨kq, x566_259, rfl, HA, HJ259, HO_55, HO_63, HO_67, HB⟩ := hcut
             cases kq with
             | zero => exact absurd HA.out (by simp [laws_FnLinesSet.j6])
             | succ kj259 =>
              have H := HA.out
              clear HA
              simp only [laws_FnLinesSet.j6] at H
              by_cases c265 : x566_259 = true
              ·subst c265
               have H1 : (some false) = some r := by rw [if_pos rfl] at H; exact H
               clear H
               have H := H1
               clear H1
               obtain rfl := Option.some.inj H
               exact absurd hr_.out (by decide)
              ·replace c265 := Bool.eq_false_iff.mpr c265
               subst c265
               have H1 : (if t568 = true then ((impl_CountLines.f kj259 t563 t567).bind fun bt596 => (if bt596.2 = true then (laws_FnLinesSet.j7 kj259 t563 t564 t567 t571 t572 t573 t574 t581 (decide (bt596.1 > t564))) else (laws_FnLinesSet.j7 kj259 t563 t564 t567 t571 t572 t573 t574 t581 true))) else (laws_FnLinesSet.j8 kj259 t571 t572 t573 t574 t581)) = some r := by rw [if_neg (show ¬ (false = true) by decide)] at H; exact H
               clear H
               have H := H1
               clear H1
               have HC266 := Aside0.mk H
               clear H
               go_upto_if 567 with (fail)
               repeat (go_quiet (fail); go_upto_if 567 with (fail))
               go_cut [73, 74, 75, 76] from 568 to 595 (fun v73 v74 v75 v76 wc => ∃ (kq : Nat), Aside0 (laws_FnLinesSet.j8 kq t571 t572 t573 t574 t581 = some r) ∧ Aside0 (kq ≤ kj259) ∧ Aside0 (Kd.R Kd.string 9 wc w.heap.size (fun _ => True) v575 t573) ∧ Aside0 (Kd.R (Kd.int .i64) 3 wc w.heap.size (fun _ => True) v583 t581) ∧ Aside0 (Below w.heap.size w wc))
               case first => as_aux_lemma =>
                have H := HC266.out
                clear HC266
                by_cases c267 : t568 = true
                ·subst c267
                 have H1 : ((impl_CountLines.f kj259 t563 t567).bind fun bt596 => (if bt596.2 = true then (laws_FnLinesSet.j7 kj259 t563 t564 t567 t571 t572 t573 t574 t581 (decide (bt596.1 > t564))) else (laws_FnLinesSet.j7 kj259 t563 t564 t567 t571 t572 t573 t574 t581 true))) = some r := by rw [if_pos rfl] at H; exact H
                 clear H
                 have H := H1
                 clear H1
                 replace H := Option.bind_eq_some_iff.mp H
                 obtain ⟨⟨t596, t597⟩, A2680, H⟩ := H
                 (try dsimp only at H)
                 have A268 := Aside0.mk A2680
                 clear A2680
                 have HC269 := Aside0.mk H
                 clear H
                 go_upto_region 57 with (first | (go_at_call 36; (with_reducible refine (impl_CountLines.calls kj259 _ _ t563 t567 t596 t597 _ ?side1 ?side2 A268.out).mono ?_); (case side1 => exact cr_ (Kd.R_reads' HO_55.out).2.2); (case side2 => exact (Kd.R_reads' HO_55.out).2.1); rintro e w270 ⟨rfl, hb⟩; have n0_ := Aside0.mk (Kd.R_below (rr_ HO_55.out) hb); have n1_ := Aside0.mk (Kd.R_below (rr_ HO_63.out) hb); have n2_ := Aside0.mk (Kd.R_below (rr_ HO_67.out) hb); have n3_ := Aside0.mk (below_step bw_ hb); clear HO_55; clear HO_63; clear HO_67; clear HB; have HO_55 := n0_; have HO_63 := n1_; have HO_67 := n2_; have HB := n3_; clear n0_ n1_ n2_ n3_; (try clear hb); (try clear hb2); (try clear hk); (try clear hi)))
                 repeat (go_quiet (fail); go_upto_region 57 with (fail))
                 (try simp only [Act.put, List.setIfInBounds_toArray, List.set_cons_zero, List.set_cons_succ])
                 go_cut [580] from 574 to 579 (fun v580 wc => ∃ (kq : Nat) (x580_268 : Bool), v580 = .bool x580_268 ∧ Aside0 (laws_FnLinesSet.j7 kq t563 t564 t567 t571 t572 t573 t574 t581 x580_268 = some r) ∧ Aside0 (kq ≤ kj259) ∧ Aside0 (Kd.R (Kd.int .i64) 3 wc w.heap.size (fun k_ => some k_ ≠ (v583 : Value).ownBlock) (.slice Ao197 t563.length co197) t563) ∧ Aside0 (Kd.R Kd.string 9 wc w.heap.size (fun _ => True) v575 t573) ∧ Aside0 (Kd.R (Kd.int .i64) 3 wc w.heap.size (fun k_ => some k_ ≠ ((.slice Ao197 t563.length co197) : Value).ownBlock) v583 t581) ∧ Aside0 (Below w.heap.size w wc))
                 case first => as_aux_lemma =>
                  have H := HC269.out
                  clear HC269
                  by_cases c271 : t597 = true
                  ·subst c271
                   have H1 : (laws_FnLinesSet.j7 kj259 t563 t564 t567 t571 t572 t573 t574 t581 (decide (t596 > t564))) = some r := by rw [if_pos rfl] at H; exact H
                   clear H
                   have H := H1
                   clear H1
                   have H' := Aside0.mk H
                   clear H
                   go_wp2
                   repeat (go_quiet (fail); try go_wp2)
                   go_meet
                   case rel => exact ⟨_, (decide (t596 > t564)), rs_, H', ⟨by have := HJ17.out; have := HJ123.out; have := HJ184.out; have := HJ253.out; have := HJ259.out; first | omega | exact Nat.le_refl _⟩, ⟨rr_ HO_55.out⟩, ⟨rr_ HO_63.out⟩, ⟨rr_ HO_67.out⟩, ⟨bw_⟩⟩
                  ·replace c271 := Bool.eq_false_iff.mpr c271
                   subst c271
                   have H1 : (laws_FnLinesSet.j7 kj259 t563 t564 t567 t571 t572 t573 t574 t581 true) = some r := by rw [if_neg (show ¬ (false = true) by decide)] at H; exact H
                   clear H
                   have H := H1
                   clear H1
                   exact (laws_FnLinesSet.j7_no H hr_.out).elim
                 case rest => as_aux_lemma =>
                  clear HC269
                  (try clear c1); (try clear c2); (try clear p2); (try clear c3); (try clear c4); (try clear c5); (try clear p5); (try clear q5); (try clear hx5); (try clear c6); (try clear p6); (try clear c7); (try clear c8); (try clear c12); (try clear c13); (try clear c14); (try clear c15); (try clear c16); (try clear c20); (try clear c21); (try clear c22); (try clear c25); (try clear c26); (try clear c27); (try clear c33); (try clear c33b0); (try clear c33b1); (try clear c33b2); (try clear c35); (try clear c36); (try clear c36b0); (try clear c36b1); (try clear c36b2); (try clear c39); (try clear c39b0); (try clear c39b1); (try clear c40); (try clear c40b0); (try clear c40b1); (try clear c40b2); (try clear c43); (try clear c43b0); (try clear c43b1); (try clear c44); (try clear c44b0); (try clear c44b1); (try clear c44b2); (try clear c48); (try clear c49); (try clear c49b0); (try clear c49b1); (try clear c49b2); (try clear p53); (try clear q53); (try clear hx53); (try clear c54); (try clear c54b0); (try clear c54b1); (try clear c55); (try clear c55b0); (try clear c55b1); (try clear c55b2); (try clear c60); (try clear c60b0); (try clear c60b1); (try clear c61); (try clear c61b0); (try clear c61b1); (try clear c61b2); (try clear p64); (try clear c66); (try clear c66b0); (try clear c66b1); (try clear c66b2); (try clear c71); (try clear c71b0); (try clear c71b1); (try clear c71b2); (try clear c76); (try clear c76b0); (try clear c76b1); (try clear c76b2); (try clear c81); (try clear c81b0); (try clear c81b1); (try clear c81b2); (try clear c86); (try clear c88); (try clear c123); (try clear c125); (try clear c137); (try clear c137b0); (try clear c137b1); (try clear c139); (try clear c139b0); (try clear c139b1); (try clear c140); (try clear c140b0); (try clear c141); (try clear c142); (try clear c142b0); (try clear c143); (try clear c144); (try clear c144b0); (try clear c144b1); (try clear c145); (try clear c146); (try clear c146b0); (try clear c146b1); (try clear c147); (try clear c148); (try clear c148b0); (try clear c150); (try clear c150b0); (try clear c152); (try clear c152b0); (try clear c154); (try clear c154b0); (try clear c159); (try clear c160); (try clear c160b0); (try clear c161); (try clear c161b0); (try clear c162); (try clear c162b0); (try clear c163); (try clear c163b0); (try clear c164); (try clear c164b0); (try clear c165); (try clear c165b0); (try clear c167); (try clear c167b0); (try clear c168); (try clear c168b0); (try clear c205); (try clear c205b0); (try clear c205b1); (try clear c205b2); (try clear c206); (try clear c206b0); (try clear c206b1); (try clear c207); (try clear c207b0); (try clear c207b1); (try clear c207b2); (try clear c209); (try clear c210); (try clear c210b0); (try clear c210b1); (try clear c210b2); (try clear c213); (try clear c213b0); (try clear c213b1); (try clear c214); (try clear c214b0); (try clear c214b1); (try clear c214b2); (try clear c218); (try clear c219); (try clear c219b0); (try clear c219b1); (try clear c219b2); (try clear c225); (try clear c226); (try clear c253); (try clear c255); (try clear c257); (try clear c258); (try clear c258b0); (try clear c261); (try clear c265); (try clear c267); (try clear c271); (try clear hx534_0); (try clear hx535_0); (try clear hx536_0); (try clear hx537_0); (try clear p534); (try clear p535); (try clear p536); (try clear p537); (try clear q534); (try clear q535); (try clear q536); (try clear q537)
                  obtain ⟨kq, x580_268, rfl, HA, HJ268, HO_55, HO_63, HO_67, HB⟩ := hcut
                  cases kq with
                  | zero => exact absurd HA.out (by simp [laws_FnLinesSet.j7])
                  | succ kj268 =>
                   have H := HA.out
                   clear HA
                   simp only [laws_FnLinesSet.j7] at H
                   by_cases c272 : x580_268 = true
                   ·subst c272
                    have H1 : (some false) = some r := by rw [if_pos rfl] at H; exact H
                    clear H
                    have H := H1
                    clear H1
                    obtain rfl := Option.some.inj H
                    exact absurd hr_.out (by decide)
                   ·replace c272 := Bool.eq_false_iff.mpr c272
                    subst c272
                    have H1 : (if t567 > 1 then ((impl_CountLines.f kj268 t563 (wrap64 (t567 - 1))).bind fun bt598 => (if bt598.2 = true then (if bt598.1 ≤ t564 then (some false) else (laws_FnLinesSet.j8 kj268 t571 t572 t573 t574 t581)) else (laws_FnLinesSet.j8 kj268 t571 t572 t573 t574 t581))) else (laws_FnLinesSet.j8 kj268 t571 t572 t573 t574 t581)) = some r := by rw [if_neg (show ¬ (false = true) by decide)] at H; exact H
                    clear H
                    have H := H1
                    clear H1
                    by_cases c273 : t567 > 1
                    ·rw [if_pos c273] at H
                     have c273b0 : decide (1 < t567) = true := decide_eq_true c273
                     clear c273
                     replace H := Option.bind_eq_some_iff.mp H
                     obtain ⟨⟨t598, t599⟩, A2740, H⟩ := H
                     (try dsimp only at H)
                     have A274 := Aside0.mk A2740
                     clear A2740
                     by_cases c275 : t599 = true
                     ·subst c275
                      have H1 : (if t598 ≤ t564 then (some false) else (laws_FnLinesSet.j8 kj268 t571 t572 t573 t574 t581)) = some r := by rw [if_pos rfl] at H; exact H
                      clear H
                      have H := H1
                      clear H1
                      by_cases c276 : t598 ≤ t564
                      ·rw [if_pos c276] at H
                       have c276b0 : decide (t598 ≤ t564) = true := decide_eq_true c276
                       clear c276
                       obtain rfl := Option.some.inj H
                       exact absurd hr_.out (by decide)
                      ·rw [if_neg c276] at H
                       have c276b0 : decide (t598 ≤ t564) = false := decide_eq_false c276
                       clear c276
                       have H' := Aside0.mk H
                       clear H
                       go_wp2_with (first | (go_at_call 36; (with_reducible refine (impl_CountLines.calls kj268 _ _ t563 (wrap64 (t567 - 1)) t598 true _ ?side1 ?side2 A274.out).mono ?_); (case side1 => exact cr_ (Kd.R_reads' HO_55.out).2.2); (case side2 => exact (Kd.R_reads' HO_55.out).2.1); rintro e w277 ⟨rfl, hb⟩; have n0_ := Aside0.mk (Kd.R_below (rr_ HO_55.out) hb); have n1_ := Aside0.mk (Kd.R_below (rr_ HO_63.out) hb); have n2_ := Aside0.mk (Kd.R_below (rr_ HO_67.out) hb); have n3_ := Aside0.mk (below_step bw_ hb); clear HO_55; clear HO_63; clear HO_67; clear HB; have HO_55 := n0_; have HO_63 := n1_; have HO_67 := n2_; have HB := n3_; clear n0_ n1_ n2_ n3_; (try clear hb); (try clear hb2); (try clear hk); (try clear hi)))
                       repeat (go_quiet (first | (go_at_call 36; (with_reducible refine (impl_CountLines.calls kj268 _ _ t563 (wrap64 (t567 - 1)) t598 true _ ?side1 ?side2 A274.out).mono ?_); (case side1 => exact cr_ (Kd.R_reads' HO_55.out).2.2); (case side2 => exact (Kd.R_reads' HO_55.out).2.1); rintro e w277 ⟨rfl, hb⟩; have n0_ := Aside0.mk (Kd.R_below (rr_ HO_55.out) hb); have n1_ := Aside0.mk (Kd.R_below (rr_ HO_63.out) hb); have n2_ := Aside0.mk (Kd.R_below (rr_ HO_67.out) hb); have n3_ := Aside0.mk (below_step bw_ hb); clear HO_55; clear HO_63; clear HO_67; clear HB; have HO_55 := n0_; have HO_63 := n1_; have HO_67 := n2_; have HB := n3_; clear n0_ n1_ n2_ n3_; (try clear hb); (try clear hb2); (try clear hk); (try clear hi))); try go_wp2)
                       go_meet
                       case rel => exact ⟨_, H', ⟨by have := HJ17.out; have := HJ123.out; have := HJ184.out; have := HJ253.out; have := HJ259.out; have := HJ268.out; first | omega | exact Nat.le_refl _⟩, ⟨rr_ HO_63.out⟩, ⟨by (with_reducible repeat (first | apply Kd.R_alloc | apply Kd.R_drewN | apply Kd.R_drew)); exact Kd.R_mono HO_67.out (fun _ hk => trivial)⟩, ⟨bw_⟩⟩
                     ·replace c275 := Bool.eq_false_iff.mpr c275
                      subst c275
                      have H1 : (laws_FnLinesSet.j8 kj268 t571 t572 t573 t574 t581) = some r := by rw [if_neg (show ¬ (false = true) by decide)] at H; exact H
                      clear H
                      have H := H1
                      clear H1
                      have H' := Aside0.mk H
                      clear H
                      go_wp2_with (first | (go_at_call 36; (with_reducible refine (impl_CountLines.calls kj268 _ _ t563 (wrap64 (t567 - 1)) t598 false _ ?side1 ?side2 A274.out).mono ?_); (case side1 => exact cr_ (Kd.R_reads' HO_55.out).2.2); (case side2 => exact (Kd.R_reads' HO_55.out).2.1); rintro e w278 ⟨rfl, hb⟩; have n0_ := Aside0.mk (Kd.R_below (rr_ HO_55.out) hb); have n1_ := Aside0.mk (Kd.R_below (rr_ HO_63.out) hb); have n2_ := Aside0.mk (Kd.R_below (rr_ HO_67.out) hb); have n3_ := Aside0.mk (below_step bw_ hb); clear HO_55; clear HO_63; clear HO_67; clear HB; have HO_55 := n0_; have HO_63 := n1_; have HO_67 := n2_; have HB := n3_; clear n0_ n1_ n2_ n3_; (try clear hb); (try clear hb2); (try clear hk); (try clear hi)))
                      repeat (go_quiet (first | (go_at_call 36; (with_reducible refine (impl_CountLines.calls kj268 _ _ t563 (wrap64 (t567 - 1)) t598 false _ ?side1 ?side2 A274.out).mono ?_); (case side1 => exact cr_ (Kd.R_reads' HO_55.out).2.2); (case side2 => exact (Kd.R_reads' HO_55.out).2.1); rintro e w278 ⟨rfl, hb⟩; have n0_ := Aside0.mk (Kd.R_below (rr_ HO_55.out) hb); have n1_ := Aside0.mk (Kd.R_below (rr_ HO_63.out) hb); have n2_ := Aside0.mk (Kd.R_below (rr_ HO_67.out) hb); have n3_ := Aside0.mk (below_step bw_ hb); clear HO_55; clear HO_63; clear HO_67; clear HB; have HO_55 := n0_; have HO_63 := n1_; have HO_67 := n2_; have HB := n3_; clear n0_ n1_ n2_ n3_; (try clear hb); (try clear hb2); (try clear hk); (try clear hi))); try go_wp2)
                      go_meet
                      case rel => exact ⟨_, H', ⟨by have := HJ17.out; have := HJ123.out; have := HJ184.out; have := HJ253.out; have := HJ259.out; have := HJ268.out; first | omega | exact Nat.le_refl _⟩, ⟨rr_ HO_63.out⟩, ⟨by (with_reducible repeat (first | apply Kd.R_alloc | apply Kd.R_drewN | apply Kd.R_drew)); exact Kd.R_mono HO_67.out (fun _ hk => trivial)⟩, ⟨bw_⟩⟩
                    ·rw [if_neg c273] at H
                     have c273b0 : decide (1 < t567) = false := decide_eq_false c273
                     clear c273
                     have H' := Aside0.mk H
                     clear H
                     go_wp2
                     repeat (go_quiet (fail); try go_wp2)
                     go_meet
                     case rel => exact ⟨_, H', ⟨by have := HJ17.out; have := HJ123.out; have := HJ184.out; have := HJ253.out; have := HJ259.out; have := HJ268.out; first | omega | exact Nat.le_refl _⟩, ⟨rr_ HO_63.out⟩, ⟨by (with_reducible repeat (first | apply Kd.R_alloc | apply Kd.R_drewN | apply Kd.R_drew)); exact Kd.R_mono HO_67.out (fun _ hk => trivial)⟩, ⟨bw_⟩⟩
                ·replace c267 := Bool.eq_false_iff.mpr c267
                 subst c267
                 have H1 : (laws_FnLinesSet.j8 kj259 t571 t572 t573 t574 t581) = some r := by rw [if_neg (show ¬ (false = true) by decide)] at H; exact H
                 clear H
                 have H := H1
                 clear H1
                 have H' := Aside0.mk H
                 clear H
                 go_wp2
                 repeat (go_quiet (fail); try go_wp2)
                 go_meet
                 case rel => exact ⟨_, H', ⟨by have := HJ17.out; have := HJ123.out; have := HJ184.out; have := HJ253.out; have := HJ259.out; first | omega | exact Nat.le_refl _⟩, ⟨rr_ HO_63.out⟩, ⟨by (with_reducible repeat (first | apply Kd.R_alloc | apply Kd.R_drewN | apply Kd.R_drew)); exact Kd.R_mono HO_67.out (fun _ hk => trivial)⟩, ⟨bw_⟩⟩
               case rest => as_aux_lemma =>
                clear HC266
                (try clear c1); (try clear c2); (try clear p2); (try clear c3); (try clear c4); (try clear c5); (try clear p5); (try clear q5); (try clear hx5); (try clear c6); (try clear p6); (try clear c7); (try clear c8); (try clear c12); (try clear c13); (try clear c14); (try clear c15); (try clear c16); (try clear c20); (try clear c21); (try clear c22); (try clear c25); (try clear c26); (try clear c27); (try clear c33); (try clear c33b0); (try clear c33b1); (try clear c33b2); (try clear c35); (try clear c36); (try clear c36b0); (try clear c36b1); (try clear c36b2); (try clear c39); (try clear c39b0); (try clear c39b1); (try clear c40); (try clear c40b0); (try clear c40b1); (try clear c40b2); (try clear c43); (try clear c43b0); (try clear c43b1); (try clear c44); (try clear c44b0); (try clear c44b1); (try clear c44b2); (try clear c48); (try clear c49); (try clear c49b0); (try clear c49b1); (try clear c49b2); (try clear p53); (try clear q53); (try clear hx53); (try clear c54); (try clear c54b0); (try clear c54b1); (try clear c55); (try clear c55b0); (try clear c55b1); (try clear c55b2); (try clear c60); (try clear c60b0); (try clear c60b1); (try clear c61); (try clear c61b0); (try clear c61b1); (try clear c61b2); (try clear p64); (try clear c66); (try clear c66b0); (try clear c66b1); (try clear c66b2); (try clear c71); (try clear c71b0); (try clear c71b1); (try clear c71b2); (try clear c76); (try clear c76b0); (try clear c76b1); (try clear c76b2); (try clear c81); (try clear c81b0); (try clear c81b1); (try clear c81b2); (try clear c86); (try clear c88); (try clear c123); (try clear c125); (try clear c137); (try clear c137b0); (try clear c137b1); (try clear c139); (try clear c139b0); (try clear c139b1); (try clear c140); (try clear c140b0); (try clear c141); (try clear c142); (try clear c142b0); (try clear c143); (try clear c144); (try clear c144b0); (try clear c144b1); (try clear c145); (try clear c146); (try clear c146b0); (try clear c146b1); (try clear c147); (try clear c148); (try clear c148b0); (try clear c150); (try clear c150b0); (try clear c152); (try clear c152b0); (try clear c154); (try clear c154b0); (try clear c159); (try clear c160); (try clear c160b0); (try clear c161); (try clear c161b0); (try clear c162); (try clear c162b0); (try clear c163); (try clear c163b0); (try clear c164); (try clear c164b0); (try clear c165); (try clear c165b0); (try clear c167); (try clear c167b0); (try clear c168); (try clear c168b0); (try clear c205); (try clear c205b0); (try clear c205b1); (try clear c205b2); (try clear c206); (try clear c206b0); (try clear c206b1); (try clear c207); (try clear c207b0); (try clear c207b1); (try clear c207b2); (try clear c209); (try clear c210); (try clear c210b0); (try clear c210b1); (try clear c210b2); (try clear c213); (try clear c213b0); (try clear c213b1); (try clear c214); (try clear c214b0); (try clear c214b1); (try clear c214b2); (try clear c218); (try clear c219); (try clear c219b0); (try clear c219b1); (try clear c219b2); (try clear c225); (try clear c226); (try clear c253); (try clear c255); (try clear c257); (try clear c258); (try clear c258b0); (try clear c261); (try clear c265); (try clear c267); (try clear c271); (try clear c272); (try clear c273); (try clear c273b0); (try clear c275); (try clear c276); (try clear c276b0); (try clear hx534_0); (try clear hx535_0); (try clear hx536_0); (try clear hx537_0); (try clear p534); (try clear p535); (try clear p536); (try clear p537); (try clear q534); (try clear q535); (try clear q536); (try clear q537)
                obtain ⟨kq, HA, HJ265, HO_63, HO_67, HB⟩ := hcut
                cases kq with
                | zero => exact absurd HA.out (by simp [laws_FnLinesSet.j8])
                | succ kj265 =>
                 have H := HA.out
                 clear HA
                 simp only [laws_FnLinesSet.j8] at H
                 by_cases c279 : t574 = true
                 ·subst c279
                  have H1 : ((impl_CountLines.f kj265 t581 t572).bind fun bt600 => (if bt600.2 = true then (laws_FnLinesSet.j9 kj265 t571 t572 t573 ((t573.length : Int) != bt600.1)) else (laws_FnLinesSet.j9 kj265 t571 t572 t573 true))) = some r := by rw [if_pos rfl] at H; exact H
                  clear H
                  have H := H1
                  clear H1
                  replace H := Option.bind_eq_some_iff.mp H
                  obtain ⟨⟨t600, t601⟩, A2800, H⟩ := H
                  (try dsimp only at H)
                  have A280 := Aside0.mk A2800
                  clear A2800
                  have HC281 := Aside0.mk H
                  clear H
                  obtain ⟨Ao282, co282, eo282⟩ := Kd.R_slice HO_67.out
                  subst eo282
                  go_upto_region 65 with (first | (go_at_call 36; (with_reducible refine (impl_CountLines.calls kj265 _ _ t581 t572 t600 t601 _ ?side1 ?side2 A280.out).mono ?_); (case side1 => exact cr_ (Kd.R_reads' HO_67.out).2.2); (case side2 => exact (Kd.R_reads' HO_67.out).2.1); rintro e w283 ⟨rfl, hb⟩; have n0_ := Aside0.mk (Kd.R_below (rr_ HO_63.out) hb); have n1_ := Aside0.mk (Kd.R_below (rr_ HO_67.out) hb); have n2_ := Aside0.mk (below_step bw_ hb); clear HO_63; clear HO_67; clear HB; have HO_63 := n0_; have HO_67 := n1_; have HB := n2_; clear n0_ n1_ n2_; (try clear hb); (try clear hb2); (try clear hk); (try clear hi)))
                  repeat (go_quiet (fail); go_upto_region 65 with (fail))
                  (try simp only [Act.put, List.setIfInBounds_toArray, List.set_cons_zero, List.set_cons_succ])
                  go_cut [610] from 603 to 609 (fun v610 wc => ∃ (kq : Nat) (x610_280 : Bool), v610 = .bool x610_280 ∧ Aside0 (laws_FnLinesSet.j9 kq t571 t572 t573 x610_280 = some r) ∧ Aside0 (kq ≤ kj265) ∧ Aside0 (Kd.R Kd.string 9 wc w.heap.size (fun _ => True) v575 t573) ∧ Aside0 (Below w.heap.size w wc))
                  case first => as_aux_lemma =>
                   have H := HC281.out
                   clear HC281
                   by_cases c284 : t601 = true
                   ·subst c284
                    have H1 : (laws_FnLinesSet.j9 kj265 t571 t572 t573 ((t573.length : Int) != t600)) = some r := by rw [if_pos rfl] at H; exact H
                    clear H
                    have H := H1
                    clear H1
                    have H' := Aside0.mk H
                    clear H
                    obtain ⟨Ao285, co285, eo285⟩ := Kd.R_slice HO_63.out
                    subst eo285
                    go_wp2
                    repeat (go_quiet (fail); try go_wp2)
                    go_meet
                    case rel => exact ⟨_, (((t573.length : Int) != t600)), rs_, H', ⟨by have := HJ17.out; have := HJ123.out; have := HJ184.out; have := HJ253.out; have := HJ259.out; have := HJ265.out; first | omega | exact Nat.le_refl _⟩, ⟨rr_ HO_63.out⟩, ⟨bw_⟩⟩
                   ·replace c284 := Bool.eq_false_iff.mpr c284
                    subst c284
                    have H1 : (laws_FnLinesSet.j9 kj265 t571 t572 t573 true) = some r := by rw [if_neg (show ¬ (false = true) by decide)] at H; exact H
                    clear H
                    have H := H1
                    clear H1
                    exact (laws_FnLinesSet.j9_no H hr_.out).elim
                  case rest => as_aux_lemma =>
                   clear HC281
                   (try clear c1); (try clear c2); (try clear p2); (try clear c3); (try clear c4); (try clear c5); (try clear p5); (try clear q5); (try clear hx5); (try clear c6); (try clear p6); (try clear c7); (try clear c8); (try clear c12); (try clear c13); (try clear c14); (try clear c15); (try clear c16); (try clear c20); (try clear c21); (try clear c22); (try clear c25); (try clear c26); (try clear c27); (try clear c28); (try clear c33); (try clear c33b0); (try clear c33b1); (try clear c33b2); (try clear c35); (try clear c36); (try clear c36b0); (try clear c36b1); (try clear c36b2); (try clear c39); (try clear c39b0); (try clear c39b1); (try clear c40); (try clear c40b0); (try clear c40b1); (try clear c40b2); (try clear c43); (try clear c43b0); (try clear c43b1); (try clear c44); (try clear c44b0); (try clear c44b1); (try clear c44b2); (try clear c48); (try clear c49); (try clear c49b0); (try clear c49b1); (try clear c49b2); (try clear p53); (try clear q53); (try clear hx53); (try clear c54); (try clear c54b0); (try clear c54b1); (try clear c55); (try clear c55b0); (try clear c55b1); (try clear c55b2); (try clear c60); (try clear c60b0); (try clear c60b1); (try clear c61); (try clear c61b0); (try clear c61b1); (try clear c61b2); (try clear p64); (try clear c66); (try clear c66b0); (try clear c66b1); (try clear c66b2); (try clear c71); (try clear c71b0); (try clear c71b1); (try clear c71b2); (try clear c76); (try clear c76b0); (try clear c76b1); (try clear c76b2); (try clear c81); (try clear c81b0); (try clear c81b1); (try clear c81b2); (try clear c86); (try clear c88); (try clear c123); (try clear c125); (try clear c137); (try clear c137b0); (try clear c137b1); (try clear c139); (try clear c139b0); (try clear c139b1); (try clear c140); (try clear c140b0); (try clear c141); (try clear c142); (try clear c142b0); (try clear c143); (try clear c144); (try clear c144b0); (try clear c144b1); (try clear c145); (try clear c146); (try clear c146b0); (try clear c146b1); (try clear c147); (try clear c148); (try clear c148b0); (try clear c150); (try clear c150b0); (try clear c152); (try clear c152b0); (try clear c154); (try clear c154b0); (try clear c159); (try clear c160); (try clear c160b0); (try clear c161); (try clear c161b0); (try clear c162); (try clear c162b0); (try clear c163); (try clear c163b0); (try clear c164); (try clear c164b0); (try clear c165); (try clear c165b0); (try clear c167); (try clear c167b0); (try clear c168); (try clear c168b0); (try clear c205); (try clear c205b0); (try clear c205b1); (try clear c205b2); (try clear c206); (try clear c206b0); (try clear c206b1); (try clear c207); (try clear c207b0); (try clear c207b1); (try clear c207b2); (try clear c209); (try clear c210); (try clear c210b0); (try clear c210b1); (try clear c210b2); (try clear c213); (try clear c213b0); (try clear c213b1); (try clear c214); (try clear c214b0); (try clear c214b1); (try clear c214b2); (try clear c218); (try clear c219); (try clear c219b0); (try clear c219b1); (try clear c219b2); (try clear c225); (try clear c226); (try clear c253); (try clear c255); (try clear c257); (try clear c258); (try clear c258b0); (try clear c261); (try clear c265); (try clear c267); (try clear c271); (try clear c272); (try clear c273); (try clear c273b0); (try clear c275); (try clear c276); (try clear c276b0); (try clear c279); (try clear c284); (try clear hx534_0); (try clear hx535_0); (try clear hx536_0); (try clear hx537_0); (try clear p534); (try clear p535); (try clear p536); (try clear p537); (try clear q534); (try clear q535); (try clear q536); (try clear q537)
                   obtain ⟨kq, x610_280, rfl, HA, HJ280, HO_63, HB⟩ := hcut
                   cases kq with
                   | zero => exact absurd HA.out (by simp [laws_FnLinesSet.j9])
                   | succ kj280 =>
                    have H := HA.out
                    clear HA
                    simp only [laws_FnLinesSet.j9] at H
                    by_cases c286 : x610_280 = true
                    ·subst c286
                     have H1 : (some false) = some r := by rw [if_pos rfl] at H; exact H
                     clear H
                     have H := H1
                     clear H1
                     obtain rfl := Option.some.inj H
                     exact absurd hr_.out (by decide)
                    ·replace c286 := Bool.eq_false_iff.mpr c286
                     subst c286
                     have H1 : (laws_FnLinesSet.l1 kj280 t571 t572 (⟨#[]⟩ : ByteArray) t573 (t573.length : Int) 0) = some r := by rw [if_neg (show ¬ (false = true) by decide)] at H; exact H
                     clear H
                     have H := H1
                     clear H1
                     have H' := Aside0.mk H
                     clear H
                     obtain ⟨Ao287, co287, eo287⟩ := Kd.R_slice HO_63.out
                     subst eo287
                     go_wp2
                     repeat (go_quiet (fail); try go_wp2)
                     go_loopg [79, 613] kj280 (fun kq v79 v613 w' => ∃ (x79_8 : ByteArray) (x613_8 : Int), v79 = .string x79_8 ∧ v613 = .int .i64 x613_8 ∧ Aside0 (laws_FnLinesSet.l1 kq t571 t572 x79_8 t573 (t573.length : Int) x613_8 = some r) ∧ Aside0 (kq ≤ kj280) ∧ Aside0 (Kd.R Kd.string 9 w' w.heap.size (fun _ => True) (.slice Ao287 t573.length co287) t573) ∧ Aside0 (Below w.heap.size w w'))
                     case atStart => exact ⟨((⟨#[]⟩ : ByteArray)), (0), rs_, rs_, H', ⟨Nat.le_refl _⟩, ⟨rr_ HO_63.out⟩, ⟨bw_⟩⟩
                     case round =>
                      clear H'
                      (try clear c1); (try clear c2); (try clear p2); (try clear c3); (try clear c4); (try clear c5); (try clear p5); (try clear q5); (try clear hx5); (try clear c6); (try clear p6); (try clear c7); (try clear c8); (try clear c12); (try clear c13); (try clear c14); (try clear c15); (try clear c16); (try clear c20); (try clear c21); (try clear c22); (try clear c25); (try clear c26); (try clear c27); (try clear c28); (try clear c33); (try clear c33b0); (try clear c33b1); (try clear c33b2); (try clear c35); (try clear c36); (try clear c36b0); (try clear c36b1); (try clear c36b2); (try clear c39); (try clear c39b0); (try clear c39b1); (try clear c40); (try clear c40b0); (try clear c40b1); (try clear c40b2); (try clear c43); (try clear c43b0); (try clear c43b1); (try clear c44); (try clear c44b0); (try clear c44b1); (try clear c44b2); (try clear c48); (try clear c49); (try clear c49b0); (try clear c49b1); (try clear c49b2); (try clear p53); (try clear q53); (try clear hx53); (try clear c54); (try clear c54b0); (try clear c54b1); (try clear c55); (try clear c55b0); (try clear c55b1); (try clear c55b2); (try clear c60); (try clear c60b0); (try clear c60b1); (try clear c61); (try clear c61b0); (try clear c61b1); (try clear c61b2); (try clear p64); (try clear c66); (try clear c66b0); (try clear c66b1); (try clear c66b2); (try clear c71); (try clear c71b0); (try clear c71b1); (try clear c71b2); (try clear c76); (try clear c76b0); (try clear c76b1); (try clear c76b2); (try clear c81); (try clear c81b0); (try clear c81b1); (try clear c81b2); (try clear c86); (try clear c88); (try clear c123); (try clear c125); (try clear c137); (try clear c137b0); (try clear c137b1); (try clear c139); (try clear c139b0); (try clear c139b1); (try clear c140); (try clear c140b0); (try clear c141); (try clear c142); (try clear c142b0); (try clear c143); (try clear c144); (try clear c144b0); (try clear c144b1); (try clear c145); (try clear c146); (try clear c146b0); (try clear c146b1); (try clear c147); (try clear c148); (try clear c148b0); (try clear c150); (try clear c150b0); (try clear c152); (try clear c152b0); (try clear c154); (try clear c154b0); (try clear c159); (try clear c160); (try clear c160b0); (try clear c161); (try clear c161b0); (try clear c162); (try clear c162b0); (try clear c163); (try clear c163b0); (try clear c164); (try clear c164b0); (try clear c165); (try clear c165b0); (try clear c167); (try clear c167b0); (try clear c168); (try clear c168b0); (try clear c205); (try clear c205b0); (try clear c205b1); (try clear c205b2); (try clear c206); (try clear c206b0); (try clear c206b1); (try clear c207); (try clear c207b0); (try clear c207b1); (try clear c207b2); (try clear c209); (try clear c210); (try clear c210b0); (try clear c210b1); (try clear c210b2); (try clear c213); (try clear c213b0); (try clear c213b1); (try clear c214); (try clear c214b0); (try clear c214b1); (try clear c214b2); (try clear c218); (try clear c219); (try clear c219b0); (try clear c219b1); (try clear c219b2); (try clear c225); (try clear c226); (try clear c253); (try clear c255); (try clear c257); (try clear c258); (try clear c258b0); (try clear c261); (try clear c265); (try clear c267); (try clear c271); (try clear c272); (try clear c273); (try clear c273b0); (try clear c275); (try clear c276); (try clear c276b0); (try clear c279); (try clear c284); (try clear c286); (try clear hx534_0); (try clear hx535_0); (try clear hx536_0); (try clear hx537_0); (try clear p534); (try clear p535); (try clear p536); (try clear p537); (try clear q534); (try clear q535); (try clear q536); (try clear q537)
                      obtain ⟨x79_8, x613_8, rfl, rfl, HA, HK8, HO_611, HB⟩ := hrel
                      cases gk with
                      | zero => exact absurd HA.out (by simp [laws_FnLinesSet.l1])
                      | succ k8 =>
                       have H := HA.out
                       clear HA
                       simp only [laws_FnLinesSet.l1] at H
                       by_cases c288 : x613_8 < (t573.length : Int)
                       ·rw [if_pos c288] at H
                        have c288b0 : decide (x613_8 < (t573.length : Int)) = true := decide_eq_true c288
                        clear c288
                        by_cases c289 : 0 ≤ x613_8
                        ·rw [if_pos c289] at H
                         have c289b0 : decide (0 ≤ x613_8) = true := decide_eq_true c289
                         clear c289
                         by_cases c290 : x613_8 < (t573.length : Int)
                         ·rw [if_pos c290] at H
                          have c290b0 : decide (x613_8 < (t573.length : Int)) = true := decide_eq_true c290
                          clear c290
                          by_cases c291 : x613_8 > 0
                          ·rw [if_pos c291] at H
                           have c291b0 : decide (0 < x613_8) = true := decide_eq_true c291
                           clear c291
                           by_cases c292 : x79_8.size + 1 ≤ 9223372036854775807
                           ·rw [if_pos c292] at H
                            have c292b0 := eq_true c292
                            have c292b1 : decide (x79_8.size + 1 ≤ 9223372036854775807) = true := decide_eq_true c292
                            try have c292b2 : (9223372036854775807 < x79_8.size + 1) = False := eq_false (Nat.not_lt.2 c292)
                            by_cases c293 : ((rdOf ByteArray.empty t573 x613_8).size : Int) > t572
                            ·rw [if_pos c293] at H
                             have c293b0 : decide (t572 < ((rdOf ByteArray.empty t573 x613_8).size : Int)) = true := decide_eq_true c293
                             clear c293
                             obtain rfl := Option.some.inj H
                             exact absurd hr_.out (by decide)
                            ·rw [if_neg c293] at H
                             have c293b0 : decide (t572 < ((rdOf ByteArray.empty t573 x613_8).size : Int)) = false := decide_eq_false c293
                             clear c293
                             by_cases c294 : (x79_8 ++ (⟨#[32]⟩ : ByteArray)).size + (rdOf ByteArray.empty t573 x613_8).size ≤ 9223372036854775807
                             ·rw [if_pos c294] at H
                              have c294b0 := eq_true c294
                              have c294b1 : decide ((x79_8 ++ (⟨#[32]⟩ : ByteArray)).size + (rdOf ByteArray.empty t573 x613_8).size ≤ 9223372036854775807) = true := decide_eq_true c294
                              try have c294b3 : (9223372036854775807 < x79_8.size + 1 + (rdOf ByteArray.empty t573 x613_8).size) = False := eq_false (by have h_ := c294; simp only [ByteArray.size_append] at h_; have z0_ : (⟨#[32]⟩ : ByteArray).size = 1 := rfl; omega)
                              try have c294b2 : (9223372036854775807 < (x79_8 ++ (⟨#[32]⟩ : ByteArray)).size + (rdOf ByteArray.empty t573 x613_8).size) = False := eq_false (Nat.not_lt.2 c294)
                              have H' := Aside0.mk H
                              clear H
                              have p602 : 0 ≤ (x613_8 : Int) := of_decide_eq_true (by first | (with_reducible assumption) | assumption)
                              have q602 : x613_8 < (t573.length : Int) := of_decide_eq_true (by first | (with_reducible assumption) | assumption)
                              obtain ⟨ad602, e602, hx602_0⟩ := Kd.at_string (Kd.R_reads' HO_611.out).2.2 x613_8 p602 q602
                              cases e602
                              replace p602 := eq_true p602
                              replace q602 := eq_true q602
                              go_wp2
                              repeat (go_quiet (fail); try go_wp2)
                              go_roundg k8
                              case measure => have := HJ17.out; have := HJ123.out; have := HJ184.out; have := HJ253.out; have := HJ259.out; have := HJ265.out; have := HJ280.out; have := HK8.out; omega
                              case rel => exact ⟨((x79_8 ++ (⟨#[32]⟩ : ByteArray)) ++ (rdOf ByteArray.empty t573 x613_8)), (wrap64 (x613_8 + 1)), rs_, rs_, H', ⟨by have := HJ17.out; have := HJ123.out; have := HJ184.out; have := HJ253.out; have := HJ259.out; have := HJ265.out; have := HJ280.out; have := HK8.out; omega⟩, ⟨rr_ HO_611.out⟩, ⟨bw_⟩⟩
                             ·rw [if_neg c294] at H
                              exact absurd H (by simp)
                           ·rw [if_neg c292] at H
                            exact absurd H (by simp)
                          ·rw [if_neg c291] at H
                           have c291b0 : decide (0 < x613_8) = false := decide_eq_false c291
                           clear c291
                           by_cases c295 : ((rdOf ByteArray.empty t573 x613_8).size : Int) > t572
                           ·rw [if_pos c295] at H
                            have c295b0 : decide (t572 < ((rdOf ByteArray.empty t573 x613_8).size : Int)) = true := decide_eq_true c295
                            clear c295
                            obtain rfl := Option.some.inj H
                            exact absurd hr_.out (by decide)
                           ·rw [if_neg c295] at H
                            have c295b0 : decide (t572 < ((rdOf ByteArray.empty t573 x613_8).size : Int)) = false := decide_eq_false c295
                            clear c295
                            by_cases c296 : x79_8.size + (rdOf ByteArray.empty t573 x613_8).size ≤ 9223372036854775807
                            ·rw [if_pos c296] at H
                             have c296b0 := eq_true c296
                             have c296b1 : decide (x79_8.size + (rdOf ByteArray.empty t573 x613_8).size ≤ 9223372036854775807) = true := decide_eq_true c296
                             try have c296b2 : (9223372036854775807 < x79_8.size + (rdOf ByteArray.empty t573 x613_8).size) = False := eq_false (Nat.not_lt.2 c296)
                             have H' := Aside0.mk H
                             clear H
                             have p602 : 0 ≤ (x613_8 : Int) := of_decide_eq_true (by first | (with_reducible assumption) | assumption)
                             have q602 : x613_8 < (t573.length : Int) := of_decide_eq_true (by first | (with_reducible assumption) | assumption)
                             obtain ⟨ad602, e602, hx602_0⟩ := Kd.at_string (Kd.R_reads' HO_611.out).2.2 x613_8 p602 q602
                             cases e602
                             replace p602 := eq_true p602
                             replace q602 := eq_true q602
                             go_wp2
                             repeat (go_quiet (fail); try go_wp2)
                             go_roundg k8
                             case measure => have := HJ17.out; have := HJ123.out; have := HJ184.out; have := HJ253.out; have := HJ259.out; have := HJ265.out; have := HJ280.out; have := HK8.out; omega
                             case rel => exact ⟨(x79_8 ++ (rdOf ByteArray.empty t573 x613_8)), (wrap64 (x613_8 + 1)), rs_, rs_, H', ⟨by have := HJ17.out; have := HJ123.out; have := HJ184.out; have := HJ253.out; have := HJ259.out; have := HJ265.out; have := HJ280.out; have := HK8.out; omega⟩, ⟨rr_ HO_611.out⟩, ⟨bw_⟩⟩
                            ·rw [if_neg c296] at H
                             exact absurd H (by simp)
                         ·rw [if_neg c290] at H
                          exact absurd H (by simp)
                        ·rw [if_neg c289] at H
                         exact absurd H (by simp)
                       ·rw [if_neg c288] at H
                        have c288b0 : decide (x613_8 < (t573.length : Int)) = false := decide_eq_false c288
                        clear c288
                        by_cases c297 : x79_8.toList = t571.toList
                        ·rw [if_pos c297] at H
                         have c297b0 : (x79_8.toList == t571.toList) = true := beq_iff_eq.mpr c297
                         have c297b1 : (x79_8.toList != t571.toList) = false := bne_eq_false_iff_eq.mpr c297
                         clear c297
                         obtain rfl := Option.some.inj H
                         simp only [Option.some.injEq, Prod.mk.injEq] at H
                         obtain ⟨rfl⟩ := H
                         go_wp2
                         repeat (go_quiet (fail); try go_wp2)
                         go_ret
                         exact ⟨by first | rfl | (simp [errW_none, errW_some] <;> rfl) | (simp [*, errW_none, errW_some] <;> rfl), bw_⟩
                        ·rw [if_neg c297] at H
                         have c297b0 : (x79_8.toList == t571.toList) = false := beq_eq_false_iff_ne.mpr c297
                         have c297b1 : (x79_8.toList != t571.toList) = true := bne_iff_ne.mpr c297
                         obtain rfl := Option.some.inj H
                         exact absurd hr_.out (by decide)
                 ·replace c279 := Bool.eq_false_iff.mpr c279
                  subst c279
                  have H1 : (some true) = some r := by rw [if_neg (show ¬ (false = true) by decide)] at H; exact H
                  clear H
                  have H := H1
                  clear H1
                  obtain rfl := Option.some.inj H
                  simp only [Option.some.injEq, Prod.mk.injEq] at H
                  obtain ⟨rfl⟩ := H
                  go_wp2
                  repeat (go_quiet (fail); try go_wp2)
                  go_ret
                  exact ⟨by first | rfl | (simp [errW_none, errW_some] <;> rfl) | (simp [*, errW_none, errW_some] <;> rfl), bw_⟩

end Go.Proofs.YtpedlkhfeoeogaaDoor.PFnLinesSet
