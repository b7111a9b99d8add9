-- Printed by a program of this repository (wip/xprint.py), over contracts of its own for what the kit's print does not take. Lean checks it.
import Derived.Test.YtpedlkhfeoeogaaGreatDoorPFnChaptersBeginx0
import Derived.Test.YtpedlkhfeoeogaaGreatDoorPFnChaptersBeginx1
import Derived.Test.YtpedlkhfeoeogaaGreatDoorPFnChaptersBeginx2
import Derived.Test.YtpedlkhfeoeogaaGreatDoorPFnChaptersBeginx3
import Derived.Test.YtpedlkhfeoeogaaGreatDoorPFnChaptersBeginx4
import Derived.Test.YtpedlkhfeoeogaaGreatDoorPFnChaptersBeginx5
import Derived.Test.YtpedlkhfeoeogaaGreatDoorPFnChaptersBeginx6
import Derived.Test.YtpedlkhfeoeogaaGreatDoorPFnChaptersBeginx7
import Derived.Test.YtpedlkhfeoeogaaGreatDoorPFnChaptersBeginx8
import Derived.Test.YtpedlkhfeoeogaaGreatDoorPFnChaptersBeginx9
import Derived.Test.YtpedlkhfeoeogaaGreatDoorPFnChaptersBeginx10
import Derived.Test.YtpedlkhfeoeogaaGreatDoorPFnChaptersBeginx22
namespace Go.Proofs.YtpedlkhfeoeogaaGreatDoor.PFnChaptersBegin
open Go.RowKit Go.Proofs.YtpedlkhfeoeogaaGreatDoorW.PrintWords Go.Proofs.YtpedlkhfeoeogaaGreatDoorW.PrintLast Go.Proofs.YtpedlkhfeoeogaaGreatDoorW.PrintMore
attribute [local go_sem] max2_int min2_int max_two min_two max_three min_three max_four min_four   -- for this text's walks alone
set_option linter.unusedVariables false
set_option linter.unusedSimpArgs false

set_option maxHeartbeats 400000000 in
set_option maxRecDepth 100000 in
theorem laws_FnChaptersBegin.calls (k : Nat) (A0 : Option Addr) (c0 : Nat) (l0 : List Int) (A1 : Option Addr) (c1 : Nat) (l1 : List Int) (r : Bool) (w : World) (hr0 : Kd.C (Kd.int .u8) w A0 l0.length l0) (hc0 : l0.length ≤ c0) (hr1 : Kd.C (Kd.int .u8) w A1 l1.length l1) (hc1 : l1.length ≤ c1) (hT : TabC w) (hr_ : Aside0 (r = true)) (h : laws_FnChaptersBegin.f k l0 l1 = some r) :
  Calls Tryz.prog 3 #[.slice A0 l0.length c0, .slice A1 l1.length c1] w fun e w' => e = .returned (.bool r) ∧ Below w.heap.size w w' := by
 have HR0 := Aside0.mk hr0
 have HC0 := Aside0.mk hc0
 clear hr0 hc0
 have HR1 := Aside0.mk hr1
 have HC1 := Aside0.mk hc1
 clear hr1 hc1
 have HB := Aside0.mk (Below.refl w.heap.size w)
 have HT := Aside0.mk hT
 clear hT
 have H : ((laws_big.f l0 l1).bind fun t423 => (if t423 = true then (some true) else ((spec_DrawBeginningsOf.f k l0).bind fun bt424 => ((impl_BeginningsOf.f k bt424.1 bt424.2).bind fun bt428 => ((spec_BeginningsOf.f k bt424.1 bt424.2).bind fun bt432 => ((impl_BlanksOf.f k bt424.1 bt424.2).bind fun bt436 => ((spec_BlanksOf.f k bt424.1 bt424.2).bind fun bt440 => ((impl_PagesOfChapters.f k bt424.1 bt424.2).bind fun bt444 => ((spec_PagesOfChapters.f k bt424.1 bt424.2).bind fun bt446 => ((impl_FewestBlanks.f k bt424.1).bind fun bt448 => ((spec_FewestBlanks.f k bt424.1).bind fun bt450 => ((impl_FirstFewestBlanks.f k bt424.1).bind fun bt452 => ((spec_FirstFewestBlanks.f k bt424.1).bind fun bt456 => ((impl_CountFewestBlanks.f k bt424.1).bind fun bt460 => ((spec_CountFewestBlanks.f k bt424.1).bind fun bt462 => ((impl_ChaptersText.f k bt424.1).bind fun bt464 => ((spec_ChaptersText.f k bt424.1).bind fun bt466 => ((impl_LongestChapter.f k bt424.1).bind fun bt468 => ((spec_LongestChapter.f k bt424.1).bind fun bt471 => (if (bt428.2 != bt432.2) = true then (laws_FnChaptersBegin.j0 k l1 bt424.1 bt424.2 bt428.1 bt428.2 bt436.1 bt444.1 bt448.1 bt452.1 bt460.1 bt464.1 bt468.1 bt468.2.1 true) else ((laws_xSame.f k bt428.1 bt432.1).bind fun t474 => (if t474 = true then (if (bt436.2 != bt440.2) = true then (laws_FnChaptersBegin.j0 k l1 bt424.1 bt424.2 bt428.1 bt428.2 bt436.1 bt444.1 bt448.1 bt452.1 bt460.1 bt464.1 bt468.1 bt468.2.1 true) else ((laws_xSame.f k bt436.1 bt440.1).bind fun t475 => (if t475 = true then (if (bt444.2 != bt446.2) = true then (laws_FnChaptersBegin.j0 k l1 bt424.1 bt424.2 bt428.1 bt428.2 bt436.1 bt444.1 bt448.1 bt452.1 bt460.1 bt464.1 bt468.1 bt468.2.1 true) else (if bt444.1 = bt446.1 then (if (bt448.2 != bt450.2) = true then (laws_FnChaptersBegin.j0 k l1 bt424.1 bt424.2 bt428.1 bt428.2 bt436.1 bt444.1 bt448.1 bt452.1 bt460.1 bt464.1 bt468.1 bt468.2.1 true) else (if bt448.1 = bt450.1 then (if (bt452.2 != bt456.2) = true then (laws_FnChaptersBegin.j0 k l1 bt424.1 bt424.2 bt428.1 bt428.2 bt436.1 bt444.1 bt448.1 bt452.1 bt460.1 bt464.1 bt468.1 bt468.2.1 true) else ((laws_xSame.f k bt452.1 bt456.1).bind fun t476 => (if t476 = true then (if (bt460.2 != bt462.2) = true then (laws_FnChaptersBegin.j0 k l1 bt424.1 bt424.2 bt428.1 bt428.2 bt436.1 bt444.1 bt448.1 bt452.1 bt460.1 bt464.1 bt468.1 bt468.2.1 true) else (if bt460.1 = bt462.1 then (if (bt464.2 != bt466.2) = true then (laws_FnChaptersBegin.j0 k l1 bt424.1 bt424.2 bt428.1 bt428.2 bt436.1 bt444.1 bt448.1 bt452.1 bt460.1 bt464.1 bt468.1 bt468.2.1 true) else (if bt464.1.toList = bt466.1.toList then (if (bt468.2.2 != bt471.2.2) = true then (laws_FnChaptersBegin.j0 k l1 bt424.1 bt424.2 bt428.1 bt428.2 bt436.1 bt444.1 bt448.1 bt452.1 bt460.1 bt464.1 bt468.1 bt468.2.1 true) else (if bt468.1 = bt471.1 then (if bt468.2.1 = bt471.2.1 then ((impl_AreChapters.f k bt424.1).bind fun t477 => (if (bt428.2 != t477) = true then (laws_FnChaptersBegin.j0 k l1 bt424.1 bt424.2 bt428.1 bt428.2 bt436.1 bt444.1 bt448.1 bt452.1 bt460.1 bt464.1 bt468.1 bt468.2.1 true) else ((impl_AreChapters.f k bt424.1).bind fun t478 => ((spec_AreChapters.f k bt424.1).bind fun t479 => (if (t478 != t479) = true then (laws_FnChaptersBegin.j0 k l1 bt424.1 bt424.2 bt428.1 bt428.2 bt436.1 bt444.1 bt448.1 bt452.1 bt460.1 bt464.1 bt468.1 bt468.2.1 true) else (if (bt436.2 != bt428.2) = true then (laws_FnChaptersBegin.j0 k l1 bt424.1 bt424.2 bt428.1 bt428.2 bt436.1 bt444.1 bt448.1 bt452.1 bt460.1 bt464.1 bt468.1 bt468.2.1 true) else (if (bt444.2 != bt428.2) = true then (laws_FnChaptersBegin.j0 k l1 bt424.1 bt424.2 bt428.1 bt428.2 bt436.1 bt444.1 bt448.1 bt452.1 bt460.1 bt464.1 bt468.1 bt468.2.1 true) else (if (bt448.2 != bt428.2) = true then (laws_FnChaptersBegin.j0 k l1 bt424.1 bt424.2 bt428.1 bt428.2 bt436.1 bt444.1 bt448.1 bt452.1 bt460.1 bt464.1 bt468.1 bt468.2.1 true) else (if (bt452.2 != bt428.2) = true then (laws_FnChaptersBegin.j0 k l1 bt424.1 bt424.2 bt428.1 bt428.2 bt436.1 bt444.1 bt448.1 bt452.1 bt460.1 bt464.1 bt468.1 bt468.2.1 true) else (if (bt460.2 != bt428.2) = true then (laws_FnChaptersBegin.j0 k l1 bt424.1 bt424.2 bt428.1 bt428.2 bt436.1 bt444.1 bt448.1 bt452.1 bt460.1 bt464.1 bt468.1 bt468.2.1 true) else (if (bt464.2 != bt428.2) = true then (laws_FnChaptersBegin.j0 k l1 bt424.1 bt424.2 bt428.1 bt428.2 bt436.1 bt444.1 bt448.1 bt452.1 bt460.1 bt464.1 bt468.1 bt468.2.1 true) else (laws_FnChaptersBegin.j0 k l1 bt424.1 bt424.2 bt428.1 bt428.2 bt436.1 bt444.1 bt448.1 bt452.1 bt460.1 bt464.1 bt468.1 bt468.2.1 (bt468.2.2 != bt428.2))))))))))))) else (laws_FnChaptersBegin.j0 k l1 bt424.1 bt424.2 bt428.1 bt428.2 bt436.1 bt444.1 bt448.1 bt452.1 bt460.1 bt464.1 bt468.1 bt468.2.1 true)) else (laws_FnChaptersBegin.j0 k l1 bt424.1 bt424.2 bt428.1 bt428.2 bt436.1 bt444.1 bt448.1 bt452.1 bt460.1 bt464.1 bt468.1 bt468.2.1 true))) else (laws_FnChaptersBegin.j0 k l1 bt424.1 bt424.2 bt428.1 bt428.2 bt436.1 bt444.1 bt448.1 bt452.1 bt460.1 bt464.1 bt468.1 bt468.2.1 true))) else (laws_FnChaptersBegin.j0 k l1 bt424.1 bt424.2 bt428.1 bt428.2 bt436.1 bt444.1 bt448.1 bt452.1 bt460.1 bt464.1 bt468.1 bt468.2.1 true))) else (laws_FnChaptersBegin.j0 k l1 bt424.1 bt424.2 bt428.1 bt428.2 bt436.1 bt444.1 bt448.1 bt452.1 bt460.1 bt464.1 bt468.1 bt468.2.1 true)))) else (laws_FnChaptersBegin.j0 k l1 bt424.1 bt424.2 bt428.1 bt428.2 bt436.1 bt444.1 bt448.1 bt452.1 bt460.1 bt464.1 bt468.1 bt468.2.1 true))) else (laws_FnChaptersBegin.j0 k l1 bt424.1 bt424.2 bt428.1 bt428.2 bt436.1 bt444.1 bt448.1 bt452.1 bt460.1 bt464.1 bt468.1 bt468.2.1 true))) else (laws_FnChaptersBegin.j0 k l1 bt424.1 bt424.2 bt428.1 bt428.2 bt436.1 bt444.1 bt448.1 bt452.1 bt460.1 bt464.1 bt468.1 bt468.2.1 true)))) else (laws_FnChaptersBegin.j0 k l1 bt424.1 bt424.2 bt428.1 bt428.2 bt436.1 bt444.1 bt448.1 bt452.1 bt460.1 bt464.1 bt468.1 bt468.2.1 true))))))))))))))))))))))) = some r := h
 clear h
 replace H := Option.bind_eq_some_iff.mp H
 obtain ⟨t423, A30, H⟩ := H
 (try dsimp only at H)
 have A3 := Aside0.mk A30
 clear A30
 by_cases c4 : t423 = true
 ·subst c4
  have H1 : (some true) = some r := by rw [if_pos rfl] at H; exact H
  clear H
  have H := H1
  clear H1
  obtain rfl := Option.some.inj H
  simp only [Option.some.injEq, Prod.mk.injEq] at H
  obtain ⟨rfl⟩ := H
  go_enter Tryz.func3, Tryz.ntmps3
  go_wp2_with (first | (go_at_call 4; (with_reducible refine (laws_big.calls _ _ l0 _ _ l1 true _ ?side1 ?side2 ?side3 ?side4 A3.out).mono ?_); (case side1 => exact cr_ HR0.out); (case side2 => exact HC0.out); (case side3 => exact cr_ HR1.out); (case side4 => exact HC1.out); rintro e w' ⟨rfl, ⟨nd, rfl⟩⟩; (try exact dd_)))
  repeat (go_quiet (first | (go_at_call 4; (with_reducible refine (laws_big.calls _ _ l0 _ _ l1 true _ ?side1 ?side2 ?side3 ?side4 A3.out).mono ?_); (case side1 => exact cr_ HR0.out); (case side2 => exact HC0.out); (case side3 => exact cr_ HR1.out); (case side4 => exact HC1.out); rintro e w' ⟨rfl, ⟨nd, rfl⟩⟩; (try exact dd_))); try go_wp2)
  go_ret
  exact ⟨by first | rfl | (simp [errW_none, errW_some] <;> rfl) | (simp [*, errW_none, errW_some] <;> rfl), bw_⟩
 ·replace c4 := Bool.eq_false_iff.mpr c4
  subst c4
  have H1 : ((spec_DrawBeginningsOf.f k l0).bind fun bt424 => ((impl_BeginningsOf.f k bt424.1 bt424.2).bind fun bt428 => ((spec_BeginningsOf.f k bt424.1 bt424.2).bind fun bt432 => ((impl_BlanksOf.f k bt424.1 bt424.2).bind fun bt436 => ((spec_BlanksOf.f k bt424.1 bt424.2).bind fun bt440 => ((impl_PagesOfChapters.f k bt424.1 bt424.2).bind fun bt444 => ((spec_PagesOfChapters.f k bt424.1 bt424.2).bind fun bt446 => ((impl_FewestBlanks.f k bt424.1).bind fun bt448 => ((spec_FewestBlanks.f k bt424.1).bind fun bt450 => ((impl_FirstFewestBlanks.f k bt424.1).bind fun bt452 => ((spec_FirstFewestBlanks.f k bt424.1).bind fun bt456 => ((impl_CountFewestBlanks.f k bt424.1).bind fun bt460 => ((spec_CountFewestBlanks.f k bt424.1).bind fun bt462 => ((impl_ChaptersText.f k bt424.1).bind fun bt464 => ((spec_ChaptersText.f k bt424.1).bind fun bt466 => ((impl_LongestChapter.f k bt424.1).bind fun bt468 => ((spec_LongestChapter.f k bt424.1).bind fun bt471 => (if (bt428.2 != bt432.2) = true then (laws_FnChaptersBegin.j0 k l1 bt424.1 bt424.2 bt428.1 bt428.2 bt436.1 bt444.1 bt448.1 bt452.1 bt460.1 bt464.1 bt468.1 bt468.2.1 true) else ((laws_xSame.f k bt428.1 bt432.1).bind fun t474 => (if t474 = true then (if (bt436.2 != bt440.2) = true then (laws_FnChaptersBegin.j0 k l1 bt424.1 bt424.2 bt428.1 bt428.2 bt436.1 bt444.1 bt448.1 bt452.1 bt460.1 bt464.1 bt468.1 bt468.2.1 true) else ((laws_xSame.f k bt436.1 bt440.1).bind fun t475 => (if t475 = true then (if (bt444.2 != bt446.2) = true then (laws_FnChaptersBegin.j0 k l1 bt424.1 bt424.2 bt428.1 bt428.2 bt436.1 bt444.1 bt448.1 bt452.1 bt460.1 bt464.1 bt468.1 bt468.2.1 true) else (if bt444.1 = bt446.1 then (if (bt448.2 != bt450.2) = true then (laws_FnChaptersBegin.j0 k l1 bt424.1 bt424.2 bt428.1 bt428.2 bt436.1 bt444.1 bt448.1 bt452.1 bt460.1 bt464.1 bt468.1 bt468.2.1 true) else (if bt448.1 = bt450.1 then (if (bt452.2 != bt456.2) = true then (laws_FnChaptersBegin.j0 k l1 bt424.1 bt424.2 bt428.1 bt428.2 bt436.1 bt444.1 bt448.1 bt452.1 bt460.1 bt464.1 bt468.1 bt468.2.1 true) else ((laws_xSame.f k bt452.1 bt456.1).bind fun t476 => (if t476 = true then (if (bt460.2 != bt462.2) = true then (laws_FnChaptersBegin.j0 k l1 bt424.1 bt424.2 bt428.1 bt428.2 bt436.1 bt444.1 bt448.1 bt452.1 bt460.1 bt464.1 bt468.1 bt468.2.1 true) else (if bt460.1 = bt462.1 then (if (bt464.2 != bt466.2) = true then (laws_FnChaptersBegin.j0 k l1 bt424.1 bt424.2 bt428.1 bt428.2 bt436.1 bt444.1 bt448.1 bt452.1 bt460.1 bt464.1 bt468.1 bt468.2.1 true) else (if bt464.1.toList = bt466.1.toList then (if (bt468.2.2 != bt471.2.2) = true then (laws_FnChaptersBegin.j0 k l1 bt424.1 bt424.2 bt428.1 bt428.2 bt436.1 bt444.1 bt448.1 bt452.1 bt460.1 bt464.1 bt468.1 bt468.2.1 true) else (if bt468.1 = bt471.1 then (if bt468.2.1 = bt471.2.1 then ((impl_AreChapters.f k bt424.1).bind fun t477 => (if (bt428.2 != t477) = true then (laws_FnChaptersBegin.j0 k l1 bt424.1 bt424.2 bt428.1 bt428.2 bt436.1 bt444.1 bt448.1 bt452.1 bt460.1 bt464.1 bt468.1 bt468.2.1 true) else ((impl_AreChapters.f k bt424.1).bind fun t478 => ((spec_AreChapters.f k bt424.1).bind fun t479 => (if (t478 != t479) = true then (laws_FnChaptersBegin.j0 k l1 bt424.1 bt424.2 bt428.1 bt428.2 bt436.1 bt444.1 bt448.1 bt452.1 bt460.1 bt464.1 bt468.1 bt468.2.1 true) else (if (bt436.2 != bt428.2) = true then (laws_FnChaptersBegin.j0 k l1 bt424.1 bt424.2 bt428.1 bt428.2 bt436.1 bt444.1 bt448.1 bt452.1 bt460.1 bt464.1 bt468.1 bt468.2.1 true) else (if (bt444.2 != bt428.2) = true then (laws_FnChaptersBegin.j0 k l1 bt424.1 bt424.2 bt428.1 bt428.2 bt436.1 bt444.1 bt448.1 bt452.1 bt460.1 bt464.1 bt468.1 bt468.2.1 true) else (if (bt448.2 != bt428.2) = true then (laws_FnChaptersBegin.j0 k l1 bt424.1 bt424.2 bt428.1 bt428.2 bt436.1 bt444.1 bt448.1 bt452.1 bt460.1 bt464.1 bt468.1 bt468.2.1 true) else (if (bt452.2 != bt428.2) = true then (laws_FnChaptersBegin.j0 k l1 bt424.1 bt424.2 bt428.1 bt428.2 bt436.1 bt444.1 bt448.1 bt452.1 bt460.1 bt464.1 bt468.1 bt468.2.1 true) else (if (bt460.2 != bt428.2) = true then (laws_FnChaptersBegin.j0 k l1 bt424.1 bt424.2 bt428.1 bt428.2 bt436.1 bt444.1 bt448.1 bt452.1 bt460.1 bt464.1 bt468.1 bt468.2.1 true) else (if (bt464.2 != bt428.2) = true then (laws_FnChaptersBegin.j0 k l1 bt424.1 bt424.2 bt428.1 bt428.2 bt436.1 bt444.1 bt448.1 bt452.1 bt460.1 bt464.1 bt468.1 bt468.2.1 true) else (laws_FnChaptersBegin.j0 k l1 bt424.1 bt424.2 bt428.1 bt428.2 bt436.1 bt444.1 bt448.1 bt452.1 bt460.1 bt464.1 bt468.1 bt468.2.1 (bt468.2.2 != bt428.2))))))))))))) else (laws_FnChaptersBegin.j0 k l1 bt424.1 bt424.2 bt428.1 bt428.2 bt436.1 bt444.1 bt448.1 bt452.1 bt460.1 bt464.1 bt468.1 bt468.2.1 true)) else (laws_FnChaptersBegin.j0 k l1 bt424.1 bt424.2 bt428.1 bt428.2 bt436.1 bt444.1 bt448.1 bt452.1 bt460.1 bt464.1 bt468.1 bt468.2.1 true))) else (laws_FnChaptersBegin.j0 k l1 bt424.1 bt424.2 bt428.1 bt428.2 bt436.1 bt444.1 bt448.1 bt452.1 bt460.1 bt464.1 bt468.1 bt468.2.1 true))) else (laws_FnChaptersBegin.j0 k l1 bt424.1 bt424.2 bt428.1 bt428.2 bt436.1 bt444.1 bt448.1 bt452.1 bt460.1 bt464.1 bt468.1 bt468.2.1 true))) else (laws_FnChaptersBegin.j0 k l1 bt424.1 bt424.2 bt428.1 bt428.2 bt436.1 bt444.1 bt448.1 bt452.1 bt460.1 bt464.1 bt468.1 bt468.2.1 true)))) else (laws_FnChaptersBegin.j0 k l1 bt424.1 bt424.2 bt428.1 bt428.2 bt436.1 bt444.1 bt448.1 bt452.1 bt460.1 bt464.1 bt468.1 bt468.2.1 true))) else (laws_FnChaptersBegin.j0 k l1 bt424.1 bt424.2 bt428.1 bt428.2 bt436.1 bt444.1 bt448.1 bt452.1 bt460.1 bt464.1 bt468.1 bt468.2.1 true))) else (laws_FnChaptersBegin.j0 k l1 bt424.1 bt424.2 bt428.1 bt428.2 bt436.1 bt444.1 bt448.1 bt452.1 bt460.1 bt464.1 bt468.1 bt468.2.1 true)))) else (laws_FnChaptersBegin.j0 k l1 bt424.1 bt424.2 bt428.1 bt428.2 bt436.1 bt444.1 bt448.1 bt452.1 bt460.1 bt464.1 bt468.1 bt468.2.1 true))))))))))))))))))))) = some r := by rw [if_neg (show ¬ (false = true) by decide)] at H; exact H
  clear H
  have H := H1
  clear H1
  replace H := Option.bind_eq_some_iff.mp H
  obtain ⟨⟨t424, t425⟩, A50, H⟩ := H
  (try dsimp only at H)
  have A5 := Aside0.mk A50
  clear A50
  replace H := Option.bind_eq_some_iff.mp H
  obtain ⟨⟨t428, t429⟩, A60, H⟩ := H
  (try dsimp only at H)
  have A6 := Aside0.mk A60
  clear A60
  replace H := Option.bind_eq_some_iff.mp H
  obtain ⟨⟨t432, t433⟩, A70, H⟩ := H
  (try dsimp only at H)
  have A7 := Aside0.mk A70
  clear A70
  replace H := Option.bind_eq_some_iff.mp H
  obtain ⟨⟨t436, t437⟩, A80, H⟩ := H
  (try dsimp only at H)
  have A8 := Aside0.mk A80
  clear A80
  replace H := Option.bind_eq_some_iff.mp H
  obtain ⟨⟨t440, t441⟩, A90, H⟩ := H
  (try dsimp only at H)
  have A9 := Aside0.mk A90
  clear A90
  replace H := Option.bind_eq_some_iff.mp H
  obtain ⟨⟨t444, t445⟩, A100, H⟩ := H
  (try dsimp only at H)
  have A10 := Aside0.mk A100
  clear A100
  replace H := Option.bind_eq_some_iff.mp H
  obtain ⟨⟨t446, t447⟩, A110, H⟩ := H
  (try dsimp only at H)
  have A11 := Aside0.mk A110
  clear A110
  replace H := Option.bind_eq_some_iff.mp H
  obtain ⟨⟨t448, t449⟩, A120, H⟩ := H
  (try dsimp only at H)
  have A12 := Aside0.mk A120
  clear A120
  replace H := Option.bind_eq_some_iff.mp H
  obtain ⟨⟨t450, t451⟩, A130, H⟩ := H
  (try dsimp only at H)
  have A13 := Aside0.mk A130
  clear A130
  replace H := Option.bind_eq_some_iff.mp H
  obtain ⟨⟨t452, t453⟩, A140, H⟩ := H
  (try dsimp only at H)
  have A14 := Aside0.mk A140
  clear A140
  replace H := Option.bind_eq_some_iff.mp H
  obtain ⟨⟨t456, t457⟩, A150, H⟩ := H
  (try dsimp only at H)
  have A15 := Aside0.mk A150
  clear A150
  replace H := Option.bind_eq_some_iff.mp H
  obtain ⟨⟨t460, t461⟩, A160, H⟩ := H
  (try dsimp only at H)
  have A16 := Aside0.mk A160
  clear A160
  replace H := Option.bind_eq_some_iff.mp H
  obtain ⟨⟨t462, t463⟩, A170, H⟩ := H
  (try dsimp only at H)
  have A17 := Aside0.mk A170
  clear A170
  replace H := Option.bind_eq_some_iff.mp H
  obtain ⟨⟨t464, t465⟩, A180, H⟩ := H
  (try dsimp only at H)
  have A18 := Aside0.mk A180
  clear A180
  replace H := Option.bind_eq_some_iff.mp H
  obtain ⟨⟨t466, t467⟩, A190, H⟩ := H
  (try dsimp only at H)
  have A19 := Aside0.mk A190
  clear A190
  replace H := Option.bind_eq_some_iff.mp H
  obtain ⟨⟨t468, t469, t470⟩, A200, H⟩ := H
  (try dsimp only at H)
  have A20 := Aside0.mk A200
  clear A200
  replace H := Option.bind_eq_some_iff.mp H
  obtain ⟨⟨t471, t472, t473⟩, A210, H⟩ := H
  (try dsimp only at H)
  have A21 := Aside0.mk A210
  clear A210
  have HC22 := Aside0.mk H
  clear H
  go_enter Tryz.func3, Tryz.ntmps3
  go_upto_region 20 with (first | (go_at_call 4; (with_reducible refine (laws_big.calls _ _ l0 _ _ l1 false _ ?side1 ?side2 ?side3 ?side4 A3.out).mono ?_); (case side1 => exact cr_ HR0.out); (case side2 => exact HC0.out); (case side3 => exact cr_ HR1.out); (case side4 => exact HC1.out); rintro e w' ⟨rfl, ⟨nd, rfl⟩⟩; (try exact dd_)) | (go_at_call 5; (with_reducible refine (spec_DrawBeginningsOf.calls k _ _ l0 t424 t425 _ ?side1 ?side2 A5.out).mono ?_); (case side1 => exact cr_ HR0.out); (case side2 => exact HC0.out); rintro e w23 ⟨v426, rfl, ho0, hb⟩; have n0_ := Aside0.mk (Kd.R_lower ho0 (below_size bw_)); have n1_ := Aside0.mk (below_step bw_ hb); clear HB; have HO427 := n0_; have HB := n1_; clear n0_ n1_; (try clear hb); (try clear hb2); (try clear hk); (try clear hi); (try clear ho0); obtain ⟨Ao24, co24, eo24⟩ := Kd.R_slice HO427.out; subst eo24) | (go_at_call 6; (with_reducible refine (impl_BeginningsOf.calls k _ _ t424 t425 t428 t429 _ ?side1 ?side2 A6.out).mono ?_); (case side1 => exact cr_ (Kd.R_reads' HO427.out).2.2); (case side2 => exact (Kd.R_reads' HO427.out).2.1); rintro e w25 ⟨v430, rfl, ho0, hb⟩; have n0_ := Aside0.mk (Kd.R_elder' (rr_ HO427.out) (Kd.R_base ho0) hb); have n1_ := Aside0.mk (Kd.R_lower (Kd.R_new' ho0 (Kd.R_lt (rr_ HO427.out))) (below_size bw_)); have n2_ := Aside0.mk (below_step bw_ hb); clear HO427; clear HB; have HO427 := n0_; have HO431 := n1_; have HB := n2_; clear n0_ n1_ n2_; (try clear hb); (try clear hb2); (try clear hk); (try clear hi); (try clear ho0)) | (go_at_call 7; (with_reducible refine (spec_BeginningsOf.calls k _ _ t424 t425 t432 t433 _ ?side1 ?side2 A7.out).mono ?_); (case side1 => exact cr_ (Kd.R_reads' HO427.out).2.2); (case side2 => exact (Kd.R_reads' HO427.out).2.1); rintro e w26 ⟨v434, rfl, ho0, hb⟩; have n0_ := Aside0.mk (Kd.R_elder' (rr_ HO427.out) (Kd.R_base ho0) hb); have n1_ := Aside0.mk (Kd.R_elder' (rr_ HO431.out) (Kd.R_base ho0) hb); have n2_ := Aside0.mk (Kd.R_lower (Kd.R_new' (Kd.R_new' ho0 (Kd.R_lt (rr_ HO427.out))) (Kd.R_lt (rr_ HO431.out))) (below_size bw_)); have n3_ := Aside0.mk (below_step bw_ hb); clear HO427; clear HO431; clear HB; have HO427 := n0_; have HO431 := n1_; have HO435 := n2_; have HB := n3_; clear n0_ n1_ n2_ n3_; (try clear hb); (try clear hb2); (try clear hk); (try clear hi); (try clear ho0)) | (go_at_call 8; (with_reducible refine (impl_BlanksOf.calls k _ _ t424 t425 t436 t437 _ ?side1 ?side2 A8.out).mono ?_); (case side1 => exact cr_ (Kd.R_reads' HO427.out).2.2); (case side2 => exact (Kd.R_reads' HO427.out).2.1); rintro e w27 ⟨v438, rfl, ho0, hb⟩; have n0_ := Aside0.mk (Kd.R_elder' (rr_ HO427.out) (Kd.R_base ho0) hb); have n1_ := Aside0.mk (Kd.R_elder' (rr_ HO431.out) (Kd.R_base ho0) hb); have n2_ := Aside0.mk (Kd.R_elder' (rr_ HO435.out) (Kd.R_base ho0) hb); have n3_ := Aside0.mk (Kd.R_lower (Kd.R_new' (Kd.R_new' (Kd.R_new' ho0 (Kd.R_lt (rr_ HO427.out))) (Kd.R_lt (rr_ HO431.out))) (Kd.R_lt (rr_ HO435.out))) (below_size bw_)); have n4_ := Aside0.mk (below_step bw_ hb); clear HO427; clear HO431; clear HO435; clear HB; have HO427 := n0_; have HO431 := n1_; have HO435 := n2_; have HO439 := n3_; have HB := n4_; clear n0_ n1_ n2_ n3_ n4_; (try clear hb); (try clear hb2); (try clear hk); (try clear hi); (try clear ho0)) | (go_at_call 9; (with_reducible refine (spec_BlanksOf.calls k _ _ t424 t425 t440 t441 _ ?side1 ?side2 A9.out).mono ?_); (case side1 => exact cr_ (Kd.R_reads' HO427.out).2.2); (case side2 => exact (Kd.R_reads' HO427.out).2.1); rintro e w28 ⟨v442, rfl, ho0, hb⟩; have n0_ := Aside0.mk (Kd.R_elder' (rr_ HO427.out) (Kd.R_base ho0) hb); have n1_ := Aside0.mk (Kd.R_elder' (rr_ HO431.out) (Kd.R_base ho0) hb); have n2_ := Aside0.mk (Kd.R_elder' (rr_ HO435.out) (Kd.R_base ho0) hb); have n3_ := Aside0.mk (Kd.R_elder' (rr_ HO439.out) (Kd.R_base ho0) hb); have n4_ := Aside0.mk (Kd.R_lower (Kd.R_new' (Kd.R_new' (Kd.R_new' (Kd.R_new' ho0 (Kd.R_lt (rr_ HO427.out))) (Kd.R_lt (rr_ HO431.out))) (Kd.R_lt (rr_ HO435.out))) (Kd.R_lt (rr_ HO439.out))) (below_size bw_)); have n5_ := Aside0.mk (below_step bw_ hb); clear HO427; clear HO431; clear HO435; clear HO439; clear HB; have HO427 := n0_; have HO431 := n1_; have HO435 := n2_; have HO439 := n3_; have HO443 := n4_; have HB := n5_; clear n0_ n1_ n2_ n3_ n4_ n5_; (try clear hb); (try clear hb2); (try clear hk); (try clear hi); (try clear ho0)) | (go_at_call 10; (with_reducible refine (impl_PagesOfChapters.calls k _ _ t424 t425 t444 t445 _ ?side1 ?side2 A10.out).mono ?_); (case side1 => exact cr_ (Kd.R_reads' HO427.out).2.2); (case side2 => exact (Kd.R_reads' HO427.out).2.1); rintro e w29 ⟨rfl, hb⟩; have n0_ := Aside0.mk (Kd.R_below (rr_ HO427.out) hb); have n1_ := Aside0.mk (Kd.R_below (rr_ HO431.out) hb); have n2_ := Aside0.mk (Kd.R_below (rr_ HO435.out) hb); have n3_ := Aside0.mk (Kd.R_below (rr_ HO439.out) hb); have n4_ := Aside0.mk (Kd.R_below (rr_ HO443.out) hb); have n5_ := Aside0.mk (below_step bw_ hb); clear HO427; clear HO431; clear HO435; clear HO439; clear HO443; clear HB; have HO427 := n0_; have HO431 := n1_; have HO435 := n2_; have HO439 := n3_; have HO443 := n4_; have HB := n5_; clear n0_ n1_ n2_ n3_ n4_ n5_; (try clear hb); (try clear hb2); (try clear hk); (try clear hi)) | (go_at_call 11; (with_reducible refine (spec_PagesOfChapters.calls k _ _ t424 t425 t446 t447 _ ?side1 ?side2 A11.out).mono ?_); (case side1 => exact cr_ (Kd.R_reads' HO427.out).2.2); (case side2 => exact (Kd.R_reads' HO427.out).2.1); rintro e w30 ⟨rfl, hb⟩; have n0_ := Aside0.mk (Kd.R_below (rr_ HO427.out) hb); have n1_ := Aside0.mk (Kd.R_below (rr_ HO431.out) hb); have n2_ := Aside0.mk (Kd.R_below (rr_ HO435.out) hb); have n3_ := Aside0.mk (Kd.R_below (rr_ HO439.out) hb); have n4_ := Aside0.mk (Kd.R_below (rr_ HO443.out) hb); have n5_ := Aside0.mk (below_step bw_ hb); clear HO427; clear HO431; clear HO435; clear HO439; clear HO443; clear HB; have HO427 := n0_; have HO431 := n1_; have HO435 := n2_; have HO439 := n3_; have HO443 := n4_; have HB := n5_; clear n0_ n1_ n2_ n3_ n4_ n5_; (try clear hb); (try clear hb2); (try clear hk); (try clear hi)) | (go_at_call 12; (with_reducible refine (impl_FewestBlanks.calls k _ _ t424 t448 t449 _ ?side1 ?side2 A12.out).mono ?_); (case side1 => exact cr_ (Kd.R_reads' HO427.out).2.2); (case side2 => exact (Kd.R_reads' HO427.out).2.1); rintro e w31 ⟨rfl, hb⟩; have n0_ := Aside0.mk (Kd.R_below (rr_ HO427.out) hb); have n1_ := Aside0.mk (Kd.R_below (rr_ HO431.out) hb); have n2_ := Aside0.mk (Kd.R_below (rr_ HO435.out) hb); have n3_ := Aside0.mk (Kd.R_below (rr_ HO439.out) hb); have n4_ := Aside0.mk (Kd.R_below (rr_ HO443.out) hb); have n5_ := Aside0.mk (below_step bw_ hb); clear HO427; clear HO431; clear HO435; clear HO439; clear HO443; clear HB; have HO427 := n0_; have HO431 := n1_; have HO435 := n2_; have HO439 := n3_; have HO443 := n4_; have HB := n5_; clear n0_ n1_ n2_ n3_ n4_ n5_; (try clear hb); (try clear hb2); (try clear hk); (try clear hi)) | (go_at_call 13; (with_reducible refine (spec_FewestBlanks.calls k _ _ t424 t450 t451 _ ?side1 ?side2 A13.out).mono ?_); (case side1 => exact cr_ (Kd.R_reads' HO427.out).2.2); (case side2 => exact (Kd.R_reads' HO427.out).2.1); rintro e w' ⟨rfl, ⟨nd, rfl⟩⟩; (try exact dd_)) | (go_at_call 14; (with_reducible refine (impl_FirstFewestBlanks.calls k _ _ t424 t452 t453 _ ?side1 ?side2 A14.out).mono ?_); (case side1 => exact cr_ (Kd.R_reads' HO427.out).2.2); (case side2 => exact (Kd.R_reads' HO427.out).2.1); rintro e w32 ⟨v454, rfl, ho0, hb⟩; have n0_ := Aside0.mk (Kd.R_elder' (rr_ HO427.out) (Kd.R_base ho0) hb); have n1_ := Aside0.mk (Kd.R_elder' (rr_ HO431.out) (Kd.R_base ho0) hb); have n2_ := Aside0.mk (Kd.R_elder' (rr_ HO435.out) (Kd.R_base ho0) hb); have n3_ := Aside0.mk (Kd.R_elder' (rr_ HO439.out) (Kd.R_base ho0) hb); have n4_ := Aside0.mk (Kd.R_elder' (rr_ HO443.out) (Kd.R_base ho0) hb); have n5_ := Aside0.mk (Kd.R_lower (Kd.R_new' (Kd.R_new' (Kd.R_new' (Kd.R_new' (Kd.R_new' ho0 (Kd.R_lt (rr_ HO427.out))) (Kd.R_lt (rr_ HO431.out))) (Kd.R_lt (rr_ HO435.out))) (Kd.R_lt (rr_ HO439.out))) (Kd.R_lt (rr_ HO443.out))) (below_size bw_)); have n6_ := Aside0.mk (below_step bw_ hb); clear HO427; clear HO431; clear HO435; clear HO439; clear HO443; clear HB; have HO427 := n0_; have HO431 := n1_; have HO435 := n2_; have HO439 := n3_; have HO443 := n4_; have HO455 := n5_; have HB := n6_; clear n0_ n1_ n2_ n3_ n4_ n5_ n6_; (try clear hb); (try clear hb2); (try clear hk); (try clear hi); (try clear ho0)) | (go_at_call 15; (with_reducible refine (spec_FirstFewestBlanks.calls k _ _ t424 t456 t457 _ ?side1 ?side2 A15.out).mono ?_); (case side1 => exact cr_ (Kd.R_reads' HO427.out).2.2); (case side2 => exact (Kd.R_reads' HO427.out).2.1); rintro e w33 ⟨v458, rfl, ho0, hb⟩; have n0_ := Aside0.mk (Kd.R_elder' (rr_ HO427.out) (Kd.R_base ho0) hb); have n1_ := Aside0.mk (Kd.R_elder' (rr_ HO431.out) (Kd.R_base ho0) hb); have n2_ := Aside0.mk (Kd.R_elder' (rr_ HO435.out) (Kd.R_base ho0) hb); have n3_ := Aside0.mk (Kd.R_elder' (rr_ HO439.out) (Kd.R_base ho0) hb); have n4_ := Aside0.mk (Kd.R_elder' (rr_ HO443.out) (Kd.R_base ho0) hb); have n5_ := Aside0.mk (Kd.R_elder' (rr_ HO455.out) (Kd.R_base ho0) hb); have n6_ := Aside0.mk (Kd.R_lower (Kd.R_new' (Kd.R_new' (Kd.R_new' (Kd.R_new' (Kd.R_new' (Kd.R_new' ho0 (Kd.R_lt (rr_ HO427.out))) (Kd.R_lt (rr_ HO431.out))) (Kd.R_lt (rr_ HO435.out))) (Kd.R_lt (rr_ HO439.out))) (Kd.R_lt (rr_ HO443.out))) (Kd.R_lt (rr_ HO455.out))) (below_size bw_)); have n7_ := Aside0.mk (below_step bw_ hb); clear HO427; clear HO431; clear HO435; clear HO439; clear HO443; clear HO455; clear HB; have HO427 := n0_; have HO431 := n1_; have HO435 := n2_; have HO439 := n3_; have HO443 := n4_; have HO455 := n5_; have HO459 := n6_; have HB := n7_; clear n0_ n1_ n2_ n3_ n4_ n5_ n6_ n7_; (try clear hb); (try clear hb2); (try clear hk); (try clear hi); (try clear ho0)) | (go_at_call 16; (with_reducible refine (impl_CountFewestBlanks.calls k _ _ t424 t460 t461 _ ?side1 ?side2 A16.out).mono ?_); (case side1 => exact cr_ (Kd.R_reads' HO427.out).2.2); (case side2 => exact (Kd.R_reads' HO427.out).2.1); rintro e w34 ⟨rfl, hb⟩; have n0_ := Aside0.mk (Kd.R_below (rr_ HO427.out) hb); have n1_ := Aside0.mk (Kd.R_below (rr_ HO431.out) hb); have n2_ := Aside0.mk (Kd.R_below (rr_ HO435.out) hb); have n3_ := Aside0.mk (Kd.R_below (rr_ HO439.out) hb); have n4_ := Aside0.mk (Kd.R_below (rr_ HO443.out) hb); have n5_ := Aside0.mk (Kd.R_below (rr_ HO455.out) hb); have n6_ := Aside0.mk (Kd.R_below (rr_ HO459.out) hb); have n7_ := Aside0.mk (below_step bw_ hb); clear HO427; clear HO431; clear HO435; clear HO439; clear HO443; clear HO455; clear HO459; clear HB; have HO427 := n0_; have HO431 := n1_; have HO435 := n2_; have HO439 := n3_; have HO443 := n4_; have HO455 := n5_; have HO459 := n6_; have HB := n7_; clear n0_ n1_ n2_ n3_ n4_ n5_ n6_ n7_; (try clear hb); (try clear hb2); (try clear hk); (try clear hi)) | (go_at_call 17; (with_reducible refine (spec_CountFewestBlanks.calls k _ _ t424 t462 t463 _ ?side1 ?side2 A17.out).mono ?_); (case side1 => exact cr_ (Kd.R_reads' HO427.out).2.2); (case side2 => exact (Kd.R_reads' HO427.out).2.1); rintro e w' ⟨rfl, ⟨nd, rfl⟩⟩; (try exact dd_)) | (go_at_call 18; (with_reducible refine (impl_ChaptersText.calls k _ _ t424 t464 t465 _ ?side1 ?side2 ?side3 A18.out).mono ?_); (case side1 => exact cr_ (Kd.R_reads' HO427.out).2.2); (case side2 => exact (Kd.R_reads' HO427.out).2.1); (case side3 => exact TabC.below HT.out bw_); rintro e w35 ⟨rfl, hb⟩; have n0_ := Aside0.mk (Kd.R_below (rr_ HO427.out) hb); have n1_ := Aside0.mk (Kd.R_below (rr_ HO431.out) hb); have n2_ := Aside0.mk (Kd.R_below (rr_ HO435.out) hb); have n3_ := Aside0.mk (Kd.R_below (rr_ HO439.out) hb); have n4_ := Aside0.mk (Kd.R_below (rr_ HO443.out) hb); have n5_ := Aside0.mk (Kd.R_below (rr_ HO455.out) hb); have n6_ := Aside0.mk (Kd.R_below (rr_ HO459.out) hb); have n7_ := Aside0.mk (below_step bw_ hb); clear HO427; clear HO431; clear HO435; clear HO439; clear HO443; clear HO455; clear HO459; clear HB; have HO427 := n0_; have HO431 := n1_; have HO435 := n2_; have HO439 := n3_; have HO443 := n4_; have HO455 := n5_; have HO459 := n6_; have HB := n7_; clear n0_ n1_ n2_ n3_ n4_ n5_ n6_ n7_; (try clear hb); (try clear hb2); (try clear hk); (try clear hi)) | (go_at_call 19; (with_reducible refine (spec_ChaptersText.calls k _ _ t424 t466 t467 _ ?side1 ?side2 A19.out).mono ?_); (case side1 => exact cr_ (Kd.R_reads' HO427.out).2.2); (case side2 => exact (Kd.R_reads' HO427.out).2.1); rintro e w36 ⟨rfl, hb⟩; have n0_ := Aside0.mk (Kd.R_below (rr_ HO427.out) hb); have n1_ := Aside0.mk (Kd.R_below (rr_ HO431.out) hb); have n2_ := Aside0.mk (Kd.R_below (rr_ HO435.out) hb); have n3_ := Aside0.mk (Kd.R_below (rr_ HO439.out) hb); have n4_ := Aside0.mk (Kd.R_below (rr_ HO443.out) hb); have n5_ := Aside0.mk (Kd.R_below (rr_ HO455.out) hb); have n6_ := Aside0.mk (Kd.R_below (rr_ HO459.out) hb); have n7_ := Aside0.mk (below_step bw_ hb); clear HO427; clear HO431; clear HO435; clear HO439; clear HO443; clear HO455; clear HO459; clear HB; have HO427 := n0_; have HO431 := n1_; have HO435 := n2_; have HO439 := n3_; have HO443 := n4_; have HO455 := n5_; have HO459 := n6_; have HB := n7_; clear n0_ n1_ n2_ n3_ n4_ n5_ n6_ n7_; (try clear hb); (try clear hb2); (try clear hk); (try clear hi)) | (go_at_call 20; (with_reducible refine (impl_LongestChapter.calls k _ _ t424 t468 t469 t470 _ ?side1 ?side2 A20.out).mono ?_); (case side1 => exact cr_ (Kd.R_reads' HO427.out).2.2); (case side2 => exact (Kd.R_reads' HO427.out).2.1); rintro e w' ⟨rfl, ⟨nd, rfl⟩⟩; (try exact dd_)) | (go_at_call 21; (with_reducible refine (spec_LongestChapter.calls k _ _ t424 t471 t472 t473 _ ?side1 ?side2 A21.out).mono ?_); (case side1 => exact cr_ (Kd.R_reads' HO427.out).2.2); (case side2 => exact (Kd.R_reads' HO427.out).2.1); rintro e w' ⟨rfl, ⟨nd, rfl⟩⟩; (try exact dd_)))
  repeat (go_quiet (fail); go_upto_region 20 with (fail))
  (try simp only [Act.put, List.setIfInBounds_toArray, List.set_cons_zero, List.set_cons_succ])
  go_cut [311] from 178 to 310 (fun v311 wc => ∃ (kq : Nat) (x311_21 : Bool), v311 = .bool x311_21 ∧ Aside0 (laws_FnChaptersBegin.j0 kq l1 t424 t425 t428 t429 t436 t444 t448 t452 t460 t464 t468 t469 x311_21 = some r) ∧ Aside0 (kq ≤ k) ∧ Aside0 (Kd.R (Kd.int .i64) 3 wc w.heap.size (fun k_ => some k_ ≠ (v430 : Value).ownBlock ∧ some k_ ≠ (v438 : Value).ownBlock ∧ some k_ ≠ (v454 : Value).ownBlock) (.slice Ao24 t424.length co24) t424) ∧ Aside0 (Kd.R (Kd.int .i64) 3 wc w.heap.size (fun k_ => some k_ ≠ ((.slice Ao24 t424.length co24) : Value).ownBlock ∧ some k_ ≠ (v438 : Value).ownBlock ∧ some k_ ≠ (v454 : Value).ownBlock) v430 t428) ∧ Aside0 (Kd.R (Kd.int .i64) 3 wc w.heap.size (fun k_ => some k_ ≠ ((.slice Ao24 t424.length co24) : Value).ownBlock ∧ some k_ ≠ (v430 : Value).ownBlock ∧ some k_ ≠ (v454 : Value).ownBlock) v438 t436) ∧ Aside0 (Kd.R (Kd.int .i64) 3 wc w.heap.size (fun k_ => some k_ ≠ ((.slice Ao24 t424.length co24) : Value).ownBlock ∧ some k_ ≠ (v430 : Value).ownBlock ∧ some k_ ≠ (v438 : Value).ownBlock) v454 t452) ∧ Aside0 (Below w.heap.size w wc))
  case first => as_aux_lemma =>
   have H := HC22.out
   clear HC22
   by_cases c37 : (t429 != t433) = true
   ·rw [if_pos c37] at H
    have c37b0 : (t429 != t433) = true := c37
    (try (have c37b1 : decide (t429 = t433) = false := by simpa using c37))
    (try (have c37b2 : (t429 == t433) = false := by simpa using c37))
    (try (have c37b3 : ¬ (t429 = t433) := by simpa using c37))
    clear c37
    (first | rw [c37b0] | skip)
    exact (laws_FnChaptersBegin.j0_no H hr_.out).elim
   ·rw [if_neg c37] at H
    have c37b0 : (t429 != t433) = false := by simpa using c37
    (try (have c37b1 : decide (t429 = t433) = true := by simpa using c37))
    (try (have c37b2 : (t429 == t433) = true := by simpa using c37))
    clear c37
    (first | rw [c37b0] | skip)
    replace H := Option.bind_eq_some_iff.mp H
    obtain ⟨t474, A380, H⟩ := H
    (try dsimp only at H)
    have A38 := Aside0.mk A380
    clear A380
    by_cases c39 : t474 = true
    ·subst c39
     have H1 : (if (t437 != t441) = true then (laws_FnChaptersBegin.j0 k l1 t424 t425 t428 t429 t436 t444 t448 t452 t460 t464 t468 t469 true) else ((laws_xSame.f k t436 t440).bind fun t475 => (if t475 = true then (if (t445 != t447) = true then (laws_FnChaptersBegin.j0 k l1 t424 t425 t428 t429 t436 t444 t448 t452 t460 t464 t468 t469 true) else (if t444 = t446 then (if (t449 != t451) = true then (laws_FnChaptersBegin.j0 k l1 t424 t425 t428 t429 t436 t444 t448 t452 t460 t464 t468 t469 true) else (if t448 = t450 then (if (t453 != t457) = true then (laws_FnChaptersBegin.j0 k l1 t424 t425 t428 t429 t436 t444 t448 t452 t460 t464 t468 t469 true) else ((laws_xSame.f k t452 t456).bind fun t476 => (if t476 = true then (if (t461 != t463) = true then (laws_FnChaptersBegin.j0 k l1 t424 t425 t428 t429 t436 t444 t448 t452 t460 t464 t468 t469 true) else (if t460 = t462 then (if (t465 != t467) = true then (laws_FnChaptersBegin.j0 k l1 t424 t425 t428 t429 t436 t444 t448 t452 t460 t464 t468 t469 true) else (if t464.toList = t466.toList then (if (t470 != t473) = true then (laws_FnChaptersBegin.j0 k l1 t424 t425 t428 t429 t436 t444 t448 t452 t460 t464 t468 t469 true) else (if t468 = t471 then (if t469 = t472 then ((impl_AreChapters.f k t424).bind fun t477 => (if (t429 != t477) = true then (laws_FnChaptersBegin.j0 k l1 t424 t425 t428 t429 t436 t444 t448 t452 t460 t464 t468 t469 true) else ((impl_AreChapters.f k t424).bind fun t478 => ((spec_AreChapters.f k t424).bind fun t479 => (if (t478 != t479) = true then (laws_FnChaptersBegin.j0 k l1 t424 t425 t428 t429 t436 t444 t448 t452 t460 t464 t468 t469 true) else (if (t437 != t429) = true then (laws_FnChaptersBegin.j0 k l1 t424 t425 t428 t429 t436 t444 t448 t452 t460 t464 t468 t469 true) else (if (t445 != t429) = true then (laws_FnChaptersBegin.j0 k l1 t424 t425 t428 t429 t436 t444 t448 t452 t460 t464 t468 t469 true) else (if (t449 != t429) = true then (laws_FnChaptersBegin.j0 k l1 t424 t425 t428 t429 t436 t444 t448 t452 t460 t464 t468 t469 true) else (if (t453 != t429) = true then (laws_FnChaptersBegin.j0 k l1 t424 t425 t428 t429 t436 t444 t448 t452 t460 t464 t468 t469 true) else (if (t461 != t429) = true then (laws_FnChaptersBegin.j0 k l1 t424 t425 t428 t429 t436 t444 t448 t452 t460 t464 t468 t469 true) else (if (t465 != t429) = true then (laws_FnChaptersBegin.j0 k l1 t424 t425 t428 t429 t436 t444 t448 t452 t460 t464 t468 t469 true) else (laws_FnChaptersBegin.j0 k l1 t424 t425 t428 t429 t436 t444 t448 t452 t460 t464 t468 t469 (t470 != t429))))))))))))) else (laws_FnChaptersBegin.j0 k l1 t424 t425 t428 t429 t436 t444 t448 t452 t460 t464 t468 t469 true)) else (laws_FnChaptersBegin.j0 k l1 t424 t425 t428 t429 t436 t444 t448 t452 t460 t464 t468 t469 true))) else (laws_FnChaptersBegin.j0 k l1 t424 t425 t428 t429 t436 t444 t448 t452 t460 t464 t468 t469 true))) else (laws_FnChaptersBegin.j0 k l1 t424 t425 t428 t429 t436 t444 t448 t452 t460 t464 t468 t469 true))) else (laws_FnChaptersBegin.j0 k l1 t424 t425 t428 t429 t436 t444 t448 t452 t460 t464 t468 t469 true)))) else (laws_FnChaptersBegin.j0 k l1 t424 t425 t428 t429 t436 t444 t448 t452 t460 t464 t468 t469 true))) else (laws_FnChaptersBegin.j0 k l1 t424 t425 t428 t429 t436 t444 t448 t452 t460 t464 t468 t469 true))) else (laws_FnChaptersBegin.j0 k l1 t424 t425 t428 t429 t436 t444 t448 t452 t460 t464 t468 t469 true)))) = some r := by rw [if_pos rfl] at H; exact H
     clear H
     have H := H1
     clear H1
     by_cases c40 : (t437 != t441) = true
     ·rw [if_pos c40] at H
      have c40b0 : (t437 != t441) = true := c40
      (try (have c40b1 : decide (t437 = t441) = false := by simpa using c40))
      (try (have c40b2 : (t437 == t441) = false := by simpa using c40))
      (try (have c40b3 : ¬ (t437 = t441) := by simpa using c40))
      clear c40
      exact (laws_FnChaptersBegin.j0_no H hr_.out).elim
     ·rw [if_neg c40] at H
      have c40b0 : (t437 != t441) = false := by simpa using c40
      (try (have c40b1 : decide (t437 = t441) = true := by simpa using c40))
      (try (have c40b2 : (t437 == t441) = true := by simpa using c40))
      clear c40
      replace H := Option.bind_eq_some_iff.mp H
      obtain ⟨t475, A430, H⟩ := H
      (try dsimp only at H)
      have A43 := Aside0.mk A430
      clear A430
      by_cases c44 : t475 = true
      ·subst c44
       have H1 : (if (t445 != t447) = true then (laws_FnChaptersBegin.j0 k l1 t424 t425 t428 t429 t436 t444 t448 t452 t460 t464 t468 t469 true) else (if t444 = t446 then (if (t449 != t451) = true then (laws_FnChaptersBegin.j0 k l1 t424 t425 t428 t429 t436 t444 t448 t452 t460 t464 t468 t469 true) else (if t448 = t450 then (if (t453 != t457) = true then (laws_FnChaptersBegin.j0 k l1 t424 t425 t428 t429 t436 t444 t448 t452 t460 t464 t468 t469 true) else ((laws_xSame.f k t452 t456).bind fun t476 => (if t476 = true then (if (t461 != t463) = true then (laws_FnChaptersBegin.j0 k l1 t424 t425 t428 t429 t436 t444 t448 t452 t460 t464 t468 t469 true) else (if t460 = t462 then (if (t465 != t467) = true then (laws_FnChaptersBegin.j0 k l1 t424 t425 t428 t429 t436 t444 t448 t452 t460 t464 t468 t469 true) else (if t464.toList = t466.toList then (if (t470 != t473) = true then (laws_FnChaptersBegin.j0 k l1 t424 t425 t428 t429 t436 t444 t448 t452 t460 t464 t468 t469 true) else (if t468 = t471 then (if t469 = t472 then ((impl_AreChapters.f k t424).bind fun t477 => (if (t429 != t477) = true then (laws_FnChaptersBegin.j0 k l1 t424 t425 t428 t429 t436 t444 t448 t452 t460 t464 t468 t469 true) else ((impl_AreChapters.f k t424).bind fun t478 => ((spec_AreChapters.f k t424).bind fun t479 => (if (t478 != t479) = true then (laws_FnChaptersBegin.j0 k l1 t424 t425 t428 t429 t436 t444 t448 t452 t460 t464 t468 t469 true) else (if (t437 != t429) = true then (laws_FnChaptersBegin.j0 k l1 t424 t425 t428 t429 t436 t444 t448 t452 t460 t464 t468 t469 true) else (if (t445 != t429) = true then (laws_FnChaptersBegin.j0 k l1 t424 t425 t428 t429 t436 t444 t448 t452 t460 t464 t468 t469 true) else (if (t449 != t429) = true then (laws_FnChaptersBegin.j0 k l1 t424 t425 t428 t429 t436 t444 t448 t452 t460 t464 t468 t469 true) else (if (t453 != t429) = true then (laws_FnChaptersBegin.j0 k l1 t424 t425 t428 t429 t436 t444 t448 t452 t460 t464 t468 t469 true) else (if (t461 != t429) = true then (laws_FnChaptersBegin.j0 k l1 t424 t425 t428 t429 t436 t444 t448 t452 t460 t464 t468 t469 true) else (if (t465 != t429) = true then (laws_FnChaptersBegin.j0 k l1 t424 t425 t428 t429 t436 t444 t448 t452 t460 t464 t468 t469 true) else (laws_FnChaptersBegin.j0 k l1 t424 t425 t428 t429 t436 t444 t448 t452 t460 t464 t468 t469 (t470 != t429))))))))))))) else (laws_FnChaptersBegin.j0 k l1 t424 t425 t428 t429 t436 t444 t448 t452 t460 t464 t468 t469 true)) else (laws_FnChaptersBegin.j0 k l1 t424 t425 t428 t429 t436 t444 t448 t452 t460 t464 t468 t469 true))) else (laws_FnChaptersBegin.j0 k l1 t424 t425 t428 t429 t436 t444 t448 t452 t460 t464 t468 t469 true))) else (laws_FnChaptersBegin.j0 k l1 t424 t425 t428 t429 t436 t444 t448 t452 t460 t464 t468 t469 true))) else (laws_FnChaptersBegin.j0 k l1 t424 t425 t428 t429 t436 t444 t448 t452 t460 t464 t468 t469 true)))) else (laws_FnChaptersBegin.j0 k l1 t424 t425 t428 t429 t436 t444 t448 t452 t460 t464 t468 t469 true))) else (laws_FnChaptersBegin.j0 k l1 t424 t425 t428 t429 t436 t444 t448 t452 t460 t464 t468 t469 true))) = some r := by rw [if_pos rfl] at H; exact H
       clear H
       have H := H1
       clear H1
       by_cases c45 : (t445 != t447) = true
       ·rw [if_pos c45] at H
        have c45b0 : (t445 != t447) = true := c45
        (try (have c45b1 : decide (t445 = t447) = false := by simpa using c45))
        (try (have c45b2 : (t445 == t447) = false := by simpa using c45))
        (try (have c45b3 : ¬ (t445 = t447) := by simpa using c45))
        clear c45
        exact (laws_FnChaptersBegin.j0_no H hr_.out).elim
       ·rw [if_neg c45] at H
        have c45b0 : (t445 != t447) = false := by simpa using c45
        (try (have c45b1 : decide (t445 = t447) = true := by simpa using c45))
        (try (have c45b2 : (t445 == t447) = true := by simpa using c45))
        clear c45
        by_cases c50 : t444 = t446
        ·rw [if_pos c50] at H
         have c50b0 : (t444 == t446) = true := beq_iff_eq.mpr c50
         have c50b1 : (t444 != t446) = false := bne_eq_false_iff_eq.mpr c50
         clear c50
         by_cases c51 : (t449 != t451) = true
         ·rw [if_pos c51] at H
          have c51b0 : (t449 != t451) = true := c51
          (try (have c51b1 : decide (t449 = t451) = false := by simpa using c51))
          (try (have c51b2 : (t449 == t451) = false := by simpa using c51))
          (try (have c51b3 : ¬ (t449 = t451) := by simpa using c51))
          clear c51
          exact (laws_FnChaptersBegin.j0_no H hr_.out).elim
         ·rw [if_neg c51] at H
          have c51b0 : (t449 != t451) = false := by simpa using c51
          (try (have c51b1 : decide (t449 = t451) = true := by simpa using c51))
          (try (have c51b2 : (t449 == t451) = true := by simpa using c51))
          clear c51
          by_cases c56 : t448 = t450
          ·rw [if_pos c56] at H
           have c56b0 : (t448 == t450) = true := beq_iff_eq.mpr c56
           have c56b1 : (t448 != t450) = false := bne_eq_false_iff_eq.mpr c56
           clear c56
           by_cases c57 : (t453 != t457) = true
           ·rw [if_pos c57] at H
            have c57b0 : (t453 != t457) = true := c57
            (try (have c57b1 : decide (t453 = t457) = false := by simpa using c57))
            (try (have c57b2 : (t453 == t457) = false := by simpa using c57))
            (try (have c57b3 : ¬ (t453 = t457) := by simpa using c57))
            clear c57
            exact (laws_FnChaptersBegin.j0_no H hr_.out).elim
           ·rw [if_neg c57] at H
            have c57b0 : (t453 != t457) = false := by simpa using c57
            (try (have c57b1 : decide (t453 = t457) = true := by simpa using c57))
            (try (have c57b2 : (t453 == t457) = true := by simpa using c57))
            clear c57
            replace H := Option.bind_eq_some_iff.mp H
            obtain ⟨t476, A620, H⟩ := H
            (try dsimp only at H)
            have A62 := Aside0.mk A620
            clear A620
            by_cases c63 : t476 = true
            ·subst c63
             have H1 : (if (t461 != t463) = true then (laws_FnChaptersBegin.j0 k l1 t424 t425 t428 t429 t436 t444 t448 t452 t460 t464 t468 t469 true) else (if t460 = t462 then (if (t465 != t467) = true then (laws_FnChaptersBegin.j0 k l1 t424 t425 t428 t429 t436 t444 t448 t452 t460 t464 t468 t469 true) else (if t464.toList = t466.toList then (if (t470 != t473) = true then (laws_FnChaptersBegin.j0 k l1 t424 t425 t428 t429 t436 t444 t448 t452 t460 t464 t468 t469 true) else (if t468 = t471 then (if t469 = t472 then ((impl_AreChapters.f k t424).bind fun t477 => (if (t429 != t477) = true then (laws_FnChaptersBegin.j0 k l1 t424 t425 t428 t429 t436 t444 t448 t452 t460 t464 t468 t469 true) else ((impl_AreChapters.f k t424).bind fun t478 => ((spec_AreChapters.f k t424).bind fun t479 => (if (t478 != t479) = true then (laws_FnChaptersBegin.j0 k l1 t424 t425 t428 t429 t436 t444 t448 t452 t460 t464 t468 t469 true) else (if (t437 != t429) = true then (laws_FnChaptersBegin.j0 k l1 t424 t425 t428 t429 t436 t444 t448 t452 t460 t464 t468 t469 true) else (if (t445 != t429) = true then (laws_FnChaptersBegin.j0 k l1 t424 t425 t428 t429 t436 t444 t448 t452 t460 t464 t468 t469 true) else (if (t449 != t429) = true then (laws_FnChaptersBegin.j0 k l1 t424 t425 t428 t429 t436 t444 t448 t452 t460 t464 t468 t469 true) else (if (t453 != t429) = true then (laws_FnChaptersBegin.j0 k l1 t424 t425 t428 t429 t436 t444 t448 t452 t460 t464 t468 t469 true) else (if (t461 != t429) = true then (laws_FnChaptersBegin.j0 k l1 t424 t425 t428 t429 t436 t444 t448 t452 t460 t464 t468 t469 true) else (if (t465 != t429) = true then (laws_FnChaptersBegin.j0 k l1 t424 t425 t428 t429 t436 t444 t448 t452 t460 t464 t468 t469 true) else (laws_FnChaptersBegin.j0 k l1 t424 t425 t428 t429 t436 t444 t448 t452 t460 t464 t468 t469 (t470 != t429))))))))))))) else (laws_FnChaptersBegin.j0 k l1 t424 t425 t428 t429 t436 t444 t448 t452 t460 t464 t468 t469 true)) else (laws_FnChaptersBegin.j0 k l1 t424 t425 t428 t429 t436 t444 t448 t452 t460 t464 t468 t469 true))) else (laws_FnChaptersBegin.j0 k l1 t424 t425 t428 t429 t436 t444 t448 t452 t460 t464 t468 t469 true))) else (laws_FnChaptersBegin.j0 k l1 t424 t425 t428 t429 t436 t444 t448 t452 t460 t464 t468 t469 true))) = some r := by rw [if_pos rfl] at H; exact H
             clear H
             have H := H1
             clear H1
             by_cases c64 : (t461 != t463) = true
             ·rw [if_pos c64] at H
              have c64b0 : (t461 != t463) = true := c64
              (try (have c64b1 : decide (t461 = t463) = false := by simpa using c64))
              (try (have c64b2 : (t461 == t463) = false := by simpa using c64))
              (try (have c64b3 : ¬ (t461 = t463) := by simpa using c64))
              clear c64
              exact (laws_FnChaptersBegin.j0_no H hr_.out).elim
             ·rw [if_neg c64] at H
              have c64b0 : (t461 != t463) = false := by simpa using c64
              (try (have c64b1 : decide (t461 = t463) = true := by simpa using c64))
              (try (have c64b2 : (t461 == t463) = true := by simpa using c64))
              clear c64
              by_cases c71 : t460 = t462
              ·rw [if_pos c71] at H
               have c71b0 : (t460 == t462) = true := beq_iff_eq.mpr c71
               have c71b1 : (t460 != t462) = false := bne_eq_false_iff_eq.mpr c71
               clear c71
               by_cases c72 : (t465 != t467) = true
               ·rw [if_pos c72] at H
                have c72b0 : (t465 != t467) = true := c72
                (try (have c72b1 : decide (t465 = t467) = false := by simpa using c72))
                (try (have c72b2 : (t465 == t467) = false := by simpa using c72))
                (try (have c72b3 : ¬ (t465 = t467) := by simpa using c72))
                clear c72
                exact (laws_FnChaptersBegin.j0_no H hr_.out).elim
               ·rw [if_neg c72] at H
                have c72b0 : (t465 != t467) = false := by simpa using c72
                (try (have c72b1 : decide (t465 = t467) = true := by simpa using c72))
                (try (have c72b2 : (t465 == t467) = true := by simpa using c72))
                clear c72
                by_cases c79 : t464.toList = t466.toList
                ·rw [if_pos c79] at H
                 have c79b0 : (t464.toList == t466.toList) = true := beq_iff_eq.mpr c79
                 have c79b1 : (t464.toList != t466.toList) = false := bne_eq_false_iff_eq.mpr c79
                 clear c79
                 by_cases c80 : (t470 != t473) = true
                 ·rw [if_pos c80] at H
                  have c80b0 : (t470 != t473) = true := c80
                  (try (have c80b1 : decide (t470 = t473) = false := by simpa using c80))
                  (try (have c80b2 : (t470 == t473) = false := by simpa using c80))
                  (try (have c80b3 : ¬ (t470 = t473) := by simpa using c80))
                  clear c80
                  exact (laws_FnChaptersBegin.j0_no H hr_.out).elim
                 ·rw [if_neg c80] at H
                  have c80b0 : (t470 != t473) = false := by simpa using c80
                  (try (have c80b1 : decide (t470 = t473) = true := by simpa using c80))
                  (try (have c80b2 : (t470 == t473) = true := by simpa using c80))
                  clear c80
                  by_cases c87 : t468 = t471
                  ·rw [if_pos c87] at H
                   have c87b0 : (t468 == t471) = true := beq_iff_eq.mpr c87
                   have c87b1 : (t468 != t471) = false := bne_eq_false_iff_eq.mpr c87
                   clear c87
                   by_cases c88 : t469 = t472
                   ·rw [if_pos c88] at H
                    have c88b0 : (t469 == t472) = true := beq_iff_eq.mpr c88
                    have c88b1 : (t469 != t472) = false := bne_eq_false_iff_eq.mpr c88
                    clear c88
                    replace H := Option.bind_eq_some_iff.mp H
                    obtain ⟨t477, A890, H⟩ := H
                    (try dsimp only at H)
                    have A89 := Aside0.mk A890
                    clear A890
                    by_cases c90 : (t429 != t477) = true
                    ·rw [if_pos c90] at H
                     have c90b0 : (t429 != t477) = true := c90
                     (try (have c90b1 : decide (t429 = t477) = false := by simpa using c90))
                     (try (have c90b2 : (t429 == t477) = false := by simpa using c90))
                     (try (have c90b3 : ¬ (t429 = t477) := by simpa using c90))
                     clear c90
                     exact (laws_FnChaptersBegin.j0_no H hr_.out).elim
                    ·rw [if_neg c90] at H
                     have c90b0 : (t429 != t477) = false := by simpa using c90
                     (try (have c90b1 : decide (t429 = t477) = true := by simpa using c90))
                     (try (have c90b2 : (t429 == t477) = true := by simpa using c90))
                     clear c90
                     replace H := Option.bind_eq_some_iff.mp H
                     obtain ⟨t478, A970, H⟩ := H
                     (try dsimp only at H)
                     have A97 := Aside0.mk A970
                     clear A970
                     replace H := Option.bind_eq_some_iff.mp H
                     obtain ⟨t479, A980, H⟩ := H
                     (try dsimp only at H)
                     have A98 := Aside0.mk A980
                     clear A980
                     by_cases c99 : (t478 != t479) = true
                     ·rw [if_pos c99] at H
                      have c99b0 : (t478 != t479) = true := c99
                      (try (have c99b1 : decide (t478 = t479) = false := by simpa using c99))
                      (try (have c99b2 : (t478 == t479) = false := by simpa using c99))
                      (try (have c99b3 : ¬ (t478 = t479) := by simpa using c99))
                      clear c99
                      exact (laws_FnChaptersBegin.j0_no H hr_.out).elim
                     ·rw [if_neg c99] at H
                      have c99b0 : (t478 != t479) = false := by simpa using c99
                      (try (have c99b1 : decide (t478 = t479) = true := by simpa using c99))
                      (try (have c99b2 : (t478 == t479) = true := by simpa using c99))
                      clear c99
                      rw [show t478 = t477 from Option.some.inj (A97.out.symm.trans A89.out)] at c99b0
                      (try rw [show t478 = t477 from Option.some.inj (A97.out.symm.trans A89.out)] at c99b1)
                      (try rw [show t478 = t477 from Option.some.inj (A97.out.symm.trans A89.out)] at c99b2)
                      by_cases c106 : (t437 != t429) = true
                      ·rw [if_pos c106] at H
                       have c106b0 : (t437 != t429) = true := c106
                       (try (have c106b1 : decide (t437 = t429) = false := by simpa using c106))
                       (try (have c106b2 : (t437 == t429) = false := by simpa using c106))
                       (try (have c106b3 : ¬ (t437 = t429) := by simpa using c106))
                       clear c106
                       exact (laws_FnChaptersBegin.j0_no H hr_.out).elim
                      ·rw [if_neg c106] at H
                       have c106b0 : (t437 != t429) = false := by simpa using c106
                       (try (have c106b1 : decide (t437 = t429) = true := by simpa using c106))
                       (try (have c106b2 : (t437 == t429) = true := by simpa using c106))
                       clear c106
                       by_cases c113 : (t445 != t429) = true
                       ·rw [if_pos c113] at H
                        have c113b0 : (t445 != t429) = true := c113
                        (try (have c113b1 : decide (t445 = t429) = false := by simpa using c113))
                        (try (have c113b2 : (t445 == t429) = false := by simpa using c113))
                        (try (have c113b3 : ¬ (t445 = t429) := by simpa using c113))
                        clear c113
                        exact (laws_FnChaptersBegin.j0_no H hr_.out).elim
                       ·rw [if_neg c113] at H
                        have c113b0 : (t445 != t429) = false := by simpa using c113
                        (try (have c113b1 : decide (t445 = t429) = true := by simpa using c113))
                        (try (have c113b2 : (t445 == t429) = true := by simpa using c113))
                        clear c113
                        by_cases c120 : (t449 != t429) = true
                        ·rw [if_pos c120] at H
                         have c120b0 : (t449 != t429) = true := c120
                         (try (have c120b1 : decide (t449 = t429) = false := by simpa using c120))
                         (try (have c120b2 : (t449 == t429) = false := by simpa using c120))
                         (try (have c120b3 : ¬ (t449 = t429) := by simpa using c120))
                         clear c120
                         exact (laws_FnChaptersBegin.j0_no H hr_.out).elim
                        ·rw [if_neg c120] at H
                         have c120b0 : (t449 != t429) = false := by simpa using c120
                         (try (have c120b1 : decide (t449 = t429) = true := by simpa using c120))
                         (try (have c120b2 : (t449 == t429) = true := by simpa using c120))
                         clear c120
                         by_cases c127 : (t453 != t429) = true
                         ·rw [if_pos c127] at H
                          have c127b0 : (t453 != t429) = true := c127
                          (try (have c127b1 : decide (t453 = t429) = false := by simpa using c127))
                          (try (have c127b2 : (t453 == t429) = false := by simpa using c127))
                          (try (have c127b3 : ¬ (t453 = t429) := by simpa using c127))
                          clear c127
                          exact (laws_FnChaptersBegin.j0_no H hr_.out).elim
                         ·rw [if_neg c127] at H
                          have c127b0 : (t453 != t429) = false := by simpa using c127
                          (try (have c127b1 : decide (t453 = t429) = true := by simpa using c127))
                          (try (have c127b2 : (t453 == t429) = true := by simpa using c127))
                          clear c127
                          by_cases c134 : (t461 != t429) = true
                          ·rw [if_pos c134] at H
                           have c134b0 : (t461 != t429) = true := c134
                           (try (have c134b1 : decide (t461 = t429) = false := by simpa using c134))
                           (try (have c134b2 : (t461 == t429) = false := by simpa using c134))
                           (try (have c134b3 : ¬ (t461 = t429) := by simpa using c134))
                           clear c134
                           exact (laws_FnChaptersBegin.j0_no H hr_.out).elim
                          ·rw [if_neg c134] at H
                           have c134b0 : (t461 != t429) = false := by simpa using c134
                           (try (have c134b1 : decide (t461 = t429) = true := by simpa using c134))
                           (try (have c134b2 : (t461 == t429) = true := by simpa using c134))
                           clear c134
                           by_cases c141 : (t465 != t429) = true
                           ·rw [if_pos c141] at H
                            have c141b0 : (t465 != t429) = true := c141
                            (try (have c141b1 : decide (t465 = t429) = false := by simpa using c141))
                            (try (have c141b2 : (t465 == t429) = false := by simpa using c141))
                            (try (have c141b3 : ¬ (t465 = t429) := by simpa using c141))
                            clear c141
                            exact (laws_FnChaptersBegin.j0_no H hr_.out).elim
                           ·rw [if_neg c141] at H
                            have c141b0 : (t465 != t429) = false := by simpa using c141
                            (try (have c141b1 : decide (t465 = t429) = true := by simpa using c141))
                            (try (have c141b2 : (t465 == t429) = true := by simpa using c141))
                            clear c141
                            have H' := Aside0.mk H
                            clear H
                            obtain ⟨Ao148, co148, eo148⟩ := Kd.R_slice HO431.out
                            subst eo148
                            obtain ⟨Ao149, co149, eo149⟩ := Kd.R_slice HO435.out
                            subst eo149
                            go_wp2_with (first | (go_at_call 22; (with_reducible refine (laws_xSame.calls k _ _ t428 _ _ t432 true _ ?side1 ?side2 ?side3 ?side4 A38.out).mono ?_); (case side1 => exact cr_ (Kd.R_reads' HO431.out).2.2); (case side2 => exact (Kd.R_reads' HO431.out).2.1); (case side3 => exact cr_ (Kd.R_reads' HO435.out).2.2); (case side4 => exact (Kd.R_reads' HO435.out).2.1); rintro e w' ⟨rfl, ⟨nd, rfl⟩⟩; (try exact dd_); obtain ⟨Ao150, co150, eo150⟩ := Kd.R_slice HO439.out; subst eo150; obtain ⟨Ao151, co151, eo151⟩ := Kd.R_slice HO443.out; subst eo151) | (go_at_call 22; (with_reducible refine (laws_xSame.calls k _ _ t436 _ _ t440 true _ ?side1 ?side2 ?side3 ?side4 A43.out).mono ?_); (case side1 => exact cr_ (Kd.R_reads' HO439.out).2.2); (case side2 => exact (Kd.R_reads' HO439.out).2.1); (case side3 => exact cr_ (Kd.R_reads' HO443.out).2.2); (case side4 => exact (Kd.R_reads' HO443.out).2.1); rintro e w' ⟨rfl, ⟨nd, rfl⟩⟩; (try exact dd_); obtain ⟨Ao152, co152, eo152⟩ := Kd.R_slice HO455.out; subst eo152; obtain ⟨Ao153, co153, eo153⟩ := Kd.R_slice HO459.out; subst eo153) | (go_at_call 22; (with_reducible refine (laws_xSame.calls k _ _ t452 _ _ t456 true _ ?side1 ?side2 ?side3 ?side4 A62.out).mono ?_); (case side1 => exact cr_ (Kd.R_reads' HO455.out).2.2); (case side2 => exact (Kd.R_reads' HO455.out).2.1); (case side3 => exact cr_ (Kd.R_reads' HO459.out).2.2); (case side4 => exact (Kd.R_reads' HO459.out).2.1); rintro e w' ⟨rfl, ⟨nd, rfl⟩⟩; (try exact dd_)) | (go_at_call 23; (with_reducible refine (impl_AreChapters.calls k _ _ t424 t477 _ ?side1 ?side2 A89.out).mono ?_); (case side1 => exact cr_ (Kd.R_reads' HO427.out).2.2); (case side2 => exact (Kd.R_reads' HO427.out).2.1); rintro e w' ⟨rfl, ⟨nd, rfl⟩⟩; (try exact dd_)) | (go_at_call 23; (with_reducible refine (impl_AreChapters.calls k _ _ t424 t478 _ ?side1 ?side2 A97.out).mono ?_); (case side1 => exact cr_ (Kd.R_reads' HO427.out).2.2); (case side2 => exact (Kd.R_reads' HO427.out).2.1); rintro e w' ⟨rfl, ⟨nd, rfl⟩⟩; (try exact dd_)) | (go_at_call 24; (with_reducible refine (spec_AreChapters.calls k _ _ t424 t479 _ ?side1 ?side2 A98.out).mono ?_); (case side1 => exact cr_ (Kd.R_reads' HO427.out).2.2); (case side2 => exact (Kd.R_reads' HO427.out).2.1); rintro e w' ⟨rfl, ⟨nd, rfl⟩⟩; (try exact dd_)))
                            repeat (go_quiet (first | (go_at_call 22; (with_reducible refine (laws_xSame.calls k _ _ t428 _ _ t432 true _ ?side1 ?side2 ?side3 ?side4 A38.out).mono ?_); (case side1 => exact cr_ (Kd.R_reads' HO431.out).2.2); (case side2 => exact (Kd.R_reads' HO431.out).2.1); (case side3 => exact cr_ (Kd.R_reads' HO435.out).2.2); (case side4 => exact (Kd.R_reads' HO435.out).2.1); rintro e w' ⟨rfl, ⟨nd, rfl⟩⟩; (try exact dd_); obtain ⟨Ao150, co150, eo150⟩ := Kd.R_slice HO439.out; subst eo150; obtain ⟨Ao151, co151, eo151⟩ := Kd.R_slice HO443.out; subst eo151) | (go_at_call 22; (with_reducible refine (laws_xSame.calls k _ _ t436 _ _ t440 true _ ?side1 ?side2 ?side3 ?side4 A43.out).mono ?_); (case side1 => exact cr_ (Kd.R_reads' HO439.out).2.2); (case side2 => exact (Kd.R_reads' HO439.out).2.1); (case side3 => exact cr_ (Kd.R_reads' HO443.out).2.2); (case side4 => exact (Kd.R_reads' HO443.out).2.1); rintro e w' ⟨rfl, ⟨nd, rfl⟩⟩; (try exact dd_); obtain ⟨Ao152, co152, eo152⟩ := Kd.R_slice HO455.out; subst eo152; obtain ⟨Ao153, co153, eo153⟩ := Kd.R_slice HO459.out; subst eo153) | (go_at_call 22; (with_reducible refine (laws_xSame.calls k _ _ t452 _ _ t456 true _ ?side1 ?side2 ?side3 ?side4 A62.out).mono ?_); (case side1 => exact cr_ (Kd.R_reads' HO455.out).2.2); (case side2 => exact (Kd.R_reads' HO455.out).2.1); (case side3 => exact cr_ (Kd.R_reads' HO459.out).2.2); (case side4 => exact (Kd.R_reads' HO459.out).2.1); rintro e w' ⟨rfl, ⟨nd, rfl⟩⟩; (try exact dd_)) | (go_at_call 23; (with_reducible refine (impl_AreChapters.calls k _ _ t424 t477 _ ?side1 ?side2 A89.out).mono ?_); (case side1 => exact cr_ (Kd.R_reads' HO427.out).2.2); (case side2 => exact (Kd.R_reads' HO427.out).2.1); rintro e w' ⟨rfl, ⟨nd, rfl⟩⟩; (try exact dd_)) | (go_at_call 23; (with_reducible refine (impl_AreChapters.calls k _ _ t424 t478 _ ?side1 ?side2 A97.out).mono ?_); (case side1 => exact cr_ (Kd.R_reads' HO427.out).2.2); (case side2 => exact (Kd.R_reads' HO427.out).2.1); rintro e w' ⟨rfl, ⟨nd, rfl⟩⟩; (try exact dd_)) | (go_at_call 24; (with_reducible refine (spec_AreChapters.calls k _ _ t424 t479 _ ?side1 ?side2 A98.out).mono ?_); (case side1 => exact cr_ (Kd.R_reads' HO427.out).2.2); (case side2 => exact (Kd.R_reads' HO427.out).2.1); rintro e w' ⟨rfl, ⟨nd, rfl⟩⟩; (try exact dd_))); try go_wp2)
                            go_meet
                            case rel => exact ⟨_, ((t470 != t429)), rs_, H', ⟨by first | omega | exact Nat.le_refl _⟩, ⟨by (with_reducible repeat (first | apply Kd.R_alloc | apply Kd.R_drewN | apply Kd.R_drew)); exact Kd.R_mono HO427.out (fun _ hk => ⟨hk.1.1.1.1.1.2, ⟨hk.1.1.1.2, hk.1.2⟩⟩)⟩, ⟨by (with_reducible repeat (first | apply Kd.R_alloc | apply Kd.R_drewN | apply Kd.R_drew)); exact Kd.R_mono HO431.out (fun _ hk => ⟨hk.1.1.1.1.1.2, ⟨hk.1.1.1.2, hk.1.2⟩⟩)⟩, ⟨by (with_reducible repeat (first | apply Kd.R_alloc | apply Kd.R_drewN | apply Kd.R_drew)); exact Kd.R_mono HO439.out (fun _ hk => ⟨hk.1.1.1.1.1.2, ⟨hk.1.1.1.1.2, hk.1.2⟩⟩)⟩, ⟨by (with_reducible repeat (first | apply Kd.R_alloc | apply Kd.R_drewN | apply Kd.R_drew)); exact Kd.R_mono HO455.out (fun _ hk => ⟨hk.1.1.1.1.1.2, ⟨hk.1.1.1.1.2, hk.1.1.2⟩⟩)⟩, ⟨bw_⟩⟩
                   ·rw [if_neg c88] at H
                    have c88b0 : (t469 == t472) = false := beq_eq_false_iff_ne.mpr c88
                    have c88b1 : (t469 != t472) = true := bne_iff_ne.mpr c88
                    exact (laws_FnChaptersBegin.j0_no H hr_.out).elim
                  ·rw [if_neg c87] at H
                   have c87b0 : (t468 == t471) = false := beq_eq_false_iff_ne.mpr c87
                   have c87b1 : (t468 != t471) = true := bne_iff_ne.mpr c87
                   exact (laws_FnChaptersBegin.j0_no H hr_.out).elim
                ·rw [if_neg c79] at H
                 have c79b0 : (t464.toList == t466.toList) = false := beq_eq_false_iff_ne.mpr c79
                 have c79b1 : (t464.toList != t466.toList) = true := bne_iff_ne.mpr c79
                 exact (laws_FnChaptersBegin.j0_no H hr_.out).elim
              ·rw [if_neg c71] at H
               have c71b0 : (t460 == t462) = false := beq_eq_false_iff_ne.mpr c71
               have c71b1 : (t460 != t462) = true := bne_iff_ne.mpr c71
               exact (laws_FnChaptersBegin.j0_no H hr_.out).elim
            ·replace c63 := Bool.eq_false_iff.mpr c63
             subst c63
             have H1 : (laws_FnChaptersBegin.j0 k l1 t424 t425 t428 t429 t436 t444 t448 t452 t460 t464 t468 t469 true) = some r := by rw [if_neg (show ¬ (false = true) by decide)] at H; exact H
             clear H
             have H := H1
             clear H1
             exact (laws_FnChaptersBegin.j0_no H hr_.out).elim
          ·rw [if_neg c56] at H
           have c56b0 : (t448 == t450) = false := beq_eq_false_iff_ne.mpr c56
           have c56b1 : (t448 != t450) = true := bne_iff_ne.mpr c56
           exact (laws_FnChaptersBegin.j0_no H hr_.out).elim
        ·rw [if_neg c50] at H
         have c50b0 : (t444 == t446) = false := beq_eq_false_iff_ne.mpr c50
         have c50b1 : (t444 != t446) = true := bne_iff_ne.mpr c50
         exact (laws_FnChaptersBegin.j0_no H hr_.out).elim
      ·replace c44 := Bool.eq_false_iff.mpr c44
       subst c44
       have H1 : (laws_FnChaptersBegin.j0 k l1 t424 t425 t428 t429 t436 t444 t448 t452 t460 t464 t468 t469 true) = some r := by rw [if_neg (show ¬ (false = true) by decide)] at H; exact H
       clear H
       have H := H1
       clear H1
       exact (laws_FnChaptersBegin.j0_no H hr_.out).elim
    ·replace c39 := Bool.eq_false_iff.mpr c39
     subst c39
     have H1 : (laws_FnChaptersBegin.j0 k l1 t424 t425 t428 t429 t436 t444 t448 t452 t460 t464 t468 t469 true) = some r := by rw [if_neg (show ¬ (false = true) by decide)] at H; exact H
     clear H
     have H := H1
     clear H1
     exact (laws_FnChaptersBegin.j0_no H hr_.out).elim
  case rest => as_aux_lemma =>
   clear HC22
   (try clear c1); (try clear p2); (try clear c3); (try clear c4); (try clear c5); (try clear c6); (try clear c7); (try clear c8); (try clear c9); (try clear c10); (try clear c11); (try clear c12); (try clear c13); (try clear c14); (try clear c37); (try clear c37b0); (try clear c37b1); (try clear c37b2); (try clear c39); (try clear c40); (try clear c40b0); (try clear c40b1); (try clear c40b2); (try clear c44); (try clear c45); (try clear c45b0); (try clear c45b1); (try clear c45b2); (try clear c50); (try clear c50b0); (try clear c50b1); (try clear c51); (try clear c51b0); (try clear c51b1); (try clear c51b2); (try clear c56); (try clear c56b0); (try clear c56b1); (try clear c57); (try clear c57b0); (try clear c57b1); (try clear c57b2); (try clear c63); (try clear c64); (try clear c64b0); (try clear c64b1); (try clear c64b2); (try clear c71); (try clear c71b0); (try clear c71b1); (try clear c72); (try clear c72b0); (try clear c72b1); (try clear c72b2); (try clear c79); (try clear c79b0); (try clear c79b1); (try clear c80); (try clear c80b0); (try clear c80b1); (try clear c80b2); (try clear c87); (try clear c87b0); (try clear c87b1); (try clear c88); (try clear c88b0); (try clear c88b1); (try clear c90); (try clear c90b0); (try clear c90b1); (try clear c90b2); (try clear c99); (try clear c99b0); (try clear c99b1); (try clear c99b2); (try clear c106); (try clear c106b0); (try clear c106b1); (try clear c106b2); (try clear c113); (try clear c113b0); (try clear c113b1); (try clear c113b2); (try clear c120); (try clear c120b0); (try clear c120b1); (try clear c120b2); (try clear c127); (try clear c127b0); (try clear c127b1); (try clear c127b2); (try clear c134); (try clear c134b0); (try clear c134b1); (try clear c134b2); (try clear c141); (try clear c141b0); (try clear c141b1); (try clear c141b2)
   obtain ⟨kq, x311_21, rfl, HA, HJ21, HO_5, HO_7, HO_11, HO_23, HB⟩ := hcut
   cases kq with
   | zero => exact absurd HA.out (by simp [laws_FnChaptersBegin.j0])
   | succ kj21 =>
    have H := HA.out
    clear HA
    simp only [laws_FnChaptersBegin.j0] at H
    by_cases c198 : x311_21 = true
    ·subst c198
     have H1 : (some false) = some r := by rw [if_pos rfl] at H; exact H
     clear H
     have H := H1
     clear H1
     obtain rfl := Option.some.inj H
     exact absurd hr_.out (by decide)
    ·replace c198 := Bool.eq_false_iff.mpr c198
     subst c198
     have H1 : (if t429 = true then (if (t428.length : Int) = (t424.length : Int) then (if 0 < (t428.length : Int) then (if (rd t428 0) = 1 then ((laws_xRises.f kj21 t428).bind fun t481 => (if t481 = true then ((laws_xRises.f kj21 t436).bind fun t482 => (if t482 = true then ((laws_xSum.f kj21 t424).bind fun t483 => (if t444 = (wrap64 (t483 + (t436.length : Int))) then (if t425 = true then (if (t436.length : Int) < t448 then (laws_FnChaptersBegin.j1 kj21 l1 t424 t425 t428 t448 t452 t464 t468 t469 true) else (if t448 ≥ (t424.length : Int) then (laws_FnChaptersBegin.j1 kj21 l1 t424 t425 t428 t448 t452 t464 t468 t469 true) else (if t460 < 1 then (laws_FnChaptersBegin.j1 kj21 l1 t424 t425 t428 t448 t452 t464 t468 t469 true) else (laws_FnChaptersBegin.j1 kj21 l1 t424 t425 t428 t448 t452 t464 t468 t469 ((t452.length : Int) != (t424.length : Int)))))) else (if (t436.length : Int) = 0 then (if t448 ≥ (t424.length : Int) then (laws_FnChaptersBegin.j1 kj21 l1 t424 t425 t428 t448 t452 t464 t468 t469 true) else (if t460 < 1 then (laws_FnChaptersBegin.j1 kj21 l1 t424 t425 t428 t448 t452 t464 t468 t469 true) else (laws_FnChaptersBegin.j1 kj21 l1 t424 t425 t428 t448 t452 t464 t468 t469 ((t452.length : Int) != (t424.length : Int))))) else (laws_FnChaptersBegin.j1 kj21 l1 t424 t425 t428 t448 t452 t464 t468 t469 true))) else (laws_FnChaptersBegin.j1 kj21 l1 t424 t425 t428 t448 t452 t464 t468 t469 true))) else (laws_FnChaptersBegin.j1 kj21 l1 t424 t425 t428 t448 t452 t464 t468 t469 true))) else (laws_FnChaptersBegin.j1 kj21 l1 t424 t425 t428 t448 t452 t464 t468 t469 true))) else (laws_FnChaptersBegin.j1 kj21 l1 t424 t425 t428 t448 t452 t464 t468 t469 true)) else (none)) else (laws_FnChaptersBegin.j1 kj21 l1 t424 t425 t428 t448 t452 t464 t468 t469 true)) else (laws_FnChaptersBegin.j5 kj21 l1)) = some r := by rw [if_neg (show ¬ (false = true) by decide)] at H; exact H
     clear H
     have H := H1
     clear H1
     have HC199 := Aside0.mk H
     clear H
     go_upto_if 312 with (fail)
     repeat (go_quiet (fail); go_upto_if 312 with (fail))
     go_cut [41, 42, 43, 44, 46, 47, 48, 49, 50] from 313 to 520 (fun v41 v42 v43 v44 v46 v47 v48 v49 v50 wc => ∃ (kq : Nat), Aside0 (laws_FnChaptersBegin.j5 kq l1 = some r) ∧ Aside0 (kq ≤ kj21) ∧ Aside0 (Below w.heap.size w wc))
     case first => as_aux_lemma =>
      have H := HC199.out
      clear HC199
      by_cases c200 : t429 = true
      ·subst c200
       have H1 : (if (t428.length : Int) = (t424.length : Int) then (if 0 < (t428.length : Int) then (if (rd t428 0) = 1 then ((laws_xRises.f kj21 t428).bind fun t481 => (if t481 = true then ((laws_xRises.f kj21 t436).bind fun t482 => (if t482 = true then ((laws_xSum.f kj21 t424).bind fun t483 => (if t444 = (wrap64 (t483 + (t436.length : Int))) then (if t425 = true then (if (t436.length : Int) < t448 then (laws_FnChaptersBegin.j1 kj21 l1 t424 t425 t428 t448 t452 t464 t468 t469 true) else (if t448 ≥ (t424.length : Int) then (laws_FnChaptersBegin.j1 kj21 l1 t424 t425 t428 t448 t452 t464 t468 t469 true) else (if t460 < 1 then (laws_FnChaptersBegin.j1 kj21 l1 t424 t425 t428 t448 t452 t464 t468 t469 true) else (laws_FnChaptersBegin.j1 kj21 l1 t424 t425 t428 t448 t452 t464 t468 t469 ((t452.length : Int) != (t424.length : Int)))))) else (if (t436.length : Int) = 0 then (if t448 ≥ (t424.length : Int) then (laws_FnChaptersBegin.j1 kj21 l1 t424 t425 t428 t448 t452 t464 t468 t469 true) else (if t460 < 1 then (laws_FnChaptersBegin.j1 kj21 l1 t424 t425 t428 t448 t452 t464 t468 t469 true) else (laws_FnChaptersBegin.j1 kj21 l1 t424 t425 t428 t448 t452 t464 t468 t469 ((t452.length : Int) != (t424.length : Int))))) else (laws_FnChaptersBegin.j1 kj21 l1 t424 t425 t428 t448 t452 t464 t468 t469 true))) else (laws_FnChaptersBegin.j1 kj21 l1 t424 t425 t428 t448 t452 t464 t468 t469 true))) else (laws_FnChaptersBegin.j1 kj21 l1 t424 t425 t428 t448 t452 t464 t468 t469 true))) else (laws_FnChaptersBegin.j1 kj21 l1 t424 t425 t428 t448 t452 t464 t468 t469 true))) else (laws_FnChaptersBegin.j1 kj21 l1 t424 t425 t428 t448 t452 t464 t468 t469 true)) else (none)) else (laws_FnChaptersBegin.j1 kj21 l1 t424 t425 t428 t448 t452 t464 t468 t469 true)) = some r := by rw [if_pos rfl] at H; exact H
       clear H
       have H := H1
       clear H1
       have HC201 := Aside0.mk H
       clear H
       go_upto_region 23 with (fail)
       repeat (go_quiet (fail); go_upto_region 23 with (fail))
       go_cut [377] from 313 to 376 (fun v377 wc => ∃ (kq : Nat) (x377_200 : Bool), v377 = .bool x377_200 ∧ Aside0 (laws_FnChaptersBegin.j1 kq l1 t424 t425 t428 t448 t452 t464 t468 t469 x377_200 = some r) ∧ Aside0 (kq ≤ kj21) ∧ Aside0 (Kd.R (Kd.int .i64) 3 wc w.heap.size (fun k_ => some k_ ≠ (v430 : Value).ownBlock ∧ some k_ ≠ (v454 : Value).ownBlock) (.slice Ao24 t424.length co24) t424) ∧ Aside0 (Kd.R (Kd.int .i64) 3 wc w.heap.size (fun k_ => some k_ ≠ ((.slice Ao24 t424.length co24) : Value).ownBlock ∧ some k_ ≠ (v454 : Value).ownBlock) v430 t428) ∧ Aside0 (Kd.R (Kd.int .i64) 3 wc w.heap.size (fun k_ => some k_ ≠ ((.slice Ao24 t424.length co24) : Value).ownBlock ∧ some k_ ≠ (v430 : Value).ownBlock) v454 t452) ∧ Aside0 (Below w.heap.size w wc))
       case first => as_aux_lemma =>
        have H := HC201.out
        clear HC201
        by_cases c202 : (t428.length : Int) = (t424.length : Int)
        ·rw [if_pos c202] at H
         have c202b0 : ((t428.length : Int) == (t424.length : Int)) = true := beq_iff_eq.mpr c202
         have c202b1 : ((t428.length : Int) != (t424.length : Int)) = false := bne_eq_false_iff_eq.mpr c202
         have c202b2 : (t428.length == t424.length) = true := by first | simpa using c202 | (simp at c202 ⊢; omega)
         clear c202
         (first | rw [c202b0] | skip)
         by_cases c203 : 0 < (t428.length : Int)
         ·rw [if_pos c203] at H
          have c203b0 : decide (0 < (t428.length : Int)) = true := decide_eq_true c203
          have c203b1 : decide (0 < t428.length) = true := decide_eq_true (by omega)
          clear c203
          by_cases c204 : (rd t428 0) = 1
          ·rw [if_pos c204] at H
           have c204b0 : ((rd t428 0) == 1) = true := beq_iff_eq.mpr c204
           have c204b1 : ((rd t428 0) != 1) = false := bne_eq_false_iff_eq.mpr c204
           clear c204
           replace H := Option.bind_eq_some_iff.mp H
           obtain ⟨t481, A2050, H⟩ := H
           (try dsimp only at H)
           have A205 := Aside0.mk A2050
           clear A2050
           by_cases c206 : t481 = true
           ·subst c206
            have H1 : ((laws_xRises.f kj21 t436).bind fun t482 => (if t482 = true then ((laws_xSum.f kj21 t424).bind fun t483 => (if t444 = (wrap64 (t483 + (t436.length : Int))) then (if t425 = true then (if (t436.length : Int) < t448 then (laws_FnChaptersBegin.j1 kj21 l1 t424 t425 t428 t448 t452 t464 t468 t469 true) else (if t448 ≥ (t424.length : Int) then (laws_FnChaptersBegin.j1 kj21 l1 t424 t425 t428 t448 t452 t464 t468 t469 true) else (if t460 < 1 then (laws_FnChaptersBegin.j1 kj21 l1 t424 t425 t428 t448 t452 t464 t468 t469 true) else (laws_FnChaptersBegin.j1 kj21 l1 t424 t425 t428 t448 t452 t464 t468 t469 ((t452.length : Int) != (t424.length : Int)))))) else (if (t436.length : Int) = 0 then (if t448 ≥ (t424.length : Int) then (laws_FnChaptersBegin.j1 kj21 l1 t424 t425 t428 t448 t452 t464 t468 t469 true) else (if t460 < 1 then (laws_FnChaptersBegin.j1 kj21 l1 t424 t425 t428 t448 t452 t464 t468 t469 true) else (laws_FnChaptersBegin.j1 kj21 l1 t424 t425 t428 t448 t452 t464 t468 t469 ((t452.length : Int) != (t424.length : Int))))) else (laws_FnChaptersBegin.j1 kj21 l1 t424 t425 t428 t448 t452 t464 t468 t469 true))) else (laws_FnChaptersBegin.j1 kj21 l1 t424 t425 t428 t448 t452 t464 t468 t469 true))) else (laws_FnChaptersBegin.j1 kj21 l1 t424 t425 t428 t448 t452 t464 t468 t469 true))) = some r := by rw [if_pos rfl] at H; exact H
            clear H
            have H := H1
            clear H1
            replace H := Option.bind_eq_some_iff.mp H
            obtain ⟨t482, A2070, H⟩ := H
            (try dsimp only at H)
            have A207 := Aside0.mk A2070
            clear A2070
            by_cases c208 : t482 = true
            ·subst c208
             have H1 : ((laws_xSum.f kj21 t424).bind fun t483 => (if t444 = (wrap64 (t483 + (t436.length : Int))) then (if t425 = true then (if (t436.length : Int) < t448 then (laws_FnChaptersBegin.j1 kj21 l1 t424 t425 t428 t448 t452 t464 t468 t469 true) else (if t448 ≥ (t424.length : Int) then (laws_FnChaptersBegin.j1 kj21 l1 t424 t425 t428 t448 t452 t464 t468 t469 true) else (if t460 < 1 then (laws_FnChaptersBegin.j1 kj21 l1 t424 t425 t428 t448 t452 t464 t468 t469 true) else (laws_FnChaptersBegin.j1 kj21 l1 t424 t425 t428 t448 t452 t464 t468 t469 ((t452.length : Int) != (t424.length : Int)))))) else (if (t436.length : Int) = 0 then (if t448 ≥ (t424.length : Int) then (laws_FnChaptersBegin.j1 kj21 l1 t424 t425 t428 t448 t452 t464 t468 t469 true) else (if t460 < 1 then (laws_FnChaptersBegin.j1 kj21 l1 t424 t425 t428 t448 t452 t464 t468 t469 true) else (laws_FnChaptersBegin.j1 kj21 l1 t424 t425 t428 t448 t452 t464 t468 t469 ((t452.length : Int) != (t424.length : Int))))) else (laws_FnChaptersBegin.j1 kj21 l1 t424 t425 t428 t448 t452 t464 t468 t469 true))) else (laws_FnChaptersBegin.j1 kj21 l1 t424 t425 t428 t448 t452 t464 t468 t469 true))) = some r := by rw [if_pos rfl] at H; exact H
             clear H
             have H := H1
             clear H1
             replace H := Option.bind_eq_some_iff.mp H
             obtain ⟨t483, A2090, H⟩ := H
             (try dsimp only at H)
             have A209 := Aside0.mk A2090
             clear A2090
             by_cases c210 : t444 = (wrap64 (t483 + (t436.length : Int)))
             ·rw [if_pos c210] at H
              have c210b0 : (t444 == (wrap64 (t483 + (t436.length : Int)))) = true := beq_iff_eq.mpr c210
              have c210b1 : (t444 != (wrap64 (t483 + (t436.length : Int)))) = false := bne_eq_false_iff_eq.mpr c210
              clear c210
              by_cases c211 : t425 = true
              ·subst c211
               have H1 : (if (t436.length : Int) < t448 then (laws_FnChaptersBegin.j1 kj21 l1 t424 true t428 t448 t452 t464 t468 t469 true) else (if t448 ≥ (t424.length : Int) then (laws_FnChaptersBegin.j1 kj21 l1 t424 true t428 t448 t452 t464 t468 t469 true) else (if t460 < 1 then (laws_FnChaptersBegin.j1 kj21 l1 t424 true t428 t448 t452 t464 t468 t469 true) else (laws_FnChaptersBegin.j1 kj21 l1 t424 true t428 t448 t452 t464 t468 t469 ((t452.length : Int) != (t424.length : Int)))))) = some r := by rw [if_pos rfl] at H; exact H
               clear H
               have H := H1
               clear H1
               by_cases c212 : (t436.length : Int) < t448
               ·rw [if_pos c212] at H
                have c212b0 : decide ((t436.length : Int) < t448) = true := decide_eq_true c212
                clear c212
                exact (laws_FnChaptersBegin.j1_no H hr_.out).elim
               ·rw [if_neg c212] at H
                have c212b0 : decide ((t436.length : Int) < t448) = false := decide_eq_false c212
                clear c212
                by_cases c215 : t448 ≥ (t424.length : Int)
                ·rw [if_pos c215] at H
                 have c215b0 : decide ((t424.length : Int) ≤ t448) = true := decide_eq_true c215
                 clear c215
                 exact (laws_FnChaptersBegin.j1_no H hr_.out).elim
                ·rw [if_neg c215] at H
                 have c215b0 : decide ((t424.length : Int) ≤ t448) = false := decide_eq_false c215
                 clear c215
                 by_cases c218 : t460 < 1
                 ·rw [if_pos c218] at H
                  have c218b0 : decide (t460 < 1) = true := decide_eq_true c218
                  clear c218
                  exact (laws_FnChaptersBegin.j1_no H hr_.out).elim
                 ·rw [if_neg c218] at H
                  have c218b0 : decide (t460 < 1) = false := decide_eq_false c218
                  clear c218
                  have H' := Aside0.mk H
                  clear H
                  obtain ⟨Ao221, co221, eo221⟩ := Kd.R_slice HO_7.out
                  subst eo221
                  have p480 : 0 ≤ (0 : Int) := (by omega)
                  have q480 : 0 < (t428.length : Int) := of_decide_eq_true (by first | (with_reducible assumption) | assumption)
                  obtain ⟨ad480, e480, hx480_0⟩ := Kd.at_int (Kd.R_reads' HO_7.out).2.2 0 p480 q480
                  cases e480
                  have qi480 : (0 < t428.length) = True := eq_true (by omega)
                  (try rw [show ((0 : Int)).toNat = 0 from rfl] at hx480_0)
                  (try rw [Addr.add_zero'] at hx480_0)
                  replace p480 := eq_true p480
                  replace q480 := eq_true q480
                  go_wp2_with (first | (go_at_call 25; (with_reducible refine (laws_xRises.calls kj21 _ _ t428 true _ ?side1 ?side2 A205.out).mono ?_); (case side1 => exact cr_ (Kd.R_reads' HO_7.out).2.2); (case side2 => exact (Kd.R_reads' HO_7.out).2.1); rintro e w' ⟨rfl, ⟨nd, rfl⟩⟩; (try exact dd_); obtain ⟨Ao222, co222, eo222⟩ := Kd.R_slice HO_11.out; subst eo222) | (go_at_call 25; (with_reducible refine (laws_xRises.calls kj21 _ _ t436 true _ ?side1 ?side2 A207.out).mono ?_); (case side1 => exact cr_ (Kd.R_reads' HO_11.out).2.2); (case side2 => exact (Kd.R_reads' HO_11.out).2.1); rintro e w' ⟨rfl, ⟨nd, rfl⟩⟩; (try exact dd_)) | (go_at_call 26; (with_reducible refine (laws_xSum.calls kj21 _ _ t424 t483 _ ?side1 ?side2 A209.out).mono ?_); (case side1 => exact cr_ (Kd.R_reads' HO_5.out).2.2); (case side2 => exact (Kd.R_reads' HO_5.out).2.1); rintro e w' ⟨rfl, ⟨nd, rfl⟩⟩; (try exact dd_); obtain ⟨Ao223, co223, eo223⟩ := Kd.R_slice HO_23.out; subst eo223))
                  repeat (go_quiet (first | (go_at_call 25; (with_reducible refine (laws_xRises.calls kj21 _ _ t428 true _ ?side1 ?side2 A205.out).mono ?_); (case side1 => exact cr_ (Kd.R_reads' HO_7.out).2.2); (case side2 => exact (Kd.R_reads' HO_7.out).2.1); rintro e w' ⟨rfl, ⟨nd, rfl⟩⟩; (try exact dd_); obtain ⟨Ao222, co222, eo222⟩ := Kd.R_slice HO_11.out; subst eo222) | (go_at_call 25; (with_reducible refine (laws_xRises.calls kj21 _ _ t436 true _ ?side1 ?side2 A207.out).mono ?_); (case side1 => exact cr_ (Kd.R_reads' HO_11.out).2.2); (case side2 => exact (Kd.R_reads' HO_11.out).2.1); rintro e w' ⟨rfl, ⟨nd, rfl⟩⟩; (try exact dd_)) | (go_at_call 26; (with_reducible refine (laws_xSum.calls kj21 _ _ t424 t483 _ ?side1 ?side2 A209.out).mono ?_); (case side1 => exact cr_ (Kd.R_reads' HO_5.out).2.2); (case side2 => exact (Kd.R_reads' HO_5.out).2.1); rintro e w' ⟨rfl, ⟨nd, rfl⟩⟩; (try exact dd_); obtain ⟨Ao223, co223, eo223⟩ := Kd.R_slice HO_23.out; subst eo223)); try go_wp2)
                  go_meet
                  case rel => exact ⟨_, (((t452.length : Int) != (t424.length : Int))), rs_, H', ⟨by have := HJ21.out; first | omega | exact Nat.le_refl _⟩, ⟨by (with_reducible repeat (first | apply Kd.R_alloc | apply Kd.R_drewN | apply Kd.R_drew)); exact Kd.R_mono HO_5.out (fun _ hk => ⟨hk.1, hk.2.2⟩)⟩, ⟨by (with_reducible repeat (first | apply Kd.R_alloc | apply Kd.R_drewN | apply Kd.R_drew)); exact Kd.R_mono HO_7.out (fun _ hk => ⟨hk.1, hk.2.2⟩)⟩, ⟨by (with_reducible repeat (first | apply Kd.R_alloc | apply Kd.R_drewN | apply Kd.R_drew)); exact Kd.R_mono HO_23.out (fun _ hk => ⟨hk.1, hk.2.1⟩)⟩, ⟨bw_⟩⟩
              ·replace c211 := Bool.eq_false_iff.mpr c211
               subst c211
               have H1 : (if (t436.length : Int) = 0 then (if t448 ≥ (t424.length : Int) then (laws_FnChaptersBegin.j1 kj21 l1 t424 false t428 t448 t452 t464 t468 t469 true) else (if t460 < 1 then (laws_FnChaptersBegin.j1 kj21 l1 t424 false t428 t448 t452 t464 t468 t469 true) else (laws_FnChaptersBegin.j1 kj21 l1 t424 false t428 t448 t452 t464 t468 t469 ((t452.length : Int) != (t424.length : Int))))) else (laws_FnChaptersBegin.j1 kj21 l1 t424 false t428 t448 t452 t464 t468 t469 true)) = some r := by rw [if_neg (show ¬ (false = true) by decide)] at H; exact H
               clear H
               have H := H1
               clear H1
               by_cases c224 : (t436.length : Int) = 0
               ·rw [if_pos c224] at H
                have c224b0 : ((t436.length : Int) == 0) = true := beq_iff_eq.mpr c224
                have c224b1 : ((t436.length : Int) != 0) = false := bne_eq_false_iff_eq.mpr c224
                clear c224
                by_cases c225 : t448 ≥ (t424.length : Int)
                ·rw [if_pos c225] at H
                 have c225b0 : decide ((t424.length : Int) ≤ t448) = true := decide_eq_true c225
                 clear c225
                 exact (laws_FnChaptersBegin.j1_no H hr_.out).elim
                ·rw [if_neg c225] at H
                 have c225b0 : decide ((t424.length : Int) ≤ t448) = false := decide_eq_false c225
                 clear c225
                 by_cases c228 : t460 < 1
                 ·rw [if_pos c228] at H
                  have c228b0 : decide (t460 < 1) = true := decide_eq_true c228
                  clear c228
                  exact (laws_FnChaptersBegin.j1_no H hr_.out).elim
                 ·rw [if_neg c228] at H
                  have c228b0 : decide (t460 < 1) = false := decide_eq_false c228
                  clear c228
                  have H' := Aside0.mk H
                  clear H
                  obtain ⟨Ao231, co231, eo231⟩ := Kd.R_slice HO_7.out
                  subst eo231
                  have p480 : 0 ≤ (0 : Int) := (by omega)
                  have q480 : 0 < (t428.length : Int) := of_decide_eq_true (by first | (with_reducible assumption) | assumption)
                  obtain ⟨ad480, e480, hx480_0⟩ := Kd.at_int (Kd.R_reads' HO_7.out).2.2 0 p480 q480
                  cases e480
                  have qi480 : (0 < t428.length) = True := eq_true (by omega)
                  (try rw [show ((0 : Int)).toNat = 0 from rfl] at hx480_0)
                  (try rw [Addr.add_zero'] at hx480_0)
                  replace p480 := eq_true p480
                  replace q480 := eq_true q480
                  go_wp2_with (first | (go_at_call 25; (with_reducible refine (laws_xRises.calls kj21 _ _ t428 true _ ?side1 ?side2 A205.out).mono ?_); (case side1 => exact cr_ (Kd.R_reads' HO_7.out).2.2); (case side2 => exact (Kd.R_reads' HO_7.out).2.1); rintro e w' ⟨rfl, ⟨nd, rfl⟩⟩; (try exact dd_); obtain ⟨Ao232, co232, eo232⟩ := Kd.R_slice HO_11.out; subst eo232) | (go_at_call 25; (with_reducible refine (laws_xRises.calls kj21 _ _ t436 true _ ?side1 ?side2 A207.out).mono ?_); (case side1 => exact cr_ (Kd.R_reads' HO_11.out).2.2); (case side2 => exact (Kd.R_reads' HO_11.out).2.1); rintro e w' ⟨rfl, ⟨nd, rfl⟩⟩; (try exact dd_)) | (go_at_call 26; (with_reducible refine (laws_xSum.calls kj21 _ _ t424 t483 _ ?side1 ?side2 A209.out).mono ?_); (case side1 => exact cr_ (Kd.R_reads' HO_5.out).2.2); (case side2 => exact (Kd.R_reads' HO_5.out).2.1); rintro e w' ⟨rfl, ⟨nd, rfl⟩⟩; (try exact dd_); obtain ⟨Ao233, co233, eo233⟩ := Kd.R_slice HO_23.out; subst eo233))
                  repeat (go_quiet (first | (go_at_call 25; (with_reducible refine (laws_xRises.calls kj21 _ _ t428 true _ ?side1 ?side2 A205.out).mono ?_); (case side1 => exact cr_ (Kd.R_reads' HO_7.out).2.2); (case side2 => exact (Kd.R_reads' HO_7.out).2.1); rintro e w' ⟨rfl, ⟨nd, rfl⟩⟩; (try exact dd_); obtain ⟨Ao232, co232, eo232⟩ := Kd.R_slice HO_11.out; subst eo232) | (go_at_call 25; (with_reducible refine (laws_xRises.calls kj21 _ _ t436 true _ ?side1 ?side2 A207.out).mono ?_); (case side1 => exact cr_ (Kd.R_reads' HO_11.out).2.2); (case side2 => exact (Kd.R_reads' HO_11.out).2.1); rintro e w' ⟨rfl, ⟨nd, rfl⟩⟩; (try exact dd_)) | (go_at_call 26; (with_reducible refine (laws_xSum.calls kj21 _ _ t424 t483 _ ?side1 ?side2 A209.out).mono ?_); (case side1 => exact cr_ (Kd.R_reads' HO_5.out).2.2); (case side2 => exact (Kd.R_reads' HO_5.out).2.1); rintro e w' ⟨rfl, ⟨nd, rfl⟩⟩; (try exact dd_); obtain ⟨Ao233, co233, eo233⟩ := Kd.R_slice HO_23.out; subst eo233)); try go_wp2)
                  go_meet
                  case rel => exact ⟨_, (((t452.length : Int) != (t424.length : Int))), rs_, H', ⟨by have := HJ21.out; first | omega | exact Nat.le_refl _⟩, ⟨by (with_reducible repeat (first | apply Kd.R_alloc | apply Kd.R_drewN | apply Kd.R_drew)); exact Kd.R_mono HO_5.out (fun _ hk => ⟨hk.1, hk.2.2⟩)⟩, ⟨by (with_reducible repeat (first | apply Kd.R_alloc | apply Kd.R_drewN | apply Kd.R_drew)); exact Kd.R_mono HO_7.out (fun _ hk => ⟨hk.1, hk.2.2⟩)⟩, ⟨by (with_reducible repeat (first | apply Kd.R_alloc | apply Kd.R_drewN | apply Kd.R_drew)); exact Kd.R_mono HO_23.out (fun _ hk => ⟨hk.1, hk.2.1⟩)⟩, ⟨bw_⟩⟩
               ·rw [if_neg c224] at H
                have c224b0 : ((t436.length : Int) == 0) = false := beq_eq_false_iff_ne.mpr c224
                have c224b1 : ((t436.length : Int) != 0) = true := bne_iff_ne.mpr c224
                have c224b2 : ¬ (t436 = []) := fun h_ => c224 (by rw [h_]; rfl)
                exact (laws_FnChaptersBegin.j1_no H hr_.out).elim
             ·rw [if_neg c210] at H
              have c210b0 : (t444 == (wrap64 (t483 + (t436.length : Int)))) = false := beq_eq_false_iff_ne.mpr c210
              have c210b1 : (t444 != (wrap64 (t483 + (t436.length : Int)))) = true := bne_iff_ne.mpr c210
              exact (laws_FnChaptersBegin.j1_no H hr_.out).elim
            ·replace c208 := Bool.eq_false_iff.mpr c208
             subst c208
             have H1 : (laws_FnChaptersBegin.j1 kj21 l1 t424 t425 t428 t448 t452 t464 t468 t469 true) = some r := by rw [if_neg (show ¬ (false = true) by decide)] at H; exact H
             clear H
             have H := H1
             clear H1
             exact (laws_FnChaptersBegin.j1_no H hr_.out).elim
           ·replace c206 := Bool.eq_false_iff.mpr c206
            subst c206
            have H1 : (laws_FnChaptersBegin.j1 kj21 l1 t424 t425 t428 t448 t452 t464 t468 t469 true) = some r := by rw [if_neg (show ¬ (false = true) by decide)] at H; exact H
            clear H
            have H := H1
            clear H1
            exact (laws_FnChaptersBegin.j1_no H hr_.out).elim
          ·rw [if_neg c204] at H
           have c204b0 : ((rd t428 0) == 1) = false := beq_eq_false_iff_ne.mpr c204
           have c204b1 : ((rd t428 0) != 1) = true := bne_iff_ne.mpr c204
           exact (laws_FnChaptersBegin.j1_no H hr_.out).elim
         ·rw [if_neg c203] at H
          exact absurd H (by simp)
        ·rw [if_neg c202] at H
         have c202b0 : ((t428.length : Int) == (t424.length : Int)) = false := beq_eq_false_iff_ne.mpr c202
         have c202b1 : ((t428.length : Int) != (t424.length : Int)) = true := bne_iff_ne.mpr c202
         have c202b2 : (t428.length == t424.length) = false := by first | simpa using c202 | (simp at c202 ⊢; omega)
         (first | rw [c202b0] | skip)
         exact (laws_FnChaptersBegin.j1_no H hr_.out).elim
       case rest => as_aux_lemma =>
        clear HC201
        (try clear c1); (try clear c2); (try clear p2); (try clear c3); (try clear c4); (try clear p4); (try clear q4); (try clear hx4); (try clear qi4); (try clear c5); (try clear c6); (try clear p6); (try clear c7); (try clear c8); (try clear c9); (try clear c10); (try clear c11); (try clear c12); (try clear c13); (try clear c14); (try clear c19); (try clear c20); (try clear c21); (try clear c22); (try clear c37); (try clear c37b0); (try clear c37b1); (try clear c37b2); (try clear c39); (try clear c40); (try clear c40b0); (try clear c40b1); (try clear c40b2); (try clear c44); (try clear c45); (try clear c45b0); (try clear c45b1); (try clear c45b2); (try clear p48); (try clear q48); (try clear hx48); (try clear qi48); (try clear c50); (try clear c50b0); (try clear c50b1); (try clear c51); (try clear c51b0); (try clear c51b1); (try clear c51b2); (try clear c56); (try clear c56b0); (try clear c56b1); (try clear c57); (try clear c57b0); (try clear c57b1); (try clear c57b2); (try clear c63); (try clear c64); (try clear c64b0); (try clear c64b1); (try clear c64b2); (try clear p64); (try clear c71); (try clear c71b0); (try clear c71b1); (try clear c72); (try clear c72b0); (try clear c72b1); (try clear c72b2); (try clear c79); (try clear c79b0); (try clear c79b1); (try clear c80); (try clear c80b0); (try clear c80b1); (try clear c80b2); (try clear c87); (try clear c87b0); (try clear c87b1); (try clear c88); (try clear c88b0); (try clear c88b1); (try clear c90); (try clear c90b0); (try clear c90b1); (try clear c90b2); (try clear c99); (try clear c99b0); (try clear c99b1); (try clear c99b2); (try clear c106); (try clear c106b0); (try clear c106b1); (try clear c106b2); (try clear c113); (try clear c113b0); (try clear c113b1); (try clear c113b2); (try clear c120); (try clear c120b0); (try clear c120b1); (try clear c120b2); (try clear c127); (try clear c127b0); (try clear c127b1); (try clear c127b2); (try clear c134); (try clear c134b0); (try clear c134b1); (try clear c134b2); (try clear c141); (try clear c141b0); (try clear c141b1); (try clear c141b2); (try clear c198); (try clear c200); (try clear c202); (try clear c202b0); (try clear c202b1); (try clear c202b2); (try clear c203); (try clear c203b0); (try clear c203b1); (try clear c204); (try clear c204b0); (try clear c204b1); (try clear c206); (try clear c208); (try clear c210); (try clear c210b0); (try clear c210b1); (try clear c211); (try clear c212); (try clear c212b0); (try clear c215); (try clear c215b0); (try clear c218); (try clear c218b0); (try clear c224); (try clear c224b0); (try clear c224b1); (try clear c224b2); (try clear c225); (try clear c225b0); (try clear c228); (try clear c228b0); (try clear hx480_0); (try clear p480); (try clear q480)
        obtain ⟨kq, x377_200, rfl, HA, HJ200, HO_5, HO_7, HO_23, HB⟩ := hcut
        cases kq with
        | zero => exact absurd HA.out (by simp [laws_FnChaptersBegin.j1])
        | succ kj200 =>
         have H := HA.out
         clear HA
         simp only [laws_FnChaptersBegin.j1] at H
         by_cases c243 : x377_200 = true
         ·subst c243
          have H1 : (some false) = some r := by rw [if_pos rfl] at H; exact H
          clear H
          have H := H1
          clear H1
          obtain rfl := Option.some.inj H
          exact absurd hr_.out (by decide)
         ·replace c243 := Bool.eq_false_iff.mpr c243
          subst c243
          have H1 : (laws_FnChaptersBegin.l0 kj200 l1 t424 t425 t428 t448 t452 t464 t468 t469 t428 (t428.length : Int) 0) = some r := by rw [if_neg (show ¬ (false = true) by decide)] at H; exact H
          clear H
          have H := H1
          clear H1
          have H' := Aside0.mk H
          clear H
          obtain ⟨Ao244, co244, eo244⟩ := Kd.R_slice HO_7.out
          subst eo244
          go_wp2
          repeat (go_quiet (fail); try go_wp2)
          go_loopg [380] kj200 (fun kq v380 w' => ∃ (x380_3 : Int), v380 = .int .i64 x380_3 ∧ Aside0 (laws_FnChaptersBegin.l0 kq l1 t424 t425 t428 t448 t452 t464 t468 t469 t428 (t428.length : Int) x380_3 = some r) ∧ Aside0 (kq ≤ kj200) ∧ Aside0 (Kd.R (Kd.int .i64) 3 w' w.heap.size (fun k_ => some k_ ≠ ((.slice Ao244 t428.length co244) : Value).ownBlock ∧ some k_ ≠ (v454 : Value).ownBlock ∧ some k_ ≠ ((.slice Ao244 t428.length co244) : Value).ownBlock) (.slice Ao24 t424.length co24) t424) ∧ Aside0 (Kd.R (Kd.int .i64) 3 w' w.heap.size (fun k_ => some k_ ≠ ((.slice Ao24 t424.length co24) : Value).ownBlock ∧ some k_ ≠ (v454 : Value).ownBlock) (.slice Ao244 t428.length co244) t428) ∧ Aside0 (Kd.R (Kd.int .i64) 3 w' w.heap.size (fun k_ => some k_ ≠ ((.slice Ao24 t424.length co24) : Value).ownBlock ∧ some k_ ≠ ((.slice Ao244 t428.length co244) : Value).ownBlock ∧ some k_ ≠ ((.slice Ao244 t428.length co244) : Value).ownBlock) v454 t452) ∧ Aside0 (Kd.R (Kd.int .i64) 3 w' w.heap.size (fun k_ => some k_ ≠ ((.slice Ao24 t424.length co24) : Value).ownBlock ∧ some k_ ≠ (v454 : Value).ownBlock) (.slice Ao244 t428.length co244) t428) ∧ Aside0 (Below w.heap.size w w'))
          case atStart => exact ⟨(0), rs_, H', ⟨Nat.le_refl _⟩, ⟨by (with_reducible repeat (first | apply Kd.R_alloc | apply Kd.R_drewN | apply Kd.R_drew)); exact Kd.R_mono HO_5.out (fun _ hk => ⟨hk.1, ⟨hk.2, hk.1⟩⟩)⟩, ⟨rr_ HO_7.out⟩, ⟨by (with_reducible repeat (first | apply Kd.R_alloc | apply Kd.R_drewN | apply Kd.R_drew)); exact Kd.R_mono HO_23.out (fun _ hk => ⟨hk.1, ⟨hk.2, hk.2⟩⟩)⟩, ⟨rr_ HO_7.out⟩, ⟨bw_⟩⟩
          case round =>
           clear H'
           (try clear c1); (try clear c2); (try clear p2); (try clear c3); (try clear c4); (try clear p4); (try clear q4); (try clear hx4); (try clear qi4); (try clear c5); (try clear c6); (try clear p6); (try clear c7); (try clear c8); (try clear c9); (try clear c10); (try clear c11); (try clear c12); (try clear c13); (try clear c14); (try clear c19); (try clear c20); (try clear c21); (try clear c22); (try clear c24); (try clear c37); (try clear c37b0); (try clear c37b1); (try clear c37b2); (try clear c39); (try clear c40); (try clear c40b0); (try clear c40b1); (try clear c40b2); (try clear c44); (try clear c45); (try clear c45b0); (try clear c45b1); (try clear c45b2); (try clear p48); (try clear q48); (try clear hx48); (try clear qi48); (try clear c50); (try clear c50b0); (try clear c50b1); (try clear c51); (try clear c51b0); (try clear c51b1); (try clear c51b2); (try clear c56); (try clear c56b0); (try clear c56b1); (try clear c57); (try clear c57b0); (try clear c57b1); (try clear c57b2); (try clear c63); (try clear c64); (try clear c64b0); (try clear c64b1); (try clear c64b2); (try clear p64); (try clear c71); (try clear c71b0); (try clear c71b1); (try clear c72); (try clear c72b0); (try clear c72b1); (try clear c72b2); (try clear c79); (try clear c79b0); (try clear c79b1); (try clear c80); (try clear c80b0); (try clear c80b1); (try clear c80b2); (try clear c87); (try clear c87b0); (try clear c87b1); (try clear c88); (try clear c88b0); (try clear c88b1); (try clear c90); (try clear c90b0); (try clear c90b1); (try clear c90b2); (try clear c99); (try clear c99b0); (try clear c99b1); (try clear c99b2); (try clear c106); (try clear c106b0); (try clear c106b1); (try clear c106b2); (try clear c113); (try clear c113b0); (try clear c113b1); (try clear c113b2); (try clear c120); (try clear c120b0); (try clear c120b1); (try clear c120b2); (try clear c127); (try clear c127b0); (try clear c127b1); (try clear c127b2); (try clear c134); (try clear c134b0); (try clear c134b1); (try clear c134b2); (try clear c141); (try clear c141b0); (try clear c141b1); (try clear c141b2); (try clear c198); (try clear c200); (try clear c202); (try clear c202b0); (try clear c202b1); (try clear c202b2); (try clear c203); (try clear c203b0); (try clear c203b1); (try clear c204); (try clear c204b0); (try clear c204b1); (try clear c206); (try clear c208); (try clear c210); (try clear c210b0); (try clear c210b1); (try clear c211); (try clear c212); (try clear c212b0); (try clear c215); (try clear c215b0); (try clear c218); (try clear c218b0); (try clear c224); (try clear c224b0); (try clear c224b1); (try clear c224b2); (try clear c225); (try clear c225b0); (try clear c228); (try clear c228b0); (try clear c243); (try clear hx480_0); (try clear p480); (try clear q480)
           obtain ⟨x380_3, rfl, HA, HK3, HO_5, HO_7, HO_23, HO_378, HB⟩ := hrel
           cases gk with
           | zero => exact absurd HA.out (by simp [laws_FnChaptersBegin.l0])
           | succ k3 =>
            have H := HA.out
            clear HA
            simp only [laws_FnChaptersBegin.l0] at H
            by_cases c245 : x380_3 < (t428.length : Int)
            ·rw [if_pos c245] at H
             have c245b0 : decide (x380_3 < (t428.length : Int)) = true := decide_eq_true c245
             clear c245
             by_cases c246 : 0 ≤ x380_3
             ·rw [if_pos c246] at H
              have c246b0 : decide (0 ≤ x380_3) = true := decide_eq_true c246
              clear c246
              by_cases c247 : x380_3 < (t428.length : Int)
              ·rw [if_pos c247] at H
               have c247b0 : decide (x380_3 < (t428.length : Int)) = true := decide_eq_true c247
               clear c247
               have HC248 := Aside0.mk H
               clear H
               have p484 : 0 ≤ (x380_3 : Int) := of_decide_eq_true (by first | (with_reducible assumption) | assumption)
               have q484 : x380_3 < (t428.length : Int) := of_decide_eq_true (by first | (with_reducible assumption) | assumption)
               obtain ⟨ad484, e484, hx484_0⟩ := Kd.at_int (Kd.R_reads' HO_378.out).2.2 x380_3 p484 q484
               cases e484
               replace p484 := eq_true p484
               replace q484 := eq_true q484
               go_upto_region 28 with (fail)
               repeat (go_quiet (fail); go_upto_region 28 with (fail))
               go_cut [425] from 385 to 424 (fun v425 wc => ∃ (kq : Nat) (x425_247 : Bool), v425 = .bool x425_247 ∧ Aside0 (laws_FnChaptersBegin.j3 kq l1 t424 t425 t428 t448 t452 t464 t468 t469 x380_3 t428 (t428.length : Int) x380_3 x425_247 = some r) ∧ Aside0 (kq ≤ k3) ∧ Aside0 (Kd.R (Kd.int .i64) 3 wc w.heap.size (fun k_ => some k_ ≠ ((.slice (some ad484) t428.length co244) : Value).ownBlock ∧ some k_ ≠ (v454 : Value).ownBlock ∧ some k_ ≠ ((.slice (some ad484) t428.length co244) : Value).ownBlock) (.slice Ao24 t424.length co24) t424) ∧ Aside0 (Kd.R (Kd.int .i64) 3 wc w.heap.size (fun k_ => some k_ ≠ ((.slice Ao24 t424.length co24) : Value).ownBlock ∧ some k_ ≠ (v454 : Value).ownBlock) (.slice (some ad484) t428.length co244) t428) ∧ Aside0 (Kd.R (Kd.int .i64) 3 wc w.heap.size (fun k_ => some k_ ≠ ((.slice Ao24 t424.length co24) : Value).ownBlock ∧ some k_ ≠ ((.slice (some ad484) t428.length co244) : Value).ownBlock ∧ some k_ ≠ ((.slice (some ad484) t428.length co244) : Value).ownBlock) v454 t452) ∧ Aside0 (Kd.R (Kd.int .i64) 3 wc w.heap.size (fun k_ => some k_ ≠ ((.slice Ao24 t424.length co24) : Value).ownBlock ∧ some k_ ≠ (v454 : Value).ownBlock) (.slice (some ad484) t428.length co244) t428) ∧ Aside0 (Below w.heap.size w wc))
               case first => as_aux_lemma =>
                have H := HC248.out
                clear HC248
                by_cases c249 : t425 = true
                ·subst c249
                 have H1 : (if (Int.tmod (rd t428 x380_3) 2) = 1 then (if x380_3 > 0 then (if 0 ≤ (wrap64 (x380_3 - 1)) then (if (wrap64 (x380_3 - 1)) < (t428.length : Int) then (if (wrap64 (x380_3 - 1)) < (t424.length : Int) then (if (rd t428 x380_3) < (wrap64 ((rd t428 (wrap64 (x380_3 - 1))) + (rd t424 (wrap64 (x380_3 - 1))))) then (laws_FnChaptersBegin.j3 k3 l1 t424 true t428 t448 t452 t464 t468 t469 x380_3 t428 (t428.length : Int) x380_3 true) else (laws_FnChaptersBegin.j3 k3 l1 t424 true t428 t448 t452 t464 t468 t469 x380_3 t428 (t428.length : Int) x380_3 (decide ((rd t428 x380_3) > (wrap64 ((wrap64 ((rd t428 (wrap64 (x380_3 - 1))) + (rd t424 (wrap64 (x380_3 - 1))))) + 1)))))) else (none)) else (none)) else (none)) else (laws_FnChaptersBegin.j3 k3 l1 t424 true t428 t448 t452 t464 t468 t469 x380_3 t428 (t428.length : Int) x380_3 false)) else (laws_FnChaptersBegin.j3 k3 l1 t424 true t428 t448 t452 t464 t468 t469 x380_3 t428 (t428.length : Int) x380_3 true)) = some r := by rw [if_pos rfl] at H; exact H
                 clear H
                 have H := H1
                 clear H1
                 by_cases c250 : (Int.tmod (rd t428 x380_3) 2) = 1
                 ·rw [if_pos c250] at H
                  have c250b0 : ((Int.tmod (rd t428 x380_3) 2) == 1) = true := beq_iff_eq.mpr c250
                  have c250b1 : ((Int.tmod (rd t428 x380_3) 2) != 1) = false := bne_eq_false_iff_eq.mpr c250
                  clear c250
                  (first | rw [c250b0] | skip)
                  by_cases c251 : x380_3 > 0
                  ·rw [if_pos c251] at H
                   have c251b0 : decide (0 < x380_3) = true := decide_eq_true c251
                   clear c251
                   obtain ⟨ji252, hji252⟩ : ∃ j_ : Int, (wrap64 (x380_3 - 1)) = j_ := ⟨_, rfl⟩
                   replace H : (if 0 ≤ (ji252) then (if (ji252) < (t428.length : Int) then (if (ji252) < (t424.length : Int) then (if (rd t428 x380_3) < (wrap64 ((rd t428 (ji252)) + (rd t424 (ji252)))) then (laws_FnChaptersBegin.j3 k3 l1 t424 true t428 t448 t452 t464 t468 t469 x380_3 t428 (t428.length : Int) x380_3 true) else (laws_FnChaptersBegin.j3 k3 l1 t424 true t428 t448 t452 t464 t468 t469 x380_3 t428 (t428.length : Int) x380_3 (decide ((rd t428 x380_3) > (wrap64 ((wrap64 ((rd t428 (ji252)) + (rd t424 (ji252)))) + 1)))))) else (none)) else (none)) else (none)) = some r := by first | (rw [hji252] at H; exact H) | (simp only [hji252] at H ⊢; exact H)
                   have hji252w : (IntKind.i64.wrap (x380_3 - 1)) = ji252 := (i64_w _).trans hji252
                   by_cases c253 : 0 ≤ (ji252)
                   ·rw [if_pos c253] at H
                    have c253b0 : decide (0 ≤ (ji252)) = true := decide_eq_true c253
                    clear c253
                    by_cases c254 : (ji252) < (t428.length : Int)
                    ·rw [if_pos c254] at H
                     have c254b0 : decide ((ji252) < (t428.length : Int)) = true := decide_eq_true c254
                     clear c254
                     by_cases c255 : (ji252) < (t424.length : Int)
                     ·rw [if_pos c255] at H
                      have c255b0 : decide ((ji252) < (t424.length : Int)) = true := decide_eq_true c255
                      clear c255
                      by_cases c256 : (rd t428 x380_3) < (wrap64 ((rd t428 (ji252)) + (rd t424 (ji252))))
                      ·rw [if_pos c256] at H
                       have c256b0 : decide ((rd t428 x380_3) < (wrap64 ((rd t428 (ji252)) + (rd t424 (ji252))))) = true := decide_eq_true c256
                       clear c256
                       exact (laws_FnChaptersBegin.j3_no H hr_.out).elim
                      ·rw [if_neg c256] at H
                       have c256b0 : decide ((rd t428 x380_3) < (wrap64 ((rd t428 (ji252)) + (rd t424 (ji252))))) = false := decide_eq_false c256
                       clear c256
                       have H' := Aside0.mk H
                       clear H
                       have p485 : 0 ≤ ((ji252) : Int) := of_decide_eq_true (by first | (with_reducible assumption) | assumption)
                       have q485 : (ji252) < (t428.length : Int) := of_decide_eq_true (by first | (with_reducible assumption) | assumption)
                       obtain ⟨ad485, e485, hx485_0⟩ := Kd.at_int (Kd.R_reads' HO_7.out).2.2 (ji252) p485 q485
                       obtain rfl : ad484 = ad485 := (by injection e485)
                       replace p485 := eq_true p485
                       replace q485 := eq_true q485
                       have p486 : 0 ≤ ((ji252) : Int) := of_decide_eq_true (by first | (with_reducible assumption) | assumption)
                       have q486 : (ji252) < (t424.length : Int) := of_decide_eq_true (by first | (with_reducible assumption) | assumption)
                       obtain ⟨ad486, e486, hx486_0⟩ := Kd.at_int (Kd.R_reads' HO_5.out).2.2 (ji252) p486 q486
                       cases e486
                       replace p486 := eq_true p486
                       replace q486 := eq_true q486
                       have p487 : 0 ≤ ((ji252) : Int) := of_decide_eq_true (by first | (with_reducible assumption) | assumption)
                       have q487 : (ji252) < (t428.length : Int) := of_decide_eq_true (by first | (with_reducible assumption) | assumption)
                       obtain ⟨ad487, e487, hx487_0⟩ := Kd.at_int (Kd.R_reads' HO_7.out).2.2 (ji252) p487 q487
                       obtain rfl : ad484 = ad487 := (by injection e487)
                       replace p487 := eq_true p487
                       replace q487 := eq_true q487
                       have p488 : 0 ≤ ((ji252) : Int) := of_decide_eq_true (by first | (with_reducible assumption) | assumption)
                       have q488 : (ji252) < (t424.length : Int) := of_decide_eq_true (by first | (with_reducible assumption) | assumption)
                       obtain ⟨ad488, e488, hx488_0⟩ := Kd.at_int (Kd.R_reads' HO_5.out).2.2 (ji252) p488 q488
                       obtain rfl : ad486 = ad488 := (by injection e488)
                       replace p488 := eq_true p488
                       replace q488 := eq_true q488
                       go_wp2
                       repeat (go_quiet (fail); try go_wp2)
                       go_meet
                       case rel => exact ⟨_, (decide ((rd t428 x380_3) > (wrap64 ((wrap64 ((rd t428 (ji252)) + (rd t424 (ji252)))) + 1)))), (by first | rfl | (simp; done) | (simp only [← hji252] <;> (first | rfl | simp)) | (simp [*]; done)), H', ⟨by have := HJ21.out; have := HJ200.out; have := HK3.out; first | omega | exact Nat.le_refl _⟩, ⟨rr_ HO_5.out⟩, ⟨rr_ HO_7.out⟩, ⟨rr_ HO_23.out⟩, ⟨rr_ HO_378.out⟩, ⟨bw_⟩⟩
                     ·rw [if_neg c255] at H
                      exact absurd H (by simp)
                    ·rw [if_neg c254] at H
                     exact absurd H (by simp)
                   ·rw [if_neg c253] at H
                    exact absurd H (by simp)
                  ·rw [if_neg c251] at H
                   have c251b0 : decide (0 < x380_3) = false := decide_eq_false c251
                   clear c251
                   have H' := Aside0.mk H
                   clear H
                   go_wp2
                   repeat (go_quiet (fail); try go_wp2)
                   go_meet
                   case rel => exact ⟨_, (false), rs_, H', ⟨by have := HJ21.out; have := HJ200.out; have := HK3.out; first | omega | exact Nat.le_refl _⟩, ⟨rr_ HO_5.out⟩, ⟨rr_ HO_7.out⟩, ⟨rr_ HO_23.out⟩, ⟨rr_ HO_378.out⟩, ⟨bw_⟩⟩
                 ·rw [if_neg c250] at H
                  have c250b0 : ((Int.tmod (rd t428 x380_3) 2) == 1) = false := beq_eq_false_iff_ne.mpr c250
                  have c250b1 : ((Int.tmod (rd t428 x380_3) 2) != 1) = true := bne_iff_ne.mpr c250
                  (first | rw [c250b0] | skip)
                  exact (laws_FnChaptersBegin.j3_no H hr_.out).elim
                ·replace c249 := Bool.eq_false_iff.mpr c249
                 subst c249
                 have H1 : (if x380_3 > 0 then (if 0 ≤ (wrap64 (x380_3 - 1)) then (if (wrap64 (x380_3 - 1)) < (t428.length : Int) then (if (wrap64 (x380_3 - 1)) < (t424.length : Int) then (if (rd t428 x380_3) < (wrap64 ((rd t428 (wrap64 (x380_3 - 1))) + (rd t424 (wrap64 (x380_3 - 1))))) then (laws_FnChaptersBegin.j3 k3 l1 t424 false t428 t448 t452 t464 t468 t469 x380_3 t428 (t428.length : Int) x380_3 true) else (laws_FnChaptersBegin.j3 k3 l1 t424 false t428 t448 t452 t464 t468 t469 x380_3 t428 (t428.length : Int) x380_3 (decide ((rd t428 x380_3) > (wrap64 ((wrap64 ((rd t428 (wrap64 (x380_3 - 1))) + (rd t424 (wrap64 (x380_3 - 1))))) + 1)))))) else (none)) else (none)) else (none)) else (laws_FnChaptersBegin.j3 k3 l1 t424 false t428 t448 t452 t464 t468 t469 x380_3 t428 (t428.length : Int) x380_3 false)) = some r := by rw [if_neg (show ¬ (false = true) by decide)] at H; exact H
                 clear H
                 have H := H1
                 clear H1
                 by_cases c257 : x380_3 > 0
                 ·rw [if_pos c257] at H
                  have c257b0 : decide (0 < x380_3) = true := decide_eq_true c257
                  clear c257
                  obtain ⟨ji258, hji258⟩ : ∃ j_ : Int, (wrap64 (x380_3 - 1)) = j_ := ⟨_, rfl⟩
                  replace H : (if 0 ≤ (ji258) then (if (ji258) < (t428.length : Int) then (if (ji258) < (t424.length : Int) then (if (rd t428 x380_3) < (wrap64 ((rd t428 (ji258)) + (rd t424 (ji258)))) then (laws_FnChaptersBegin.j3 k3 l1 t424 false t428 t448 t452 t464 t468 t469 x380_3 t428 (t428.length : Int) x380_3 true) else (laws_FnChaptersBegin.j3 k3 l1 t424 false t428 t448 t452 t464 t468 t469 x380_3 t428 (t428.length : Int) x380_3 (decide ((rd t428 x380_3) > (wrap64 ((wrap64 ((rd t428 (ji258)) + (rd t424 (ji258)))) + 1)))))) else (none)) else (none)) else (none)) = some r := by first | (rw [hji258] at H; exact H) | (simp only [hji258] at H ⊢; exact H)
                  have hji258w : (IntKind.i64.wrap (x380_3 - 1)) = ji258 := (i64_w _).trans hji258
                  by_cases c259 : 0 ≤ (ji258)
                  ·rw [if_pos c259] at H
                   have c259b0 : decide (0 ≤ (ji258)) = true := decide_eq_true c259
                   clear c259
                   by_cases c260 : (ji258) < (t428.length : Int)
                   ·rw [if_pos c260] at H
                    have c260b0 : decide ((ji258) < (t428.length : Int)) = true := decide_eq_true c260
                    clear c260
                    by_cases c261 : (ji258) < (t424.length : Int)
                    ·rw [if_pos c261] at H
                     have c261b0 : decide ((ji258) < (t424.length : Int)) = true := decide_eq_true c261
                     clear c261
                     by_cases c262 : (rd t428 x380_3) < (wrap64 ((rd t428 (ji258)) + (rd t424 (ji258))))
                     ·rw [if_pos c262] at H
                      have c262b0 : decide ((rd t428 x380_3) < (wrap64 ((rd t428 (ji258)) + (rd t424 (ji258))))) = true := decide_eq_true c262
                      clear c262
                      exact (laws_FnChaptersBegin.j3_no H hr_.out).elim
                     ·rw [if_neg c262] at H
                      have c262b0 : decide ((rd t428 x380_3) < (wrap64 ((rd t428 (ji258)) + (rd t424 (ji258))))) = false := decide_eq_false c262
                      clear c262
                      have H' := Aside0.mk H
                      clear H
                      have p489 : 0 ≤ ((ji258) : Int) := of_decide_eq_true (by first | (with_reducible assumption) | assumption)
                      have q489 : (ji258) < (t428.length : Int) := of_decide_eq_true (by first | (with_reducible assumption) | assumption)
                      obtain ⟨ad489, e489, hx489_0⟩ := Kd.at_int (Kd.R_reads' HO_7.out).2.2 (ji258) p489 q489
                      obtain rfl : ad484 = ad489 := (by injection e489)
                      replace p489 := eq_true p489
                      replace q489 := eq_true q489
                      have p490 : 0 ≤ ((ji258) : Int) := of_decide_eq_true (by first | (with_reducible assumption) | assumption)
                      have q490 : (ji258) < (t424.length : Int) := of_decide_eq_true (by first | (with_reducible assumption) | assumption)
                      obtain ⟨ad490, e490, hx490_0⟩ := Kd.at_int (Kd.R_reads' HO_5.out).2.2 (ji258) p490 q490
                      cases e490
                      replace p490 := eq_true p490
                      replace q490 := eq_true q490
                      have p491 : 0 ≤ ((ji258) : Int) := of_decide_eq_true (by first | (with_reducible assumption) | assumption)
                      have q491 : (ji258) < (t428.length : Int) := of_decide_eq_true (by first | (with_reducible assumption) | assumption)
                      obtain ⟨ad491, e491, hx491_0⟩ := Kd.at_int (Kd.R_reads' HO_7.out).2.2 (ji258) p491 q491
                      obtain rfl : ad484 = ad491 := (by injection e491)
                      replace p491 := eq_true p491
                      replace q491 := eq_true q491
                      have p492 : 0 ≤ ((ji258) : Int) := of_decide_eq_true (by first | (with_reducible assumption) | assumption)
                      have q492 : (ji258) < (t424.length : Int) := of_decide_eq_true (by first | (with_reducible assumption) | assumption)
                      obtain ⟨ad492, e492, hx492_0⟩ := Kd.at_int (Kd.R_reads' HO_5.out).2.2 (ji258) p492 q492
                      obtain rfl : ad490 = ad492 := (by injection e492)
                      replace p492 := eq_true p492
                      replace q492 := eq_true q492
                      go_wp2
                      repeat (go_quiet (fail); try go_wp2)
                      go_meet
                      case rel => exact ⟨_, (decide ((rd t428 x380_3) > (wrap64 ((wrap64 ((rd t428 (ji258)) + (rd t424 (ji258)))) + 1)))), (by first | rfl | (simp; done) | (simp only [← hji258] <;> (first | rfl | simp)) | (simp [*]; done)), H', ⟨by have := HJ21.out; have := HJ200.out; have := HK3.out; first | omega | exact Nat.le_refl _⟩, ⟨rr_ HO_5.out⟩, ⟨rr_ HO_7.out⟩, ⟨rr_ HO_23.out⟩, ⟨rr_ HO_378.out⟩, ⟨bw_⟩⟩
                    ·rw [if_neg c261] at H
                     exact absurd H (by simp)
                   ·rw [if_neg c260] at H
                    exact absurd H (by simp)
                  ·rw [if_neg c259] at H
                   exact absurd H (by simp)
                 ·rw [if_neg c257] at H
                  have c257b0 : decide (0 < x380_3) = false := decide_eq_false c257
                  clear c257
                  have H' := Aside0.mk H
                  clear H
                  go_wp2
                  repeat (go_quiet (fail); try go_wp2)
                  go_meet
                  case rel => exact ⟨_, (false), rs_, H', ⟨by have := HJ21.out; have := HJ200.out; have := HK3.out; first | omega | exact Nat.le_refl _⟩, ⟨rr_ HO_5.out⟩, ⟨rr_ HO_7.out⟩, ⟨rr_ HO_23.out⟩, ⟨rr_ HO_378.out⟩, ⟨bw_⟩⟩
               case rest => as_aux_lemma =>
                clear HC248
                (try clear c1); (try clear c2); (try clear p2); (try clear c3); (try clear c4); (try clear p4); (try clear q4); (try clear hx4); (try clear qi4); (try clear c5); (try clear c6); (try clear p6); (try clear c7); (try clear c8); (try clear c9); (try clear c10); (try clear c11); (try clear c12); (try clear c13); (try clear c14); (try clear c19); (try clear c20); (try clear c21); (try clear c22); (try clear c24); (try clear c25); (try clear c26); (try clear c37); (try clear c37b0); (try clear c37b1); (try clear c37b2); (try clear c39); (try clear c40); (try clear c40b0); (try clear c40b1); (try clear c40b2); (try clear c44); (try clear c45); (try clear c45b0); (try clear c45b1); (try clear c45b2); (try clear p48); (try clear q48); (try clear hx48); (try clear qi48); (try clear p49); (try clear q49); (try clear hx49); (try clear c50); (try clear c50b0); (try clear c50b1); (try clear c51); (try clear c51b0); (try clear c51b1); (try clear c51b2); (try clear c56); (try clear c56b0); (try clear c56b1); (try clear c57); (try clear c57b0); (try clear c57b1); (try clear c57b2); (try clear c63); (try clear c64); (try clear c64b0); (try clear c64b1); (try clear c64b2); (try clear p64); (try clear c71); (try clear c71b0); (try clear c71b1); (try clear c72); (try clear c72b0); (try clear c72b1); (try clear c72b2); (try clear c79); (try clear c79b0); (try clear c79b1); (try clear c80); (try clear c80b0); (try clear c80b1); (try clear c80b2); (try clear c87); (try clear c87b0); (try clear c87b1); (try clear c88); (try clear c88b0); (try clear c88b1); (try clear c90); (try clear c90b0); (try clear c90b1); (try clear c90b2); (try clear c99); (try clear c99b0); (try clear c99b1); (try clear c99b2); (try clear c106); (try clear c106b0); (try clear c106b1); (try clear c106b2); (try clear c113); (try clear c113b0); (try clear c113b1); (try clear c113b2); (try clear c120); (try clear c120b0); (try clear c120b1); (try clear c120b2); (try clear c127); (try clear c127b0); (try clear c127b1); (try clear c127b2); (try clear c134); (try clear c134b0); (try clear c134b1); (try clear c134b2); (try clear c141); (try clear c141b0); (try clear c141b1); (try clear c141b2); (try clear c198); (try clear c200); (try clear c202); (try clear c202b0); (try clear c202b1); (try clear c202b2); (try clear c203); (try clear c203b0); (try clear c203b1); (try clear c204); (try clear c204b0); (try clear c204b1); (try clear c206); (try clear c208); (try clear c210); (try clear c210b0); (try clear c210b1); (try clear c211); (try clear c212); (try clear c212b0); (try clear c215); (try clear c215b0); (try clear c218); (try clear c218b0); (try clear c224); (try clear c224b0); (try clear c224b1); (try clear c224b2); (try clear c225); (try clear c225b0); (try clear c228); (try clear c228b0); (try clear c243); (try clear c245); (try clear c245b0); (try clear c246); (try clear c246b0); (try clear c247); (try clear c247b0); (try clear c249); (try clear c250); (try clear c250b0); (try clear c250b1); (try clear c251); (try clear c251b0); (try clear c253); (try clear c253b0); (try clear c254); (try clear c254b0); (try clear c255); (try clear c255b0); (try clear c256); (try clear c256b0); (try clear c257); (try clear c257b0); (try clear c259); (try clear c259b0); (try clear c260); (try clear c260b0); (try clear c261); (try clear c261b0); (try clear c262); (try clear c262b0); (try clear hx480_0); (try clear hx484_0); (try clear hx485_0); (try clear hx486_0); (try clear hx487_0); (try clear hx488_0); (try clear hx489_0); (try clear hx490_0); (try clear hx491_0); (try clear hx492_0); (try clear p480); (try clear p484); (try clear p485); (try clear p486); (try clear p487); (try clear p488); (try clear p489); (try clear p490); (try clear p491); (try clear p492); (try clear q480); (try clear q484); (try clear q485); (try clear q486); (try clear q487); (try clear q488); (try clear q489); (try clear q490); (try clear q491); (try clear q492)
                obtain ⟨kq, x425_247, rfl, HA, HJ247, HO_5, HO_7, HO_23, HO_378, HB⟩ := hcut
                cases kq with
                | zero => exact absurd HA.out (by simp [laws_FnChaptersBegin.j3])
                | succ kj247 =>
                 have H := HA.out
                 clear HA
                 simp only [laws_FnChaptersBegin.j3] at H
                 by_cases c263 : x425_247 = true
                 ·subst c263
                  have H1 : (some false) = some r := by rw [if_pos rfl] at H; exact H
                  clear H
                  have H := H1
                  clear H1
                  obtain rfl := Option.some.inj H
                  exact absurd hr_.out (by decide)
                 ·replace c263 := Bool.eq_false_iff.mpr c263
                  subst c263
                  have H1 : (if 0 ≤ x380_3 then (if x380_3 < (t424.length : Int) then (if (rd t424 x380_3) > t469 then (some false) else (if (rd t424 x380_3) = t469 then (if x380_3 < t468 then (some false) else (if x380_3 = t468 then (laws_FnChaptersBegin.l0 kj247 l1 t424 t425 t428 t448 t452 t464 t468 t469 t428 (t428.length : Int) (wrap64 (x380_3 + 1))) else (laws_FnChaptersBegin.l0 kj247 l1 t424 t425 t428 t448 t452 t464 t468 t469 t428 (t428.length : Int) (wrap64 (x380_3 + 1))))) else (if x380_3 = t468 then (some false) else (laws_FnChaptersBegin.l0 kj247 l1 t424 t425 t428 t448 t452 t464 t468 t469 t428 (t428.length : Int) (wrap64 (x380_3 + 1)))))) else (none)) else (none)) = some r := by rw [if_neg (show ¬ (false = true) by decide)] at H; exact H
                  clear H
                  have H := H1
                  clear H1
                  by_cases c264 : 0 ≤ x380_3
                  ·rw [if_pos c264] at H
                   have c264b0 : decide (0 ≤ x380_3) = true := decide_eq_true c264
                   clear c264
                   by_cases c265 : x380_3 < (t424.length : Int)
                   ·rw [if_pos c265] at H
                    have c265b0 : decide (x380_3 < (t424.length : Int)) = true := decide_eq_true c265
                    clear c265
                    by_cases c266 : (rd t424 x380_3) > t469
                    ·rw [if_pos c266] at H
                     have c266b0 : decide (t469 < (rd t424 x380_3)) = true := decide_eq_true c266
                     clear c266
                     obtain rfl := Option.some.inj H
                     exact absurd hr_.out (by decide)
                    ·rw [if_neg c266] at H
                     have c266b0 : decide (t469 < (rd t424 x380_3)) = false := decide_eq_false c266
                     clear c266
                     by_cases c267 : (rd t424 x380_3) = t469
                     ·rw [if_pos c267] at H
                      have c267b0 : ((rd t424 x380_3) == t469) = true := beq_iff_eq.mpr c267
                      have c267b1 : ((rd t424 x380_3) != t469) = false := bne_eq_false_iff_eq.mpr c267
                      clear c267
                      by_cases c268 : x380_3 < t468
                      ·rw [if_pos c268] at H
                       have c268b0 : decide (x380_3 < t468) = true := decide_eq_true c268
                       clear c268
                       obtain rfl := Option.some.inj H
                       exact absurd hr_.out (by decide)
                      ·rw [if_neg c268] at H
                       have c268b0 : decide (x380_3 < t468) = false := decide_eq_false c268
                       clear c268
                       by_cases c269 : x380_3 = t468
                       ·rw [if_pos c269] at H
                        have c269b0 : (x380_3 == t468) = true := beq_iff_eq.mpr c269
                        have c269b1 : (x380_3 != t468) = false := bne_eq_false_iff_eq.mpr c269
                        clear c269
                        have H' := Aside0.mk H
                        clear H
                        have p493 : 0 ≤ (x380_3 : Int) := of_decide_eq_true (by first | (with_reducible assumption) | assumption)
                        have q493 : x380_3 < (t424.length : Int) := of_decide_eq_true (by first | (with_reducible assumption) | assumption)
                        obtain ⟨ad493, e493, hx493_0⟩ := Kd.at_int (Kd.R_reads' HO_5.out).2.2 x380_3 p493 q493
                        cases e493
                        replace p493 := eq_true p493
                        replace q493 := eq_true q493
                        have p494 : 0 ≤ (x380_3 : Int) := of_decide_eq_true (by first | (with_reducible assumption) | assumption)
                        have q494 : x380_3 < (t424.length : Int) := of_decide_eq_true (by first | (with_reducible assumption) | assumption)
                        obtain ⟨ad494, e494, hx494_0⟩ := Kd.at_int (Kd.R_reads' HO_5.out).2.2 x380_3 p494 q494
                        obtain rfl : ad493 = ad494 := (by injection e494)
                        replace p494 := eq_true p494
                        replace q494 := eq_true q494
                        have p495 : 0 ≤ (x380_3 : Int) := of_decide_eq_true (by first | (with_reducible assumption) | assumption)
                        have q495 : x380_3 < (t424.length : Int) := of_decide_eq_true (by first | (with_reducible assumption) | assumption)
                        obtain ⟨ad495, e495, hx495_0⟩ := Kd.at_int (Kd.R_reads' HO_5.out).2.2 x380_3 p495 q495
                        obtain rfl : ad493 = ad495 := (by injection e495)
                        replace p495 := eq_true p495
                        replace q495 := eq_true q495
                        go_wp2
                        repeat (go_quiet (fail); try go_wp2)
                        go_roundg kj247
                        case measure => have := HJ21.out; have := HJ200.out; have := HK3.out; have := HJ247.out; omega
                        case rel => exact ⟨(wrap64 (x380_3 + 1)), rs_, H', ⟨by have := HJ21.out; have := HJ200.out; have := HK3.out; have := HJ247.out; omega⟩, ⟨rr_ HO_5.out⟩, ⟨rr_ HO_7.out⟩, ⟨rr_ HO_23.out⟩, ⟨rr_ HO_378.out⟩, ⟨bw_⟩⟩
                       ·rw [if_neg c269] at H
                        have c269b0 : (x380_3 == t468) = false := beq_eq_false_iff_ne.mpr c269
                        have c269b1 : (x380_3 != t468) = true := bne_iff_ne.mpr c269
                        have H' := Aside0.mk H
                        clear H
                        have p493 : 0 ≤ (x380_3 : Int) := of_decide_eq_true (by first | (with_reducible assumption) | assumption)
                        have q493 : x380_3 < (t424.length : Int) := of_decide_eq_true (by first | (with_reducible assumption) | assumption)
                        obtain ⟨ad493, e493, hx493_0⟩ := Kd.at_int (Kd.R_reads' HO_5.out).2.2 x380_3 p493 q493
                        cases e493
                        replace p493 := eq_true p493
                        replace q493 := eq_true q493
                        have p494 : 0 ≤ (x380_3 : Int) := of_decide_eq_true (by first | (with_reducible assumption) | assumption)
                        have q494 : x380_3 < (t424.length : Int) := of_decide_eq_true (by first | (with_reducible assumption) | assumption)
                        obtain ⟨ad494, e494, hx494_0⟩ := Kd.at_int (Kd.R_reads' HO_5.out).2.2 x380_3 p494 q494
                        obtain rfl : ad493 = ad494 := (by injection e494)
                        replace p494 := eq_true p494
                        replace q494 := eq_true q494
                        go_wp2
                        repeat (go_quiet (fail); try go_wp2)
                        go_roundg kj247
                        case measure => have := HJ21.out; have := HJ200.out; have := HK3.out; have := HJ247.out; omega
                        case rel => exact ⟨(wrap64 (x380_3 + 1)), rs_, H', ⟨by have := HJ21.out; have := HJ200.out; have := HK3.out; have := HJ247.out; omega⟩, ⟨rr_ HO_5.out⟩, ⟨rr_ HO_7.out⟩, ⟨rr_ HO_23.out⟩, ⟨rr_ HO_378.out⟩, ⟨bw_⟩⟩
                     ·rw [if_neg c267] at H
                      have c267b0 : ((rd t424 x380_3) == t469) = false := beq_eq_false_iff_ne.mpr c267
                      have c267b1 : ((rd t424 x380_3) != t469) = true := bne_iff_ne.mpr c267
                      by_cases c270 : x380_3 = t468
                      ·rw [if_pos c270] at H
                       have c270b0 : (x380_3 == t468) = true := beq_iff_eq.mpr c270
                       have c270b1 : (x380_3 != t468) = false := bne_eq_false_iff_eq.mpr c270
                       clear c270
                       obtain rfl := Option.some.inj H
                       exact absurd hr_.out (by decide)
                      ·rw [if_neg c270] at H
                       have c270b0 : (x380_3 == t468) = false := beq_eq_false_iff_ne.mpr c270
                       have c270b1 : (x380_3 != t468) = true := bne_iff_ne.mpr c270
                       have H' := Aside0.mk H
                       clear H
                       have p493 : 0 ≤ (x380_3 : Int) := of_decide_eq_true (by first | (with_reducible assumption) | assumption)
                       have q493 : x380_3 < (t424.length : Int) := of_decide_eq_true (by first | (with_reducible assumption) | assumption)
                       obtain ⟨ad493, e493, hx493_0⟩ := Kd.at_int (Kd.R_reads' HO_5.out).2.2 x380_3 p493 q493
                       cases e493
                       replace p493 := eq_true p493
                       replace q493 := eq_true q493
                       have p494 : 0 ≤ (x380_3 : Int) := of_decide_eq_true (by first | (with_reducible assumption) | assumption)
                       have q494 : x380_3 < (t424.length : Int) := of_decide_eq_true (by first | (with_reducible assumption) | assumption)
                       obtain ⟨ad494, e494, hx494_0⟩ := Kd.at_int (Kd.R_reads' HO_5.out).2.2 x380_3 p494 q494
                       obtain rfl : ad493 = ad494 := (by injection e494)
                       replace p494 := eq_true p494
                       replace q494 := eq_true q494
                       go_wp2
                       repeat (go_quiet (fail); try go_wp2)
                       go_roundg kj247
                       case measure => have := HJ21.out; have := HJ200.out; have := HK3.out; have := HJ247.out; omega
                       case rel => exact ⟨(wrap64 (x380_3 + 1)), rs_, H', ⟨by have := HJ21.out; have := HJ200.out; have := HK3.out; have := HJ247.out; omega⟩, ⟨rr_ HO_5.out⟩, ⟨rr_ HO_7.out⟩, ⟨rr_ HO_23.out⟩, ⟨rr_ HO_378.out⟩, ⟨bw_⟩⟩
                   ·rw [if_neg c265] at H
                    exact absurd H (by simp)
                  ·rw [if_neg c264] at H
                   exact absurd H (by simp)
              ·rw [if_neg c247] at H
               exact absurd H (by simp)
             ·rw [if_neg c246] at H
              exact absurd H (by simp)
            ·rw [if_neg c245] at H
             have c245b0 : decide (x380_3 < (t428.length : Int)) = false := decide_eq_false c245
             clear c245
             by_cases c271 : 0 ≤ (t424.length : Int)
             ·rw [if_pos c271] at H
              have c271b0 := eq_true c271
              have c271b1 : decide (0 ≤ (t424.length : Int)) = true := decide_eq_true c271
              clear c271
              by_cases c272 : ((t424.length : Int) : Int).toNat ≤ 281474976710656
              ·rw [if_pos c272] at H
               have c272b0 := eq_true c272
               have c272b1 : decide (((t424.length : Int) : Int).toNat ≤ 281474976710656) = true := decide_eq_true c272
               clear c272
               obtain ⟨y497, hy497⟩ : ∃ y_ : List Bool, y_ = (List.replicate ((t424.length : Int) : Int).toNat false) := ⟨_, rfl⟩
               replace H : (laws_FnChaptersBegin.l1 k3 l1 t424 t448 t464 y497 ([] : List Int) t452 (t452.length : Int) 0) = some r := by first | (rw [hy497]; with_reducible exact H) | (have H2_ := (Option.bind_some _ _).symm.trans H; rw [hy497]; with_reducible exact H2_) | (have H2_ := (Option.bind_some _ _).symm.trans H; with_reducible exact H2_) | with_reducible exact H | (rw [hy497]; exact H) | exact H
               have Ny497 := Aside0.mk hy497
               clear hy497
               have H' := Aside0.mk H
               clear H
               go_wp2_with (first | ((with_reducible refine gate_dst (N := 461) rfl ?_); (try (refine gate_guard (by rfl) ?_; dsimp only)); refine Kd.R_make Kd.bool _ 4 rfl (N := 461) rfl 39 _ _ rfl (t424.length : Int) rfl rfl Tryz.underlying39 (.bool false) 1 info4 rfl (by decide) (by omega) false (ok := fun _ => True) (okp := fun _ => True) rfl (fun _ hk => hk) trivial (of_decide_eq_true (by first | (with_reducible assumption) | assumption)) (Nat.le_trans (Nat.mul_le_mul_right _ (of_decide_eq_true (by first | (with_reducible assumption) | assumption) : (t424.length : Int).toNat ≤ 281474976710656)) (by omega)) (Below.refl _ _) (Nat.le_refl _) ?_; intro v498 w273 ho274 hb hg_ hnew_; clear hg_ hnew_; (first | rw [← Ny497.out] at ho274 | (simp only [Int.reduceToNat] at ho274; rw [← Ny497.out] at ho274)); have n0_ := Aside0.mk (Kd.R_below (rr_ HO_5.out) hb); have n1_ := Aside0.mk (Kd.R_below (rr_ HO_7.out) hb); have n2_ := Aside0.mk (Kd.R_below (rr_ HO_23.out) hb); have n3_ := Aside0.mk (Kd.R_below (rr_ HO_378.out) hb); have n4_ := Aside0.mk (Kd.R_lower ho274 (below_size bw_)); have n5_ := Aside0.mk (below_step bw_ hb); clear HO_5; clear HO_7; clear HO_23; clear HO_378; clear HB; have HO_5 := n0_; have HO_7 := n1_; have HO_23 := n2_; have HO_378 := n3_; have HO499 := n4_; have HB := n5_; clear n0_ n1_ n2_ n3_ n4_ n5_; clear hb ho274; obtain ⟨Ao275, co275, eo275⟩ := Kd.R_slice HO_23.out; subst eo275))
               repeat (go_quiet (first | ((with_reducible refine gate_dst (N := 461) rfl ?_); (try (refine gate_guard (by rfl) ?_; dsimp only)); refine Kd.R_make Kd.bool _ 4 rfl (N := 461) rfl 39 _ _ rfl (t424.length : Int) rfl rfl Tryz.underlying39 (.bool false) 1 info4 rfl (by decide) (by omega) false (ok := fun _ => True) (okp := fun _ => True) rfl (fun _ hk => hk) trivial (of_decide_eq_true (by first | (with_reducible assumption) | assumption)) (Nat.le_trans (Nat.mul_le_mul_right _ (of_decide_eq_true (by first | (with_reducible assumption) | assumption) : (t424.length : Int).toNat ≤ 281474976710656)) (by omega)) (Below.refl _ _) (Nat.le_refl _) ?_; intro v498 w273 ho274 hb hg_ hnew_; clear hg_ hnew_; (first | rw [← Ny497.out] at ho274 | (simp only [Int.reduceToNat] at ho274; rw [← Ny497.out] at ho274)); have n0_ := Aside0.mk (Kd.R_below (rr_ HO_5.out) hb); have n1_ := Aside0.mk (Kd.R_below (rr_ HO_7.out) hb); have n2_ := Aside0.mk (Kd.R_below (rr_ HO_23.out) hb); have n3_ := Aside0.mk (Kd.R_below (rr_ HO_378.out) hb); have n4_ := Aside0.mk (Kd.R_lower ho274 (below_size bw_)); have n5_ := Aside0.mk (below_step bw_ hb); clear HO_5; clear HO_7; clear HO_23; clear HO_378; clear HB; have HO_5 := n0_; have HO_7 := n1_; have HO_23 := n2_; have HO_378 := n3_; have HO499 := n4_; have HB := n5_; clear n0_ n1_ n2_ n3_ n4_ n5_; clear hb ho274; obtain ⟨Ao275, co275, eo275⟩ := Kd.R_slice HO_23.out; subst eo275)); try go_wp2)
               go_loopg [44, 464] k3 (fun kq v44 v464 w' => ∃ (x43_4 : List Bool) (x44_4 : List Int) (x464_4 : Int), v464 = .int .i64 x464_4 ∧ Aside0 (laws_FnChaptersBegin.l1 kq l1 t424 t448 t464 x43_4 x44_4 t452 (t452.length : Int) x464_4 = some r) ∧ Aside0 (kq ≤ k3) ∧ Aside0 (Kd.R (Kd.int .i64) 3 w' w.heap.size (fun k_ => some k_ ≠ (v44 : Value).ownBlock ∧ some k_ ≠ ((.slice Ao275 t452.length co275) : Value).ownBlock) (.slice Ao24 t424.length co24) t424) ∧ Aside0 (Kd.R Kd.bool 4 w' w.heap.size (fun _ => True) v498 x43_4) ∧ Aside0 (Kd.R (Kd.int .i64) 3 w' w.heap.size (fun k_ => some k_ ≠ ((.slice Ao24 t424.length co24) : Value).ownBlock ∧ some k_ ≠ ((.slice Ao275 t452.length co275) : Value).ownBlock) v44 x44_4) ∧ Aside0 (Kd.R (Kd.int .i64) 3 w' w.heap.size (fun k_ => some k_ ≠ ((.slice Ao24 t424.length co24) : Value).ownBlock ∧ some k_ ≠ (v44 : Value).ownBlock) (.slice Ao275 t452.length co275) t452) ∧ Aside0 (Below w.heap.size w w'))
               case atStart => exact ⟨(y497), (([] : List Int)), (0), rs_, H', ⟨Nat.le_refl _⟩, ⟨by (with_reducible repeat (first | apply Kd.R_alloc | apply Kd.R_drewN | apply Kd.R_drew)); exact Kd.R_mono HO_5.out (fun _ hk => ⟨(by simp [Value.ownBlock]), hk.2.1⟩)⟩, ⟨rr_ HO499.out⟩, ⟨by first | exact Kd.R_nil _ _ _ _ _ | exact Kd.N_nil _ _ _ _ _ | exact Kd.V_nil _ _ _ _ _ | exact Kd.Q_nil _ _ _ _ _ | exact Kd.S_nil _ _ _ _ _⟩, ⟨by (with_reducible repeat (first | apply Kd.R_alloc | apply Kd.R_drewN | apply Kd.R_drew)); exact Kd.R_mono HO_23.out (fun _ hk => ⟨hk.1, (by simp [Value.ownBlock])⟩)⟩, ⟨bw_⟩⟩
               case round =>
                clear H'
                (try clear c1); (try clear c2); (try clear p2); (try clear c3); (try clear c4); (try clear p4); (try clear q4); (try clear hx4); (try clear qi4); (try clear c5); (try clear c6); (try clear p6); (try clear c7); (try clear c8); (try clear c9); (try clear c10); (try clear c11); (try clear c12); (try clear c13); (try clear c14); (try clear c19); (try clear c20); (try clear c21); (try clear c22); (try clear c24); (try clear c25); (try clear c26); (try clear c27); (try clear c37); (try clear c37b0); (try clear c37b1); (try clear c37b2); (try clear c39); (try clear c40); (try clear c40b0); (try clear c40b1); (try clear c40b2); (try clear c44); (try clear c45); (try clear c45b0); (try clear c45b1); (try clear c45b2); (try clear p48); (try clear q48); (try clear hx48); (try clear qi48); (try clear p49); (try clear q49); (try clear hx49); (try clear c50); (try clear c50b0); (try clear c50b1); (try clear c51); (try clear c51b0); (try clear c51b1); (try clear c51b2); (try clear c56); (try clear c56b0); (try clear c56b1); (try clear c57); (try clear c57b0); (try clear c57b1); (try clear c57b2); (try clear c63); (try clear c64); (try clear c64b0); (try clear c64b1); (try clear c64b2); (try clear p64); (try clear c71); (try clear c71b0); (try clear c71b1); (try clear c72); (try clear c72b0); (try clear c72b1); (try clear c72b2); (try clear c79); (try clear c79b0); (try clear c79b1); (try clear c80); (try clear c80b0); (try clear c80b1); (try clear c80b2); (try clear c87); (try clear c87b0); (try clear c87b1); (try clear c88); (try clear c88b0); (try clear c88b1); (try clear c90); (try clear c90b0); (try clear c90b1); (try clear c90b2); (try clear c99); (try clear c99b0); (try clear c99b1); (try clear c99b2); (try clear c106); (try clear c106b0); (try clear c106b1); (try clear c106b2); (try clear c113); (try clear c113b0); (try clear c113b1); (try clear c113b2); (try clear c120); (try clear c120b0); (try clear c120b1); (try clear c120b2); (try clear c127); (try clear c127b0); (try clear c127b1); (try clear c127b2); (try clear c134); (try clear c134b0); (try clear c134b1); (try clear c134b2); (try clear c141); (try clear c141b0); (try clear c141b1); (try clear c141b2); (try clear c198); (try clear c200); (try clear c202); (try clear c202b0); (try clear c202b1); (try clear c202b2); (try clear c203); (try clear c203b0); (try clear c203b1); (try clear c204); (try clear c204b0); (try clear c204b1); (try clear c206); (try clear c208); (try clear c210); (try clear c210b0); (try clear c210b1); (try clear c211); (try clear c212); (try clear c212b0); (try clear c215); (try clear c215b0); (try clear c218); (try clear c218b0); (try clear c224); (try clear c224b0); (try clear c224b1); (try clear c224b2); (try clear c225); (try clear c225b0); (try clear c228); (try clear c228b0); (try clear c243); (try clear c245); (try clear c245b0); (try clear c246); (try clear c246b0); (try clear c247); (try clear c247b0); (try clear c249); (try clear c250); (try clear c250b0); (try clear c250b1); (try clear c251); (try clear c251b0); (try clear c253); (try clear c253b0); (try clear c254); (try clear c254b0); (try clear c255); (try clear c255b0); (try clear c256); (try clear c256b0); (try clear c257); (try clear c257b0); (try clear c259); (try clear c259b0); (try clear c260); (try clear c260b0); (try clear c261); (try clear c261b0); (try clear c262); (try clear c262b0); (try clear c263); (try clear c264); (try clear c264b0); (try clear c265); (try clear c265b0); (try clear c266); (try clear c266b0); (try clear c267); (try clear c267b0); (try clear c267b1); (try clear c268); (try clear c268b0); (try clear c269); (try clear c269b0); (try clear c269b1); (try clear c270); (try clear c270b0); (try clear c270b1); (try clear c271); (try clear c271b0); (try clear c271b1); (try clear c272); (try clear c272b0); (try clear c272b1); (try clear hx480_0); (try clear hx484_0); (try clear hx485_0); (try clear hx486_0); (try clear hx487_0); (try clear hx488_0); (try clear hx489_0); (try clear hx490_0); (try clear hx491_0); (try clear hx492_0); (try clear hx493_0); (try clear hx494_0); (try clear hx495_0); (try clear p480); (try clear p484); (try clear p485); (try clear p486); (try clear p487); (try clear p488); (try clear p489); (try clear p490); (try clear p491); (try clear p492); (try clear p493); (try clear p494); (try clear p495); (try clear q480); (try clear q484); (try clear q485); (try clear q486); (try clear q487); (try clear q488); (try clear q489); (try clear q490); (try clear q491); (try clear q492); (try clear q493); (try clear q494); (try clear q495)
                obtain ⟨x43_4, x44_4, x464_4, rfl, HA, HK4, HO_5, HO_43, HO_44, HO_462, HB⟩ := hrel
                cases gk with
                | zero => exact absurd HA.out (by simp [laws_FnChaptersBegin.l1])
                | succ k4 =>
                 have H := HA.out
                 clear HA
                 simp only [laws_FnChaptersBegin.l1] at H
                 by_cases c276 : x464_4 < (t452.length : Int)
                 ·rw [if_pos c276] at H
                  have c276b0 : decide (x464_4 < (t452.length : Int)) = true := decide_eq_true c276
                  clear c276
                  by_cases c277 : 0 ≤ x464_4
                  ·rw [if_pos c277] at H
                   have c277b0 : decide (0 ≤ x464_4) = true := decide_eq_true c277
                   clear c277
                   by_cases c278 : x464_4 < (t452.length : Int)
                   ·rw [if_pos c278] at H
                    have c278b0 : decide (x464_4 < (t452.length : Int)) = true := decide_eq_true c278
                    clear c278
                    by_cases c279 : (rd t452 x464_4) < 0
                    ·rw [if_pos c279] at H
                     have c279b0 : decide ((rd t452 x464_4) < 0) = true := decide_eq_true c279
                     clear c279
                     obtain rfl := Option.some.inj H
                     exact absurd hr_.out (by decide)
                    ·rw [if_neg c279] at H
                     have c279b0 : decide ((rd t452 x464_4) < 0) = false := decide_eq_false c279
                     clear c279
                     by_cases c280 : (rd t452 x464_4) ≥ (t424.length : Int)
                     ·rw [if_pos c280] at H
                      have c280b0 : decide ((t424.length : Int) ≤ (rd t452 x464_4)) = true := decide_eq_true c280
                      clear c280
                      obtain rfl := Option.some.inj H
                      exact absurd hr_.out (by decide)
                     ·rw [if_neg c280] at H
                      have c280b0 : decide ((t424.length : Int) ≤ (rd t452 x464_4)) = false := decide_eq_false c280
                      clear c280
                      by_cases c281 : 0 ≤ (rd t452 x464_4)
                      ·rw [if_pos c281] at H
                       have c281b0 : decide (0 ≤ (rd t452 x464_4)) = true := decide_eq_true c281
                       clear c281
                       by_cases c282 : (rd t452 x464_4) < (x43_4.length : Int)
                       ·rw [if_pos c282] at H
                        have c282b0 : decide ((rd t452 x464_4) < (x43_4.length : Int)) = true := decide_eq_true c282
                        clear c282
                        obtain ⟨bq283, hbq283⟩ : ∃ b_ : Bool, b_ = (rdOf false x43_4 (rd t452 x464_4)) := ⟨_, rfl⟩
                        replace H : (if bq283 = true then (some false) else (if (rd t452 x464_4) < (t424.length : Int) then (if x44_4.length < 17592186044416 then (laws_FnChaptersBegin.l1 k4 l1 t424 t448 t464 (x43_4.set ((rd t452 x464_4) : Int).toNat true) (x44_4 ++ [rd t424 (rd t452 x464_4)]) t452 (t452.length : Int) (wrap64 (x464_4 + 1))) else (none)) else (none))) = some r := by rw [← hbq283] at H; exact H
                        have Nbq283 := Aside0.mk hbq283
                        clear hbq283
                        by_cases c284 : bq283 = true
                        ·subst c284
                         have H1 : (some false) = some r := by rw [if_pos rfl] at H; exact H
                         clear H
                         have H := H1
                         clear H1
                         obtain rfl := Option.some.inj H
                         exact absurd hr_.out (by decide)
                        ·replace c284 := Bool.eq_false_iff.mpr c284
                         subst c284
                         have H1 : (if (rd t452 x464_4) < (t424.length : Int) then (if x44_4.length < 17592186044416 then (laws_FnChaptersBegin.l1 k4 l1 t424 t448 t464 (x43_4.set ((rd t452 x464_4) : Int).toNat true) (x44_4 ++ [rd t424 (rd t452 x464_4)]) t452 (t452.length : Int) (wrap64 (x464_4 + 1))) else (none)) else (none)) = some r := by rw [if_neg (show ¬ (false = true) by decide)] at H; exact H
                         clear H
                         have H := H1
                         clear H1
                         obtain ⟨y502, hy502⟩ : ∃ y_ : List Bool, y_ = (x43_4.set ((rd t452 x464_4) : Int).toNat true) := ⟨_, rfl⟩
                         replace H : (if (rd t452 x464_4) < (t424.length : Int) then (if x44_4.length < 17592186044416 then (laws_FnChaptersBegin.l1 k4 l1 t424 t448 t464 y502 (x44_4 ++ [rd t424 (rd t452 x464_4)]) t452 (t452.length : Int) (wrap64 (x464_4 + 1))) else (none)) else (none)) = some r := by first | (rw [hy502]; with_reducible exact H) | (have H2_ := (Option.bind_some _ _).symm.trans H; rw [hy502]; with_reducible exact H2_) | (have H2_ := (Option.bind_some _ _).symm.trans H; with_reducible exact H2_) | with_reducible exact H | (rw [hy502]; exact H) | exact H
                         have Ny502 := Aside0.mk hy502
                         clear hy502
                         by_cases c286 : (rd t452 x464_4) < (t424.length : Int)
                         ·rw [if_pos c286] at H
                          have c286b0 : decide ((rd t452 x464_4) < (t424.length : Int)) = true := decide_eq_true c286
                          clear c286
                          by_cases c287 : x44_4.length < 17592186044416
                          ·rw [if_pos c287] at H
                           have LMc287 := Aside0.mk c287
                           clear c287
                           obtain ⟨y504, hy504⟩ : ∃ y_ : List Int, y_ = (x44_4 ++ [rd t424 (rd t452 x464_4)]) := ⟨_, rfl⟩
                           replace H : (laws_FnChaptersBegin.l1 k4 l1 t424 t448 t464 y502 y504 t452 (t452.length : Int) (wrap64 (x464_4 + 1))) = some r := by first | (rw [hy504]; with_reducible exact H) | (have H2_ := (Option.bind_some _ _).symm.trans H; rw [hy504]; with_reducible exact H2_) | (have H2_ := (Option.bind_some _ _).symm.trans H; with_reducible exact H2_) | with_reducible exact H | (rw [hy504]; exact H) | exact H
                           have Ny504 := Aside0.mk hy504
                           clear hy504
                           have H' := Aside0.mk H
                           clear H
                           have p500 : 0 ≤ (x464_4 : Int) := of_decide_eq_true (by first | (with_reducible assumption) | assumption)
                           have q500 : x464_4 < (t452.length : Int) := of_decide_eq_true (by first | (with_reducible assumption) | assumption)
                           obtain ⟨ad500, e500, hx500_0⟩ := Kd.at_int (Kd.R_reads' HO_462.out).2.2 x464_4 p500 q500
                           cases e500
                           replace p500 := eq_true p500
                           replace q500 := eq_true q500
                           obtain ⟨Ao288, co288, eo288⟩ := Kd.R_slice HO_43.out
                           subst eo288
                           have p501 : 0 ≤ ((rd t452 x464_4) : Int) := of_decide_eq_true (by first | (with_reducible assumption) | assumption)
                           have q501 : (rd t452 x464_4) < (x43_4.length : Int) := of_decide_eq_true (by first | (with_reducible assumption) | assumption)
                           obtain ⟨ad501, e501, hx501_0⟩ := Kd.at_bool (Kd.R_reads' HO_43.out).2.2 (rd t452 x464_4) p501 q501
                           (try rw [← Nbq283.out] at hx501_0)
                           cases e501
                           replace p501 := eq_true p501
                           replace q501 := eq_true q501
                           have p285 : 0 ≤ ((rd t452 x464_4) : Int) := of_decide_eq_true (by first | (with_reducible assumption) | assumption)
                           have q285 : ((rd t452 x464_4) : Int) < ((x43_4.length : Int) : Int) := of_decide_eq_true (by first | (with_reducible assumption) | assumption)
                           obtain ⟨go285, co285, eo285, gb285, gl285, cl285, HG285⟩ := Kd.R_form HO_43.out (by omega)
                           (first | cases eo285 | (injection eo285 with ea_ en_ ec_; (first | subst ea_ | (injection ea_ with ea_; subst ea_)); subst ec_; clear en_))
                           have GB285 := Aside0.mk gb285
                           have GG285 := Aside0.mk HG285
                           clear gb285 gl285 HG285
                           (first | simp only [add_plain] at hx501_0 | skip)
                           obtain ⟨hx285_0, hf285_0⟩ := Kd.R_celln false HO_43.out ((rd t452 x464_4) : Int) p285 q285
                           replace p285 := eq_true p285
                           replace q285 := eq_true q285
                           have HP289 := Kd.R_putg HO_43.out ((rd t452 x464_4) : Int) true
                           go_wp2_with (first | ((with_reducible refine gate_store (t := 4) (p := 484) rfl ?_); (try (rw [drewN_self wr]; generalize hq_ : World.drewN wr _ = wr; have n0_ := Aside0.mk (Kd.R_at hq_ HO_5.out); have n1_ := Aside0.mk (Kd.R_at hq_ HO_43.out); have n2_ := Aside0.mk (Kd.R_at hq_ HO_44.out); have n3_ := Aside0.mk (Kd.R_at hq_ HO_462.out); have n4_ := Aside0.mk (below_at hq_ HB.out); clear hq_ HO_5 HO_43 HO_44 HO_462 HB; have HO_5 := n0_; have HO_43 := n1_; have HO_44 := n2_; have HO_462 := n3_; have HB := n4_; clear n0_ n1_ n2_ n3_ n4_; (try (have HP289 := Kd.R_putg HO_43.out ((rd t452 x464_4) : Int) true)))); refine store_event (t := 4) (p := 484) (v := ?vo_w290) (w1 := (wr.setCell ⟨go285, ((rd t452 x464_4) : Int).toNat, none⟩ (.bool true))) ?hg ?ho ?hn ?hr ?_; (case ho => rfl); (case hg => rfl); (case hn => rfl); (case hr => first | (go_simp; done) | (go_simp; rfl)); intro w290 hw; have hg : wr.grownBy w290 (some go285) := (by rw [hw]; exact HP289.2); have hp_ : Kd.R Kd.bool 4 w290 w.heap.size (fun _ => True) (.slice (some ⟨go285, 0, none⟩) x43_4.length co288) y502 := (by rw [hw, Ny502.out]; exact HP289.1); clear HP289; have n0_ := Aside0.mk (Kd.R_over' (v := (.slice (some ⟨go285, 0, none⟩) x43_4.length co288)) (rr_ HO_5.out) (Kd.R_typed HO_43.out) (by decide) hg); have n1_ := Aside0.mk (hp_); have n2_ := Aside0.mk (Kd.R_over' (v := (.slice (some ⟨go285, 0, none⟩) x43_4.length co288)) (rr_ HO_44.out) (Kd.R_typed HO_43.out) (by decide) hg); have n3_ := Aside0.mk (Kd.R_over' (v := (.slice (some ⟨go285, 0, none⟩) x43_4.length co288)) (rr_ HO_462.out) (Kd.R_typed HO_43.out) (by decide) hg); have n4_ := Aside0.mk ((by rw [hw]; exact below_set (HB.out) GB285.out : Below w.heap.size w w290)); clear HO_5; clear HO_43; clear HO_44; clear HO_462; clear HB; have HO_5 := n0_; have HO_43 := n1_; have HO_44 := n2_; have HO_462 := n3_; have HB := n4_; clear n0_ n1_ n2_ n3_ n4_; clear hg hw hp_; have p503 : 0 ≤ ((rd t452 x464_4) : Int) := of_decide_eq_true (by first | (with_reducible assumption) | assumption); have q503 : (rd t452 x464_4) < (t424.length : Int) := of_decide_eq_true (by first | (with_reducible assumption) | assumption); obtain ⟨ad503, e503, hx503_0⟩ := Kd.at_int (Kd.R_reads' HO_5.out).2.2 (rd t452 x464_4) p503 q503; cases e503; replace p503 := eq_true p503; replace q503 := eq_true q503) | ((with_reducible refine gate_builtin (b := .append) (xs := #[.tmp 485, .tmp 490]) rfl ?_); (try (refine gate_guard (by rfl) ?_; dsimp only)); at_builtin; refine Kd.R_append (Kd.int .i64) (w0 := w) w.heap.size rfl (.tmp 485) (.tmp 490) 24 3 (.int .i64 0) 8 rfl Tryz.underlying24 info3 rfl (by decide) (by omega) u44 x44_4 (rd t424 (rd t452 x464_4)) [.int .i64 (rd t424 (rd t452 x464_4))] (fun k_ => some k_ ≠ (.slice (some ad503) t424.length co24 : Value).ownBlock ∧ some k_ ≠ (.slice (some ad500) t452.length co275 : Value).ownBlock) (fun _ => False) rfl rfl ?aP (fun _ hk => hk.elim) ?aF ?aO ?aB ?aS ?aL ?_; (case aP => exact rfl); (case aB => exact bw_); (case aF => exact (fun k_ hk => ⟨Kd.fresh' (Kd.R_lt (rr_ HO_5.out)) k_ hk, Kd.fresh' (Kd.R_lt (rr_ HO_462.out)) k_ hk⟩)); (case aO => exact (rr_ HO_44.out)); (case aS => exact (below_size bw_)); (case aL => have := LMc287.out; omega); intro v505 w291 ho hb hg hat; rw [← Ny504.out] at ho; have n0_ := Aside0.mk (Kd.R_after (ok := (fun k_ => some k_ ≠ (.slice (some ad500) t452.length co275 : Value).ownBlock)) (by (with_reducible repeat (first | apply Kd.R_alloc | apply Kd.R_drewN | apply Kd.R_drew)); exact Kd.R_mono HO_5.out (fun _ hk => ⟨hk.2, hk.1⟩)) hg hat); have n1_ := Aside0.mk (Kd.R_over' (rr_ HO_43.out) (Kd.R_typed (rr_ HO_44.out)) (by decide) hg); have n2_ := Aside0.mk (Kd.R_after (ok := (fun k_ => some k_ ≠ (.slice (some ad503) t424.length co24 : Value).ownBlock)) (rr_ HO_462.out) hg hat); have n3_ := Aside0.mk (hb); have n4_ := Aside0.mk (ho); clear HO_5; clear HO_43; clear HO_462; clear HB; clear HO_44; have HO_5 := n0_; have HO_43 := n1_; have HO_462 := n2_; have HB := n3_; have HO506 := n4_; clear n0_ n1_ n2_ n3_ n4_; clear ho hb hg hat))
                           repeat (go_quiet (first | ((with_reducible refine gate_store (t := 4) (p := 484) rfl ?_); (try (rw [drewN_self wr]; generalize hq_ : World.drewN wr _ = wr; have n0_ := Aside0.mk (Kd.R_at hq_ HO_5.out); have n1_ := Aside0.mk (Kd.R_at hq_ HO_43.out); have n2_ := Aside0.mk (Kd.R_at hq_ HO_44.out); have n3_ := Aside0.mk (Kd.R_at hq_ HO_462.out); have n4_ := Aside0.mk (below_at hq_ HB.out); clear hq_ HO_5 HO_43 HO_44 HO_462 HB; have HO_5 := n0_; have HO_43 := n1_; have HO_44 := n2_; have HO_462 := n3_; have HB := n4_; clear n0_ n1_ n2_ n3_ n4_; (try (have HP289 := Kd.R_putg HO_43.out ((rd t452 x464_4) : Int) true)))); refine store_event (t := 4) (p := 484) (v := ?vo_w290) (w1 := (wr.setCell ⟨go285, ((rd t452 x464_4) : Int).toNat, none⟩ (.bool true))) ?hg ?ho ?hn ?hr ?_; (case ho => rfl); (case hg => rfl); (case hn => rfl); (case hr => first | (go_simp; done) | (go_simp; rfl)); intro w290 hw; have hg : wr.grownBy w290 (some go285) := (by rw [hw]; exact HP289.2); have hp_ : Kd.R Kd.bool 4 w290 w.heap.size (fun _ => True) (.slice (some ⟨go285, 0, none⟩) x43_4.length co288) y502 := (by rw [hw, Ny502.out]; exact HP289.1); clear HP289; have n0_ := Aside0.mk (Kd.R_over' (v := (.slice (some ⟨go285, 0, none⟩) x43_4.length co288)) (rr_ HO_5.out) (Kd.R_typed HO_43.out) (by decide) hg); have n1_ := Aside0.mk (hp_); have n2_ := Aside0.mk (Kd.R_over' (v := (.slice (some ⟨go285, 0, none⟩) x43_4.length co288)) (rr_ HO_44.out) (Kd.R_typed HO_43.out) (by decide) hg); have n3_ := Aside0.mk (Kd.R_over' (v := (.slice (some ⟨go285, 0, none⟩) x43_4.length co288)) (rr_ HO_462.out) (Kd.R_typed HO_43.out) (by decide) hg); have n4_ := Aside0.mk ((by rw [hw]; exact below_set (HB.out) GB285.out : Below w.heap.size w w290)); clear HO_5; clear HO_43; clear HO_44; clear HO_462; clear HB; have HO_5 := n0_; have HO_43 := n1_; have HO_44 := n2_; have HO_462 := n3_; have HB := n4_; clear n0_ n1_ n2_ n3_ n4_; clear hg hw hp_; have p503 : 0 ≤ ((rd t452 x464_4) : Int) := of_decide_eq_true (by first | (with_reducible assumption) | assumption); have q503 : (rd t452 x464_4) < (t424.length : Int) := of_decide_eq_true (by first | (with_reducible assumption) | assumption); obtain ⟨ad503, e503, hx503_0⟩ := Kd.at_int (Kd.R_reads' HO_5.out).2.2 (rd t452 x464_4) p503 q503; cases e503; replace p503 := eq_true p503; replace q503 := eq_true q503) | ((with_reducible refine gate_builtin (b := .append) (xs := #[.tmp 485, .tmp 490]) rfl ?_); (try (refine gate_guard (by rfl) ?_; dsimp only)); at_builtin; refine Kd.R_append (Kd.int .i64) (w0 := w) w.heap.size rfl (.tmp 485) (.tmp 490) 24 3 (.int .i64 0) 8 rfl Tryz.underlying24 info3 rfl (by decide) (by omega) u44 x44_4 (rd t424 (rd t452 x464_4)) [.int .i64 (rd t424 (rd t452 x464_4))] (fun k_ => some k_ ≠ (.slice (some ad503) t424.length co24 : Value).ownBlock ∧ some k_ ≠ (.slice (some ad500) t452.length co275 : Value).ownBlock) (fun _ => False) rfl rfl ?aP (fun _ hk => hk.elim) ?aF ?aO ?aB ?aS ?aL ?_; (case aP => exact rfl); (case aB => exact bw_); (case aF => exact (fun k_ hk => ⟨Kd.fresh' (Kd.R_lt (rr_ HO_5.out)) k_ hk, Kd.fresh' (Kd.R_lt (rr_ HO_462.out)) k_ hk⟩)); (case aO => exact (rr_ HO_44.out)); (case aS => exact (below_size bw_)); (case aL => have := LMc287.out; omega); intro v505 w291 ho hb hg hat; rw [← Ny504.out] at ho; have n0_ := Aside0.mk (Kd.R_after (ok := (fun k_ => some k_ ≠ (.slice (some ad500) t452.length co275 : Value).ownBlock)) (by (with_reducible repeat (first | apply Kd.R_alloc | apply Kd.R_drewN | apply Kd.R_drew)); exact Kd.R_mono HO_5.out (fun _ hk => ⟨hk.2, hk.1⟩)) hg hat); have n1_ := Aside0.mk (Kd.R_over' (rr_ HO_43.out) (Kd.R_typed (rr_ HO_44.out)) (by decide) hg); have n2_ := Aside0.mk (Kd.R_after (ok := (fun k_ => some k_ ≠ (.slice (some ad503) t424.length co24 : Value).ownBlock)) (rr_ HO_462.out) hg hat); have n3_ := Aside0.mk (hb); have n4_ := Aside0.mk (ho); clear HO_5; clear HO_43; clear HO_462; clear HB; clear HO_44; have HO_5 := n0_; have HO_43 := n1_; have HO_462 := n2_; have HB := n3_; have HO506 := n4_; clear n0_ n1_ n2_ n3_ n4_; clear ho hb hg hat)); try go_wp2)
                           go_roundg k4
                           case measure => have := HJ21.out; have := HJ200.out; have := HK3.out; have := HK4.out; omega
                           case rel => exact ⟨(y502), (y504), (wrap64 (x464_4 + 1)), rs_, H', ⟨by have := HJ21.out; have := HJ200.out; have := HK3.out; have := HK4.out; omega⟩, ⟨by (with_reducible repeat (first | apply Kd.R_alloc | apply Kd.R_drewN | apply Kd.R_drew)); exact Kd.R_mono HO_5.out (fun _ hk => ⟨hk.2, hk.1⟩)⟩, ⟨rr_ HO_43.out⟩, ⟨rr_ HO506.out⟩, ⟨rr_ HO_462.out⟩, ⟨bw_⟩⟩
                          ·rw [if_neg c287] at H
                           exact absurd H (by simp)
                         ·rw [if_neg c286] at H
                          exact absurd H (by simp)
                       ·rw [if_neg c282] at H
                        exact absurd H (by simp)
                      ·rw [if_neg c281] at H
                       exact absurd H (by simp)
                   ·rw [if_neg c278] at H
                    exact absurd H (by simp)
                  ·rw [if_neg c277] at H
                   exact absurd H (by simp)
                 ·rw [if_neg c276] at H
                  have c276b0 : decide (x464_4 < (t452.length : Int)) = false := decide_eq_false c276
                  clear c276
                  replace H := Option.bind_eq_some_iff.mp H
                  obtain ⟨⟨t507, t508⟩, A2920, H⟩ := H
                  (try dsimp only at H)
                  have A292 := Aside0.mk A2920
                  clear A2920
                  replace H := Option.bind_eq_some_iff.mp H
                  obtain ⟨⟨t511, t512⟩, A2930, H⟩ := H
                  (try dsimp only at H)
                  have A293 := Aside0.mk A2930
                  clear A2930
                  by_cases c294 : t508 = true
                  ·subst c294
                   have H1 : (if (t507.length : Int) = t448 then (if t512 = true then ((laws_xSame.f k4 t511 t424).bind fun t515 => (if t515 = true then (laws_FnChaptersBegin.j5 k4 l1) else (some false))) else (some false)) else (some false)) = some r := by rw [if_pos rfl] at H; exact H
                   clear H
                   have H := H1
                   clear H1
                   by_cases c295 : (t507.length : Int) = t448
                   ·rw [if_pos c295] at H
                    have c295b0 : ((t507.length : Int) == t448) = true := beq_iff_eq.mpr c295
                    have c295b1 : ((t507.length : Int) != t448) = false := bne_eq_false_iff_eq.mpr c295
                    clear c295
                    by_cases c296 : t512 = true
                    ·subst c296
                     have H1 : ((laws_xSame.f k4 t511 t424).bind fun t515 => (if t515 = true then (laws_FnChaptersBegin.j5 k4 l1) else (some false))) = some r := by rw [if_pos rfl] at H; exact H
                     clear H
                     have H := H1
                     clear H1
                     replace H := Option.bind_eq_some_iff.mp H
                     obtain ⟨t515, A2970, H⟩ := H
                     (try dsimp only at H)
                     have A297 := Aside0.mk A2970
                     clear A2970
                     by_cases c298 : t515 = true
                     ·subst c298
                      have H1 : (laws_FnChaptersBegin.j5 k4 l1) = some r := by rw [if_pos rfl] at H; exact H
                      clear H
                      have H := H1
                      clear H1
                      have H' := Aside0.mk H
                      clear H
                      obtain ⟨Ao299, co299, eo299⟩ := Kd.R_slice HO_44.out
                      subst eo299
                      go_wp2_with (first | (go_at_call 8; (with_reducible refine (impl_BlanksOf.calls k4 _ _ x44_4 true t507 true _ ?side1 ?side2 A292.out).mono ?_); (case side1 => exact cr_ (Kd.R_reads' HO_44.out).2.2); (case side2 => exact (Kd.R_reads' HO_44.out).2.1); rintro e w300 ⟨v509, rfl, ho0, hb⟩; have n0_ := Aside0.mk (Kd.R_elder' (rr_ HO_5.out) (Kd.R_base ho0) hb); have n1_ := Aside0.mk (Kd.R_below (rr_ HO_43.out) hb); have n2_ := Aside0.mk (Kd.R_elder' (rr_ HO_44.out) (Kd.R_base ho0) hb); have n3_ := Aside0.mk (Kd.R_elder' (rr_ HO_462.out) (Kd.R_base ho0) hb); have n4_ := Aside0.mk (Kd.R_lower (Kd.R_new' (Kd.R_new' (Kd.R_new' ho0 (Kd.R_lt (rr_ HO_5.out))) (Kd.R_lt (rr_ HO_44.out))) (Kd.R_lt (rr_ HO_462.out))) (below_size bw_)); have n5_ := Aside0.mk (below_step bw_ hb); clear HO_5; clear HO_43; clear HO_44; clear HO_462; clear HB; have HO_5 := n0_; have HO_43 := n1_; have HO_44 := n2_; have HO_462 := n3_; have HO510 := n4_; have HB := n5_; clear n0_ n1_ n2_ n3_ n4_ n5_; (try clear hb); (try clear hb2); (try clear hk); (try clear hi); (try clear ho0)) | (go_at_call 27; (with_reducible refine (impl_ParseChapters.calls k4 t464 t511 true _ ?side1 A293.out).mono ?_); (case side1 => exact TabC.below HT.out bw_); rintro e w301 ⟨v513, rfl, ho0, hb⟩; have n0_ := Aside0.mk (Kd.R_elder' (rr_ HO_5.out) (Kd.R_base ho0) hb); have n1_ := Aside0.mk (Kd.R_below (rr_ HO_43.out) hb); have n2_ := Aside0.mk (Kd.R_elder' (rr_ HO_44.out) (Kd.R_base ho0) hb); have n3_ := Aside0.mk (Kd.R_elder' (rr_ HO_462.out) (Kd.R_base ho0) hb); have n4_ := Aside0.mk (Kd.R_elder' (rr_ HO510.out) (Kd.R_base ho0) hb); have n5_ := Aside0.mk (Kd.R_lower (Kd.R_new' (Kd.R_new' (Kd.R_new' (Kd.R_new' ho0 (Kd.R_lt (rr_ HO_5.out))) (Kd.R_lt (rr_ HO_44.out))) (Kd.R_lt (rr_ HO_462.out))) (Kd.R_lt (rr_ HO510.out))) (below_size bw_)); have n6_ := Aside0.mk (below_step bw_ hb); clear HO_5; clear HO_43; clear HO_44; clear HO_462; clear HO510; clear HB; have HO_5 := n0_; have HO_43 := n1_; have HO_44 := n2_; have HO_462 := n3_; have HO510 := n4_; have HO514 := n5_; have HB := n6_; clear n0_ n1_ n2_ n3_ n4_ n5_ n6_; (try clear hb); (try clear hb2); (try clear hk); (try clear hi); (try clear ho0); obtain ⟨Ao302, co302, eo302⟩ := Kd.R_slice HO510.out; subst eo302; obtain ⟨Ao303, co303, eo303⟩ := Kd.R_slice HO514.out; subst eo303) | (go_at_call 22; (with_reducible refine (laws_xSame.calls k4 _ _ t511 _ _ t424 true _ ?side1 ?side2 ?side3 ?side4 A297.out).mono ?_); (case side1 => exact cr_ (Kd.R_reads' HO514.out).2.2); (case side2 => exact (Kd.R_reads' HO514.out).2.1); (case side3 => exact cr_ (Kd.R_reads' HO_5.out).2.2); (case side4 => exact (Kd.R_reads' HO_5.out).2.1); rintro e w' ⟨rfl, ⟨nd, rfl⟩⟩; (try exact dd_)))
                      repeat (go_quiet (first | (go_at_call 8; (with_reducible refine (impl_BlanksOf.calls k4 _ _ x44_4 true t507 true _ ?side1 ?side2 A292.out).mono ?_); (case side1 => exact cr_ (Kd.R_reads' HO_44.out).2.2); (case side2 => exact (Kd.R_reads' HO_44.out).2.1); rintro e w300 ⟨v509, rfl, ho0, hb⟩; have n0_ := Aside0.mk (Kd.R_elder' (rr_ HO_5.out) (Kd.R_base ho0) hb); have n1_ := Aside0.mk (Kd.R_below (rr_ HO_43.out) hb); have n2_ := Aside0.mk (Kd.R_elder' (rr_ HO_44.out) (Kd.R_base ho0) hb); have n3_ := Aside0.mk (Kd.R_elder' (rr_ HO_462.out) (Kd.R_base ho0) hb); have n4_ := Aside0.mk (Kd.R_lower (Kd.R_new' (Kd.R_new' (Kd.R_new' ho0 (Kd.R_lt (rr_ HO_5.out))) (Kd.R_lt (rr_ HO_44.out))) (Kd.R_lt (rr_ HO_462.out))) (below_size bw_)); have n5_ := Aside0.mk (below_step bw_ hb); clear HO_5; clear HO_43; clear HO_44; clear HO_462; clear HB; have HO_5 := n0_; have HO_43 := n1_; have HO_44 := n2_; have HO_462 := n3_; have HO510 := n4_; have HB := n5_; clear n0_ n1_ n2_ n3_ n4_ n5_; (try clear hb); (try clear hb2); (try clear hk); (try clear hi); (try clear ho0)) | (go_at_call 27; (with_reducible refine (impl_ParseChapters.calls k4 t464 t511 true _ ?side1 A293.out).mono ?_); (case side1 => exact TabC.below HT.out bw_); rintro e w301 ⟨v513, rfl, ho0, hb⟩; have n0_ := Aside0.mk (Kd.R_elder' (rr_ HO_5.out) (Kd.R_base ho0) hb); have n1_ := Aside0.mk (Kd.R_below (rr_ HO_43.out) hb); have n2_ := Aside0.mk (Kd.R_elder' (rr_ HO_44.out) (Kd.R_base ho0) hb); have n3_ := Aside0.mk (Kd.R_elder' (rr_ HO_462.out) (Kd.R_base ho0) hb); have n4_ := Aside0.mk (Kd.R_elder' (rr_ HO510.out) (Kd.R_base ho0) hb); have n5_ := Aside0.mk (Kd.R_lower (Kd.R_new' (Kd.R_new' (Kd.R_new' (Kd.R_new' ho0 (Kd.R_lt (rr_ HO_5.out))) (Kd.R_lt (rr_ HO_44.out))) (Kd.R_lt (rr_ HO_462.out))) (Kd.R_lt (rr_ HO510.out))) (below_size bw_)); have n6_ := Aside0.mk (below_step bw_ hb); clear HO_5; clear HO_43; clear HO_44; clear HO_462; clear HO510; clear HB; have HO_5 := n0_; have HO_43 := n1_; have HO_44 := n2_; have HO_462 := n3_; have HO510 := n4_; have HO514 := n5_; have HB := n6_; clear n0_ n1_ n2_ n3_ n4_ n5_ n6_; (try clear hb); (try clear hb2); (try clear hk); (try clear hi); (try clear ho0); obtain ⟨Ao302, co302, eo302⟩ := Kd.R_slice HO510.out; subst eo302; obtain ⟨Ao303, co303, eo303⟩ := Kd.R_slice HO514.out; subst eo303) | (go_at_call 22; (with_reducible refine (laws_xSame.calls k4 _ _ t511 _ _ t424 true _ ?side1 ?side2 ?side3 ?side4 A297.out).mono ?_); (case side1 => exact cr_ (Kd.R_reads' HO514.out).2.2); (case side2 => exact (Kd.R_reads' HO514.out).2.1); (case side3 => exact cr_ (Kd.R_reads' HO_5.out).2.2); (case side4 => exact (Kd.R_reads' HO_5.out).2.1); rintro e w' ⟨rfl, ⟨nd, rfl⟩⟩; (try exact dd_))); try go_wp2)
                      go_meet
                      case rel => exact ⟨_, H', ⟨by have := HJ21.out; have := HJ200.out; have := HK3.out; have := HK4.out; first | omega | exact Nat.le_refl _⟩, ⟨bw_⟩⟩
                     ·replace c298 := Bool.eq_false_iff.mpr c298
                      subst c298
                      have H1 : (some false) = some r := by rw [if_neg (show ¬ (false = true) by decide)] at H; exact H
                      clear H
                      have H := H1
                      clear H1
                      obtain rfl := Option.some.inj H
                      exact absurd hr_.out (by decide)
                    ·replace c296 := Bool.eq_false_iff.mpr c296
                     subst c296
                     have H1 : (some false) = some r := by rw [if_neg (show ¬ (false = true) by decide)] at H; exact H
                     clear H
                     have H := H1
                     clear H1
                     obtain rfl := Option.some.inj H
                     exact absurd hr_.out (by decide)
                   ·rw [if_neg c295] at H
                    have c295b0 : ((t507.length : Int) == t448) = false := beq_eq_false_iff_ne.mpr c295
                    have c295b1 : ((t507.length : Int) != t448) = true := bne_iff_ne.mpr c295
                    obtain rfl := Option.some.inj H
                    exact absurd hr_.out (by decide)
                  ·replace c294 := Bool.eq_false_iff.mpr c294
                   subst c294
                   have H1 : (some false) = some r := by rw [if_neg (show ¬ (false = true) by decide)] at H; exact H
                   clear H
                   have H := H1
                   clear H1
                   obtain rfl := Option.some.inj H
                   exact absurd hr_.out (by decide)
              ·rw [if_neg c272] at H
               exact absurd H (by simp)
             ·rw [if_neg c271] at H
              exact absurd H (by simp)
      ·replace c200 := Bool.eq_false_iff.mpr c200
       subst c200
       have H1 : (laws_FnChaptersBegin.j5 kj21 l1) = some r := by rw [if_neg (show ¬ (false = true) by decide)] at H; exact H
       clear H
       have H := H1
       clear H1
       have H' := Aside0.mk H
       clear H
       go_wp2
       repeat (go_quiet (fail); try go_wp2)
       go_meet
       case rel => exact ⟨_, H', ⟨by have := HJ21.out; first | omega | exact Nat.le_refl _⟩, ⟨bw_⟩⟩
     case rest => as_aux_lemma =>
      clear HC199
      (try clear c1); (try clear c2); (try clear p2); (try clear q2); (try clear hx2); (try clear hf2); (try clear c3); (try clear c4); (try clear p4); (try clear q4); (try clear hx4); (try clear qi4); (try clear c5); (try clear p5); (try clear q5); (try clear hx5); (try clear c6); (try clear p6); (try clear c7); (try clear c8); (try clear c9); (try clear c10); (try clear c11); (try clear c12); (try clear c13); (try clear c14); (try clear c19); (try clear c20); (try clear c21); (try clear c22); (try clear c24); (try clear c25); (try clear c26); (try clear c27); (try clear c28); (try clear p28); (try clear q28); (try clear hx28); (try clear hf28); (try clear c29); (try clear c37); (try clear c37b0); (try clear c37b1); (try clear c37b2); (try clear c39); (try clear c40); (try clear c40b0); (try clear c40b1); (try clear c40b2); (try clear c44); (try clear c45); (try clear c45b0); (try clear c45b1); (try clear c45b2); (try clear p48); (try clear q48); (try clear hx48); (try clear qi48); (try clear p49); (try clear q49); (try clear hx49); (try clear c50); (try clear c50b0); (try clear c50b1); (try clear p50); (try clear q50); (try clear hx50); (try clear c51); (try clear c51b0); (try clear c51b1); (try clear c51b2); (try clear c56); (try clear c56b0); (try clear c56b1); (try clear c57); (try clear c57b0); (try clear c57b1); (try clear c57b2); (try clear c63); (try clear c64); (try clear c64b0); (try clear c64b1); (try clear c64b2); (try clear p64); (try clear c71); (try clear c71b0); (try clear c71b1); (try clear c72); (try clear c72b0); (try clear c72b1); (try clear c72b2); (try clear c79); (try clear c79b0); (try clear c79b1); (try clear c80); (try clear c80b0); (try clear c80b1); (try clear c80b2); (try clear c87); (try clear c87b0); (try clear c87b1); (try clear c88); (try clear c88b0); (try clear c88b1); (try clear c90); (try clear c90b0); (try clear c90b1); (try clear c90b2); (try clear c99); (try clear c99b0); (try clear c99b1); (try clear c99b2); (try clear c106); (try clear c106b0); (try clear c106b1); (try clear c106b2); (try clear c113); (try clear c113b0); (try clear c113b1); (try clear c113b2); (try clear c120); (try clear c120b0); (try clear c120b1); (try clear c120b2); (try clear c127); (try clear c127b0); (try clear c127b1); (try clear c127b2); (try clear c134); (try clear c134b0); (try clear c134b1); (try clear c134b2); (try clear c141); (try clear c141b0); (try clear c141b1); (try clear c141b2); (try clear c198); (try clear c200); (try clear c202); (try clear c202b0); (try clear c202b1); (try clear c202b2); (try clear c203); (try clear c203b0); (try clear c203b1); (try clear c204); (try clear c204b0); (try clear c204b1); (try clear c206); (try clear c208); (try clear c210); (try clear c210b0); (try clear c210b1); (try clear c211); (try clear c212); (try clear c212b0); (try clear c215); (try clear c215b0); (try clear c218); (try clear c218b0); (try clear c224); (try clear c224b0); (try clear c224b1); (try clear c224b2); (try clear c225); (try clear c225b0); (try clear c228); (try clear c228b0); (try clear c243); (try clear c245); (try clear c245b0); (try clear c246); (try clear c246b0); (try clear c247); (try clear c247b0); (try clear c249); (try clear c250); (try clear c250b0); (try clear c250b1); (try clear c251); (try clear c251b0); (try clear c253); (try clear c253b0); (try clear c254); (try clear c254b0); (try clear c255); (try clear c255b0); (try clear c256); (try clear c256b0); (try clear c257); (try clear c257b0); (try clear c259); (try clear c259b0); (try clear c260); (try clear c260b0); (try clear c261); (try clear c261b0); (try clear c262); (try clear c262b0); (try clear c263); (try clear c264); (try clear c264b0); (try clear c265); (try clear c265b0); (try clear c266); (try clear c266b0); (try clear c267); (try clear c267b0); (try clear c267b1); (try clear c268); (try clear c268b0); (try clear c269); (try clear c269b0); (try clear c269b1); (try clear c270); (try clear c270b0); (try clear c270b1); (try clear c271); (try clear c271b0); (try clear c271b1); (try clear c272); (try clear c272b0); (try clear c272b1); (try clear c276); (try clear c276b0); (try clear c277); (try clear c277b0); (try clear c278); (try clear c278b0); (try clear c279); (try clear c279b0); (try clear c280); (try clear c280b0); (try clear c281); (try clear c281b0); (try clear c282); (try clear c282b0); (try clear q283); (try clear c284); (try clear p285); (try clear q285); (try clear hx285); (try clear hf285); (try clear c286); (try clear c286b0); (try clear c287); (try clear c294); (try clear c295); (try clear c295b0); (try clear c295b1); (try clear c296); (try clear c298); (try clear hx285_0); (try clear hx480_0); (try clear hx484_0); (try clear hx485_0); (try clear hx486_0); (try clear hx487_0); (try clear hx488_0); (try clear hx489_0); (try clear hx490_0); (try clear hx491_0); (try clear hx492_0); (try clear hx493_0); (try clear hx494_0); (try clear hx495_0); (try clear hx500_0); (try clear hx501_0); (try clear hx503_0); (try clear p480); (try clear p484); (try clear p485); (try clear p486); (try clear p487); (try clear p488); (try clear p489); (try clear p490); (try clear p491); (try clear p492); (try clear p493); (try clear p494); (try clear p495); (try clear p500); (try clear p501); (try clear p503); (try clear q480); (try clear q484); (try clear q485); (try clear q486); (try clear q487); (try clear q488); (try clear q489); (try clear q490); (try clear q491); (try clear q492); (try clear q493); (try clear q494); (try clear q495); (try clear q500); (try clear q501); (try clear q503)
      obtain ⟨kq, HA, HJ198, HB⟩ := hcut
      cases kq with
      | zero => exact absurd HA.out (by simp [laws_FnChaptersBegin.j5])
      | succ kj198 =>
       have H := HA.out
       clear HA
       simp only [laws_FnChaptersBegin.j5] at H
       replace H := Option.bind_eq_some_iff.mp H
       obtain ⟨⟨t516, t517, t518⟩, A3040, H⟩ := H
       (try dsimp only at H)
       have A304 := Aside0.mk A3040
       clear A3040
       replace H := Option.bind_eq_some_iff.mp H
       obtain ⟨⟨t521, t522, t523⟩, A3050, H⟩ := H
       (try dsimp only at H)
       have A305 := Aside0.mk A3050
       clear A3050
       replace H := Option.bind_eq_some_iff.mp H
       obtain ⟨⟨t524, t525, t526⟩, A3060, H⟩ := H
       (try dsimp only at H)
       have A306 := Aside0.mk A3060
       clear A3060
       replace H := Option.bind_eq_some_iff.mp H
       obtain ⟨⟨t527, t528, t529⟩, A3070, H⟩ := H
       (try dsimp only at H)
       have A307 := Aside0.mk A3070
       clear A3070
       replace H := Option.bind_eq_some_iff.mp H
       obtain ⟨⟨t532, t533⟩, A3080, H⟩ := H
       (try dsimp only at H)
       have A308 := Aside0.mk A3080
       clear A3080
       replace H := Option.bind_eq_some_iff.mp H
       obtain ⟨⟨t536, t537⟩, A3090, H⟩ := H
       (try dsimp only at H)
       have A309 := Aside0.mk A3090
       clear A3090
       replace H := Option.bind_eq_some_iff.mp H
       obtain ⟨t540, A3100, H⟩ := H
       (try dsimp only at H)
       have A310 := Aside0.mk A3100
       clear A3100
       replace H := Option.bind_eq_some_iff.mp H
       obtain ⟨⟨t541, t542⟩, A3110, H⟩ := H
       (try dsimp only at H)
       have A311 := Aside0.mk A3110
       clear A3110
       replace H := Option.bind_eq_some_iff.mp H
       obtain ⟨⟨t545, t546⟩, A3120, H⟩ := H
       (try dsimp only at H)
       have A312 := Aside0.mk A3120
       clear A3120
       have HC313 := Aside0.mk H
       clear H
       go_upto_region 56 with (first | (go_at_call 28; (with_reducible refine (spec_DrawChapterOfPage.calls kj198 _ _ l1 t516 t517 t518 _ ?side1 ?side2 A304.out).mono ?_); (case side1 => exact cr_ (Kd.C_below HR1.out HB.out)); (case side2 => exact HC1.out); rintro e w314 ⟨v519, rfl, ho0, hb⟩; have n0_ := Aside0.mk (Kd.R_lower ho0 (below_size bw_)); have n1_ := Aside0.mk (below_step bw_ hb); clear HB; have HO520 := n0_; have HB := n1_; clear n0_ n1_; (try clear hb); (try clear hb2); (try clear hk); (try clear hi); (try clear ho0); obtain ⟨Ao315, co315, eo315⟩ := Kd.R_slice HO520.out; subst eo315) | (go_at_call 29; (with_reducible refine (impl_ChapterOfPage.calls kj198 _ _ t516 t517 t518 t521 t522 t523 _ ?side1 ?side2 A305.out).mono ?_); (case side1 => exact cr_ (Kd.R_reads' HO520.out).2.2); (case side2 => exact (Kd.R_reads' HO520.out).2.1); rintro e w316 ⟨rfl, hb⟩; have n0_ := Aside0.mk (Kd.R_below (rr_ HO520.out) hb); have n1_ := Aside0.mk (below_step bw_ hb); clear HO520; clear HB; have HO520 := n0_; have HB := n1_; clear n0_ n1_; (try clear hb); (try clear hb2); (try clear hk); (try clear hi)) | (go_at_call 30; (with_reducible refine (spec_ChapterOfPage.calls kj198 _ _ t516 t517 t518 t524 t525 t526 _ ?side1 ?side2 A306.out).mono ?_); (case side1 => exact cr_ (Kd.R_reads' HO520.out).2.2); (case side2 => exact (Kd.R_reads' HO520.out).2.1); rintro e w317 ⟨rfl, hb⟩; have n0_ := Aside0.mk (Kd.R_below (rr_ HO520.out) hb); have n1_ := Aside0.mk (below_step bw_ hb); clear HO520; clear HB; have HO520 := n0_; have HB := n1_; clear n0_ n1_; (try clear hb); (try clear hb2); (try clear hk); (try clear hi)) | (go_at_call 31; (with_reducible refine (spec_DrawMoveChapter.calls kj198 _ _ l1 t527 t528 t529 _ ?side1 ?side2 A307.out).mono ?_); (case side1 => exact cr_ (Kd.C_below HR1.out HB.out)); (case side2 => exact HC1.out); rintro e w318 ⟨v530, rfl, ho0, hb⟩; have n0_ := Aside0.mk (Kd.R_elder' (rr_ HO520.out) (Kd.R_base ho0) hb); have n1_ := Aside0.mk (Kd.R_lower (Kd.R_new' ho0 (Kd.R_lt (rr_ HO520.out))) (below_size bw_)); have n2_ := Aside0.mk (below_step bw_ hb); clear HO520; clear HB; have HO520 := n0_; have HO531 := n1_; have HB := n2_; clear n0_ n1_ n2_; (try clear hb); (try clear hb2); (try clear hk); (try clear hi); (try clear ho0); obtain ⟨Ao319, co319, eo319⟩ := Kd.R_slice HO531.out; subst eo319) | (go_at_call 32; (with_reducible refine (impl_MoveChapter.calls kj198 _ _ t527 t528 t529 t532 t533 _ ?side1 ?side2 A308.out).mono ?_); (case side1 => exact cr_ (Kd.R_reads' HO531.out).2.2); (case side2 => exact (Kd.R_reads' HO531.out).2.1); rintro e w320 ⟨v534, rfl, ho0, hb⟩; have n0_ := Aside0.mk (Kd.R_elder' (rr_ HO520.out) (Kd.R_base ho0) hb); have n1_ := Aside0.mk (Kd.R_elder' (rr_ HO531.out) (Kd.R_base ho0) hb); have n2_ := Aside0.mk (Kd.R_lower (Kd.R_new' (Kd.R_new' ho0 (Kd.R_lt (rr_ HO520.out))) (Kd.R_lt (rr_ HO531.out))) (below_size bw_)); have n3_ := Aside0.mk (below_step bw_ hb); clear HO520; clear HO531; clear HB; have HO520 := n0_; have HO531 := n1_; have HO535 := n2_; have HB := n3_; clear n0_ n1_ n2_ n3_; (try clear hb); (try clear hb2); (try clear hk); (try clear hi); (try clear ho0)) | (go_at_call 33; (with_reducible refine (spec_MoveChapter.calls kj198 _ _ t527 t528 t529 t536 t537 _ ?side1 ?side2 A309.out).mono ?_); (case side1 => exact cr_ (Kd.R_reads' HO531.out).2.2); (case side2 => exact (Kd.R_reads' HO531.out).2.1); rintro e w321 ⟨v538, rfl, ho0, hb⟩; have n0_ := Aside0.mk (Kd.R_elder' (rr_ HO520.out) (Kd.R_base ho0) hb); have n1_ := Aside0.mk (Kd.R_elder' (rr_ HO531.out) (Kd.R_base ho0) hb); have n2_ := Aside0.mk (Kd.R_elder' (rr_ HO535.out) (Kd.R_base ho0) hb); have n3_ := Aside0.mk (Kd.R_lower (Kd.R_new' (Kd.R_new' (Kd.R_new' ho0 (Kd.R_lt (rr_ HO520.out))) (Kd.R_lt (rr_ HO531.out))) (Kd.R_lt (rr_ HO535.out))) (below_size bw_)); have n4_ := Aside0.mk (below_step bw_ hb); clear HO520; clear HO531; clear HO535; clear HB; have HO520 := n0_; have HO531 := n1_; have HO535 := n2_; have HO539 := n3_; have HB := n4_; clear n0_ n1_ n2_ n3_ n4_; (try clear hb); (try clear hb2); (try clear hk); (try clear hi); (try clear ho0)) | (go_at_call 34; (with_reducible refine (spec_DrawParseChapters.calls kj198 _ _ l1 t540 _ ?side1 ?side2 A310.out).mono ?_); (case side1 => exact cr_ (Kd.C_below HR1.out HB.out)); (case side2 => exact HC1.out); rintro e w322 ⟨rfl, hb⟩; have n0_ := Aside0.mk (Kd.R_below (rr_ HO520.out) hb); have n1_ := Aside0.mk (Kd.R_below (rr_ HO531.out) hb); have n2_ := Aside0.mk (Kd.R_below (rr_ HO535.out) hb); have n3_ := Aside0.mk (Kd.R_below (rr_ HO539.out) hb); have n4_ := Aside0.mk (below_step bw_ hb); clear HO520; clear HO531; clear HO535; clear HO539; clear HB; have HO520 := n0_; have HO531 := n1_; have HO535 := n2_; have HO539 := n3_; have HB := n4_; clear n0_ n1_ n2_ n3_ n4_; (try clear hb); (try clear hb2); (try clear hk); (try clear hi)) | (go_at_call 27; (with_reducible refine (impl_ParseChapters.calls kj198 t540 t541 t542 _ ?side1 A311.out).mono ?_); (case side1 => exact TabC.below HT.out bw_); rintro e w323 ⟨v543, rfl, ho0, hb⟩; have n0_ := Aside0.mk (Kd.R_elder' (rr_ HO520.out) (Kd.R_base ho0) hb); have n1_ := Aside0.mk (Kd.R_elder' (rr_ HO531.out) (Kd.R_base ho0) hb); have n2_ := Aside0.mk (Kd.R_elder' (rr_ HO535.out) (Kd.R_base ho0) hb); have n3_ := Aside0.mk (Kd.R_elder' (rr_ HO539.out) (Kd.R_base ho0) hb); have n4_ := Aside0.mk (Kd.R_lower (Kd.R_new' (Kd.R_new' (Kd.R_new' (Kd.R_new' ho0 (Kd.R_lt (rr_ HO520.out))) (Kd.R_lt (rr_ HO531.out))) (Kd.R_lt (rr_ HO535.out))) (Kd.R_lt (rr_ HO539.out))) (below_size bw_)); have n5_ := Aside0.mk (below_step bw_ hb); clear HO520; clear HO531; clear HO535; clear HO539; clear HB; have HO520 := n0_; have HO531 := n1_; have HO535 := n2_; have HO539 := n3_; have HO544 := n4_; have HB := n5_; clear n0_ n1_ n2_ n3_ n4_ n5_; (try clear hb); (try clear hb2); (try clear hk); (try clear hi); (try clear ho0)) | (go_at_call 35; (with_reducible refine (spec_ParseChapters.calls kj198 t540 t545 t546 _ A312.out).mono ?_); rintro e w324 ⟨v547, rfl, ho0, hb⟩; have n0_ := Aside0.mk (Kd.R_elder' (rr_ HO520.out) (Kd.R_base ho0) hb); have n1_ := Aside0.mk (Kd.R_elder' (rr_ HO531.out) (Kd.R_base ho0) hb); have n2_ := Aside0.mk (Kd.R_elder' (rr_ HO535.out) (Kd.R_base ho0) hb); have n3_ := Aside0.mk (Kd.R_elder' (rr_ HO539.out) (Kd.R_base ho0) hb); have n4_ := Aside0.mk (Kd.R_elder' (rr_ HO544.out) (Kd.R_base ho0) hb); have n5_ := Aside0.mk (Kd.R_lower (Kd.R_new' (Kd.R_new' (Kd.R_new' (Kd.R_new' (Kd.R_new' ho0 (Kd.R_lt (rr_ HO520.out))) (Kd.R_lt (rr_ HO531.out))) (Kd.R_lt (rr_ HO535.out))) (Kd.R_lt (rr_ HO539.out))) (Kd.R_lt (rr_ HO544.out))) (below_size bw_)); have n6_ := Aside0.mk (below_step bw_ hb); clear HO520; clear HO531; clear HO535; clear HO539; clear HO544; clear HB; have HO520 := n0_; have HO531 := n1_; have HO535 := n2_; have HO539 := n3_; have HO544 := n4_; have HO548 := n5_; have HB := n6_; clear n0_ n1_ n2_ n3_ n4_ n5_ n6_; (try clear hb); (try clear hb2); (try clear hk); (try clear hi); (try clear ho0)))
       repeat (go_quiet (fail); go_upto_region 56 with (fail))
       (try simp only [Act.put, List.setIfInBounds_toArray, List.set_cons_zero, List.set_cons_succ])
       go_cut [609] from 575 to 608 (fun v609 wc => ∃ (kq : Nat) (x609_312 : Bool), v609 = .bool x609_312 ∧ Aside0 (laws_FnChaptersBegin.j6 kq t516 t517 t518 t521 t522 t523 t527 t528 t529 t532 t533 t540 t541 t542 x609_312 = some r) ∧ Aside0 (kq ≤ kj198) ∧ Aside0 (Kd.R (Kd.int .i64) 3 wc w.heap.size (fun k_ => some k_ ≠ ((.slice Ao319 t527.length co319) : Value).ownBlock ∧ some k_ ≠ (v534 : Value).ownBlock ∧ some k_ ≠ (v543 : Value).ownBlock) (.slice Ao315 t516.length co315) t516) ∧ Aside0 (Kd.R (Kd.int .i64) 3 wc w.heap.size (fun k_ => some k_ ≠ ((.slice Ao315 t516.length co315) : Value).ownBlock ∧ some k_ ≠ (v534 : Value).ownBlock ∧ some k_ ≠ (v543 : Value).ownBlock) (.slice Ao319 t527.length co319) t527) ∧ Aside0 (Kd.R (Kd.int .i64) 3 wc w.heap.size (fun k_ => some k_ ≠ ((.slice Ao315 t516.length co315) : Value).ownBlock ∧ some k_ ≠ ((.slice Ao319 t527.length co319) : Value).ownBlock ∧ some k_ ≠ (v543 : Value).ownBlock) v534 t532) ∧ Aside0 (Kd.R (Kd.int .i64) 3 wc w.heap.size (fun k_ => some k_ ≠ ((.slice Ao315 t516.length co315) : Value).ownBlock ∧ some k_ ≠ ((.slice Ao319 t527.length co319) : Value).ownBlock ∧ some k_ ≠ (v534 : Value).ownBlock) v543 t541) ∧ Aside0 (Below w.heap.size w wc))
       case first => as_aux_lemma =>
        have H := HC313.out
        clear HC313
        by_cases c325 : (t523 != t526) = true
        ·rw [if_pos c325] at H
         have c325b0 : (t523 != t526) = true := c325
         (try (have c325b1 : decide (t523 = t526) = false := by simpa using c325))
         (try (have c325b2 : (t523 == t526) = false := by simpa using c325))
         (try (have c325b3 : ¬ (t523 = t526) := by simpa using c325))
         clear c325
         (first | rw [c325b0] | skip)
         exact (laws_FnChaptersBegin.j6_no H hr_.out).elim
        ·rw [if_neg c325] at H
         have c325b0 : (t523 != t526) = false := by simpa using c325
         (try (have c325b1 : decide (t523 = t526) = true := by simpa using c325))
         (try (have c325b2 : (t523 == t526) = true := by simpa using c325))
         clear c325
         (first | rw [c325b0] | skip)
         by_cases c326 : t521 = t524
         ·rw [if_pos c326] at H
          have c326b0 : (t521 == t524) = true := beq_iff_eq.mpr c326
          have c326b1 : (t521 != t524) = false := bne_eq_false_iff_eq.mpr c326
          clear c326
          by_cases c327 : t522 = t525
          ·rw [if_pos c327] at H
           have c327b0 : (t522 == t525) = true := beq_iff_eq.mpr c327
           have c327b1 : (t522 != t525) = false := bne_eq_false_iff_eq.mpr c327
           clear c327
           by_cases c328 : (t533 != t537) = true
           ·rw [if_pos c328] at H
            have c328b0 : (t533 != t537) = true := c328
            (try (have c328b1 : decide (t533 = t537) = false := by simpa using c328))
            (try (have c328b2 : (t533 == t537) = false := by simpa using c328))
            (try (have c328b3 : ¬ (t533 = t537) := by simpa using c328))
            clear c328
            exact (laws_FnChaptersBegin.j6_no H hr_.out).elim
           ·rw [if_neg c328] at H
            have c328b0 : (t533 != t537) = false := by simpa using c328
            (try (have c328b1 : decide (t533 = t537) = true := by simpa using c328))
            (try (have c328b2 : (t533 == t537) = true := by simpa using c328))
            clear c328
            replace H := Option.bind_eq_some_iff.mp H
            obtain ⟨t549, A3290, H⟩ := H
            (try dsimp only at H)
            have A329 := Aside0.mk A3290
            clear A3290
            by_cases c330 : t549 = true
            ·subst c330
             have H1 : (if (t542 != t546) = true then (laws_FnChaptersBegin.j6 kj198 t516 t517 t518 t521 t522 t523 t527 t528 t529 t532 t533 t540 t541 t542 true) else ((laws_xSame.f kj198 t541 t545).bind fun t550 => (laws_FnChaptersBegin.j6 kj198 t516 t517 t518 t521 t522 t523 t527 t528 t529 t532 t533 t540 t541 t542 (!t550)))) = some r := by rw [if_pos rfl] at H; exact H
             clear H
             have H := H1
             clear H1
             by_cases c331 : (t542 != t546) = true
             ·rw [if_pos c331] at H
              have c331b0 : (t542 != t546) = true := c331
              (try (have c331b1 : decide (t542 = t546) = false := by simpa using c331))
              (try (have c331b2 : (t542 == t546) = false := by simpa using c331))
              (try (have c331b3 : ¬ (t542 = t546) := by simpa using c331))
              clear c331
              exact (laws_FnChaptersBegin.j6_no H hr_.out).elim
             ·rw [if_neg c331] at H
              have c331b0 : (t542 != t546) = false := by simpa using c331
              (try (have c331b1 : decide (t542 = t546) = true := by simpa using c331))
              (try (have c331b2 : (t542 == t546) = true := by simpa using c331))
              clear c331
              replace H := Option.bind_eq_some_iff.mp H
              obtain ⟨t550, A3340, H⟩ := H
              (try dsimp only at H)
              have A334 := Aside0.mk A3340
              clear A3340
              have H' := Aside0.mk H
              clear H
              obtain ⟨Ao335, co335, eo335⟩ := Kd.R_slice HO535.out
              subst eo335
              obtain ⟨Ao336, co336, eo336⟩ := Kd.R_slice HO539.out
              subst eo336
              go_wp2_with (first | (go_at_call 22; (with_reducible refine (laws_xSame.calls kj198 _ _ t532 _ _ t536 true _ ?side1 ?side2 ?side3 ?side4 A329.out).mono ?_); (case side1 => exact cr_ (Kd.R_reads' HO535.out).2.2); (case side2 => exact (Kd.R_reads' HO535.out).2.1); (case side3 => exact cr_ (Kd.R_reads' HO539.out).2.2); (case side4 => exact (Kd.R_reads' HO539.out).2.1); rintro e w' ⟨rfl, ⟨nd, rfl⟩⟩; (try exact dd_); obtain ⟨Ao337, co337, eo337⟩ := Kd.R_slice HO544.out; subst eo337; obtain ⟨Ao338, co338, eo338⟩ := Kd.R_slice HO548.out; subst eo338) | (go_at_call 22; (with_reducible refine (laws_xSame.calls kj198 _ _ t541 _ _ t545 t550 _ ?side1 ?side2 ?side3 ?side4 A334.out).mono ?_); (case side1 => exact cr_ (Kd.R_reads' HO544.out).2.2); (case side2 => exact (Kd.R_reads' HO544.out).2.1); (case side3 => exact cr_ (Kd.R_reads' HO548.out).2.2); (case side4 => exact (Kd.R_reads' HO548.out).2.1); rintro e w' ⟨rfl, ⟨nd, rfl⟩⟩; (try exact dd_)))
              repeat (go_quiet (first | (go_at_call 22; (with_reducible refine (laws_xSame.calls kj198 _ _ t532 _ _ t536 true _ ?side1 ?side2 ?side3 ?side4 A329.out).mono ?_); (case side1 => exact cr_ (Kd.R_reads' HO535.out).2.2); (case side2 => exact (Kd.R_reads' HO535.out).2.1); (case side3 => exact cr_ (Kd.R_reads' HO539.out).2.2); (case side4 => exact (Kd.R_reads' HO539.out).2.1); rintro e w' ⟨rfl, ⟨nd, rfl⟩⟩; (try exact dd_); obtain ⟨Ao337, co337, eo337⟩ := Kd.R_slice HO544.out; subst eo337; obtain ⟨Ao338, co338, eo338⟩ := Kd.R_slice HO548.out; subst eo338) | (go_at_call 22; (with_reducible refine (laws_xSame.calls kj198 _ _ t541 _ _ t545 t550 _ ?side1 ?side2 ?side3 ?side4 A334.out).mono ?_); (case side1 => exact cr_ (Kd.R_reads' HO544.out).2.2); (case side2 => exact (Kd.R_reads' HO544.out).2.1); (case side3 => exact cr_ (Kd.R_reads' HO548.out).2.2); (case side4 => exact (Kd.R_reads' HO548.out).2.1); rintro e w' ⟨rfl, ⟨nd, rfl⟩⟩; (try exact dd_))); try go_wp2)
              go_meet
              case rel => exact ⟨_, (!t550), rs_, H', ⟨by have := HJ21.out; have := HJ198.out; first | omega | exact Nat.le_refl _⟩, ⟨by (with_reducible repeat (first | apply Kd.R_alloc | apply Kd.R_drewN | apply Kd.R_drew)); exact Kd.R_mono HO520.out (fun _ hk => ⟨hk.1.1.1.1.2, ⟨hk.1.1.1.2, hk.1.2⟩⟩)⟩, ⟨by (with_reducible repeat (first | apply Kd.R_alloc | apply Kd.R_drewN | apply Kd.R_drew)); exact Kd.R_mono HO531.out (fun _ hk => ⟨hk.1.1.1.1.2, ⟨hk.1.1.1.2, hk.1.2⟩⟩)⟩, ⟨by (with_reducible repeat (first | apply Kd.R_alloc | apply Kd.R_drewN | apply Kd.R_drew)); exact Kd.R_mono HO535.out (fun _ hk => ⟨hk.1.1.1.1.2, ⟨hk.1.1.1.2, hk.1.2⟩⟩)⟩, ⟨by (with_reducible repeat (first | apply Kd.R_alloc | apply Kd.R_drewN | apply Kd.R_drew)); exact Kd.R_mono HO544.out (fun _ hk => ⟨hk.1.1.1.1.2, ⟨hk.1.1.1.2, hk.1.1.2⟩⟩)⟩, ⟨bw_⟩⟩
            ·replace c330 := Bool.eq_false_iff.mpr c330
             subst c330
             have H1 : (laws_FnChaptersBegin.j6 kj198 t516 t517 t518 t521 t522 t523 t527 t528 t529 t532 t533 t540 t541 t542 true) = some r := by rw [if_neg (show ¬ (false = true) by decide)] at H; exact H
             clear H
             have H := H1
             clear H1
             exact (laws_FnChaptersBegin.j6_no H hr_.out).elim
          ·rw [if_neg c327] at H
           have c327b0 : (t522 == t525) = false := beq_eq_false_iff_ne.mpr c327
           have c327b1 : (t522 != t525) = true := bne_iff_ne.mpr c327
           exact (laws_FnChaptersBegin.j6_no H hr_.out).elim
         ·rw [if_neg c326] at H
          have c326b0 : (t521 == t524) = false := beq_eq_false_iff_ne.mpr c326
          have c326b1 : (t521 != t524) = true := bne_iff_ne.mpr c326
          exact (laws_FnChaptersBegin.j6_no H hr_.out).elim
       case rest => as_aux_lemma =>
        clear HC313
        (try clear c1); (try clear c2); (try clear p2); (try clear q2); (try clear hx2); (try clear hf2); (try clear c3); (try clear c4); (try clear p4); (try clear q4); (try clear hx4); (try clear qi4); (try clear c5); (try clear p5); (try clear q5); (try clear hx5); (try clear c6); (try clear p6); (try clear c7); (try clear c8); (try clear c9); (try clear c10); (try clear c11); (try clear c12); (try clear c13); (try clear c14); (try clear c19); (try clear c20); (try clear c21); (try clear c22); (try clear c24); (try clear c25); (try clear c26); (try clear c27); (try clear c28); (try clear p28); (try clear q28); (try clear hx28); (try clear hf28); (try clear c29); (try clear c32); (try clear c33); (try clear c37); (try clear c37b0); (try clear c37b1); (try clear c37b2); (try clear c39); (try clear c40); (try clear c40b0); (try clear c40b1); (try clear c40b2); (try clear c44); (try clear c45); (try clear c45b0); (try clear c45b1); (try clear c45b2); (try clear p48); (try clear q48); (try clear hx48); (try clear qi48); (try clear p49); (try clear q49); (try clear hx49); (try clear c50); (try clear c50b0); (try clear c50b1); (try clear p50); (try clear q50); (try clear hx50); (try clear c51); (try clear c51b0); (try clear c51b1); (try clear c51b2); (try clear c56); (try clear c56b0); (try clear c56b1); (try clear c57); (try clear c57b0); (try clear c57b1); (try clear c57b2); (try clear c63); (try clear c64); (try clear c64b0); (try clear c64b1); (try clear c64b2); (try clear p64); (try clear c71); (try clear c71b0); (try clear c71b1); (try clear c72); (try clear c72b0); (try clear c72b1); (try clear c72b2); (try clear c79); (try clear c79b0); (try clear c79b1); (try clear c80); (try clear c80b0); (try clear c80b1); (try clear c80b2); (try clear c87); (try clear c87b0); (try clear c87b1); (try clear c88); (try clear c88b0); (try clear c88b1); (try clear c90); (try clear c90b0); (try clear c90b1); (try clear c90b2); (try clear c99); (try clear c99b0); (try clear c99b1); (try clear c99b2); (try clear c106); (try clear c106b0); (try clear c106b1); (try clear c106b2); (try clear c113); (try clear c113b0); (try clear c113b1); (try clear c113b2); (try clear c120); (try clear c120b0); (try clear c120b1); (try clear c120b2); (try clear c127); (try clear c127b0); (try clear c127b1); (try clear c127b2); (try clear c134); (try clear c134b0); (try clear c134b1); (try clear c134b2); (try clear c141); (try clear c141b0); (try clear c141b1); (try clear c141b2); (try clear c198); (try clear c200); (try clear c202); (try clear c202b0); (try clear c202b1); (try clear c202b2); (try clear c203); (try clear c203b0); (try clear c203b1); (try clear c204); (try clear c204b0); (try clear c204b1); (try clear c206); (try clear c208); (try clear c210); (try clear c210b0); (try clear c210b1); (try clear c211); (try clear c212); (try clear c212b0); (try clear c215); (try clear c215b0); (try clear c218); (try clear c218b0); (try clear c224); (try clear c224b0); (try clear c224b1); (try clear c224b2); (try clear c225); (try clear c225b0); (try clear c228); (try clear c228b0); (try clear c243); (try clear c245); (try clear c245b0); (try clear c246); (try clear c246b0); (try clear c247); (try clear c247b0); (try clear c249); (try clear c250); (try clear c250b0); (try clear c250b1); (try clear c251); (try clear c251b0); (try clear c253); (try clear c253b0); (try clear c254); (try clear c254b0); (try clear c255); (try clear c255b0); (try clear c256); (try clear c256b0); (try clear c257); (try clear c257b0); (try clear c259); (try clear c259b0); (try clear c260); (try clear c260b0); (try clear c261); (try clear c261b0); (try clear c262); (try clear c262b0); (try clear c263); (try clear c264); (try clear c264b0); (try clear c265); (try clear c265b0); (try clear c266); (try clear c266b0); (try clear c267); (try clear c267b0); (try clear c267b1); (try clear c268); (try clear c268b0); (try clear c269); (try clear c269b0); (try clear c269b1); (try clear c270); (try clear c270b0); (try clear c270b1); (try clear c271); (try clear c271b0); (try clear c271b1); (try clear c272); (try clear c272b0); (try clear c272b1); (try clear c276); (try clear c276b0); (try clear c277); (try clear c277b0); (try clear c278); (try clear c278b0); (try clear c279); (try clear c279b0); (try clear c280); (try clear c280b0); (try clear c281); (try clear c281b0); (try clear c282); (try clear c282b0); (try clear q283); (try clear c284); (try clear p285); (try clear q285); (try clear hx285); (try clear hf285); (try clear c286); (try clear c286b0); (try clear c287); (try clear c294); (try clear c295); (try clear c295b0); (try clear c295b1); (try clear c296); (try clear c298); (try clear c325); (try clear c325b0); (try clear c325b1); (try clear c325b2); (try clear c326); (try clear c326b0); (try clear c326b1); (try clear c327); (try clear c327b0); (try clear c327b1); (try clear c328); (try clear c328b0); (try clear c328b1); (try clear c328b2); (try clear c330); (try clear c331); (try clear c331b0); (try clear c331b1); (try clear c331b2); (try clear hx285_0); (try clear hx480_0); (try clear hx484_0); (try clear hx485_0); (try clear hx486_0); (try clear hx487_0); (try clear hx488_0); (try clear hx489_0); (try clear hx490_0); (try clear hx491_0); (try clear hx492_0); (try clear hx493_0); (try clear hx494_0); (try clear hx495_0); (try clear hx500_0); (try clear hx501_0); (try clear hx503_0); (try clear p480); (try clear p484); (try clear p485); (try clear p486); (try clear p487); (try clear p488); (try clear p489); (try clear p490); (try clear p491); (try clear p492); (try clear p493); (try clear p494); (try clear p495); (try clear p500); (try clear p501); (try clear p503); (try clear q480); (try clear q484); (try clear q485); (try clear q486); (try clear q487); (try clear q488); (try clear q489); (try clear q490); (try clear q491); (try clear q492); (try clear q493); (try clear q494); (try clear q495); (try clear q500); (try clear q501); (try clear q503)
        obtain ⟨kq, x609_312, rfl, HA, HJ312, HO_51, HO_60, HO_63, HO_68, HB⟩ := hcut
        cases kq with
        | zero => exact absurd HA.out (by simp [laws_FnChaptersBegin.j6])
        | succ kj312 =>
         have H := HA.out
         clear HA
         simp only [laws_FnChaptersBegin.j6] at H
         by_cases c341 : x609_312 = true
         ·subst c341
          have H1 : (some false) = some r := by rw [if_pos rfl] at H; exact H
          clear H
          have H := H1
          clear H1
          obtain rfl := Option.some.inj H
          exact absurd hr_.out (by decide)
         ·replace c341 := Bool.eq_false_iff.mpr c341
          subst c341
          have H1 : ((impl_AreChapters.f kj312 t516).bind fun t551 => (if t551 = true then ((impl_PagesOfChapters.f kj312 t516 t517).bind fun bt552 => ((impl_BlanksOf.f kj312 t516 t517).bind fun bt554 => (if bt552.2 = true then (if bt554.2 = true then (if t518 ≥ 1 then (if t518 ≤ bt552.1 then ((laws_xHas.f kj312 bt554.1 t518).bind fun t558 => (if (t523 != (!t558)) = true then (some false) else (laws_FnChaptersBegin.j7 kj312 t516 t517 t518 t521 t522 t523 t527 t528 t529 t532 t533 t540 t541 t542))) else (if (t523 != false) = true then (some false) else (laws_FnChaptersBegin.j7 kj312 t516 t517 t518 t521 t522 t523 t527 t528 t529 t532 t533 t540 t541 t542))) else (if (t523 != false) = true then (some false) else (laws_FnChaptersBegin.j7 kj312 t516 t517 t518 t521 t522 t523 t527 t528 t529 t532 t533 t540 t541 t542))) else (some false)) else (some false)))) else (laws_FnChaptersBegin.j7 kj312 t516 t517 t518 t521 t522 t523 t527 t528 t529 t532 t533 t540 t541 t542))) = some r := by rw [if_neg (show ¬ (false = true) by decide)] at H; exact H
          clear H
          have H := H1
          clear H1
          replace H := Option.bind_eq_some_iff.mp H
          obtain ⟨t551, A3420, H⟩ := H
          (try dsimp only at H)
          have A342 := Aside0.mk A3420
          clear A3420
          have HC343 := Aside0.mk H
          clear H
          go_upto_if 611 with (first | (go_at_call 23; (with_reducible refine (impl_AreChapters.calls kj312 _ _ t516 t551 _ ?side1 ?side2 A342.out).mono ?_); (case side1 => exact cr_ (Kd.R_reads' HO_51.out).2.2); (case side2 => exact (Kd.R_reads' HO_51.out).2.1); rintro e w' ⟨rfl, ⟨nd, rfl⟩⟩; (try exact dd_)))
          repeat (go_quiet (fail); go_upto_if 611 with (fail))
          (try simp only [Act.put, List.setIfInBounds_toArray, List.set_cons_zero, List.set_cons_succ])
          go_cut [72, 73, 74, 75] from 612 to 646 (fun v72 v73 v74 v75 wc => ∃ (kq : Nat), Aside0 (laws_FnChaptersBegin.j7 kq t516 t517 t518 t521 t522 t523 t527 t528 t529 t532 t533 t540 t541 t542 = some r) ∧ Aside0 (kq ≤ kj312) ∧ Aside0 (Kd.R (Kd.int .i64) 3 wc w.heap.size (fun k_ => some k_ ≠ ((.slice Ao319 t527.length co319) : Value).ownBlock ∧ some k_ ≠ (v534 : Value).ownBlock ∧ some k_ ≠ (v543 : Value).ownBlock) (.slice Ao315 t516.length co315) t516) ∧ Aside0 (Kd.R (Kd.int .i64) 3 wc w.heap.size (fun k_ => some k_ ≠ ((.slice Ao315 t516.length co315) : Value).ownBlock ∧ some k_ ≠ (v534 : Value).ownBlock ∧ some k_ ≠ (v543 : Value).ownBlock) (.slice Ao319 t527.length co319) t527) ∧ Aside0 (Kd.R (Kd.int .i64) 3 wc w.heap.size (fun k_ => some k_ ≠ ((.slice Ao315 t516.length co315) : Value).ownBlock ∧ some k_ ≠ ((.slice Ao319 t527.length co319) : Value).ownBlock ∧ some k_ ≠ (v543 : Value).ownBlock) v534 t532) ∧ Aside0 (Kd.R (Kd.int .i64) 3 wc w.heap.size (fun k_ => some k_ ≠ ((.slice Ao315 t516.length co315) : Value).ownBlock ∧ some k_ ≠ ((.slice Ao319 t527.length co319) : Value).ownBlock ∧ some k_ ≠ (v534 : Value).ownBlock) v543 t541) ∧ Aside0 (Below w.heap.size w wc))
          case first => as_aux_lemma =>
           have H := HC343.out
           clear HC343
           by_cases c344 : t551 = true
           ·subst c344
            have H1 : ((impl_PagesOfChapters.f kj312 t516 t517).bind fun bt552 => ((impl_BlanksOf.f kj312 t516 t517).bind fun bt554 => (if bt552.2 = true then (if bt554.2 = true then (if t518 ≥ 1 then (if t518 ≤ bt552.1 then ((laws_xHas.f kj312 bt554.1 t518).bind fun t558 => (if (t523 != (!t558)) = true then (some false) else (laws_FnChaptersBegin.j7 kj312 t516 t517 t518 t521 t522 t523 t527 t528 t529 t532 t533 t540 t541 t542))) else (if (t523 != false) = true then (some false) else (laws_FnChaptersBegin.j7 kj312 t516 t517 t518 t521 t522 t523 t527 t528 t529 t532 t533 t540 t541 t542))) else (if (t523 != false) = true then (some false) else (laws_FnChaptersBegin.j7 kj312 t516 t517 t518 t521 t522 t523 t527 t528 t529 t532 t533 t540 t541 t542))) else (some false)) else (some false)))) = some r := by rw [if_pos rfl] at H; exact H
            clear H
            have H := H1
            clear H1
            replace H := Option.bind_eq_some_iff.mp H
            obtain ⟨⟨t552, t553⟩, A3450, H⟩ := H
            (try dsimp only at H)
            have A345 := Aside0.mk A3450
            clear A3450
            replace H := Option.bind_eq_some_iff.mp H
            obtain ⟨⟨t554, t555⟩, A3460, H⟩ := H
            (try dsimp only at H)
            have A346 := Aside0.mk A3460
            clear A3460
            by_cases c347 : t553 = true
            ·subst c347
             have H1 : (if t555 = true then (if t518 ≥ 1 then (if t518 ≤ t552 then ((laws_xHas.f kj312 t554 t518).bind fun t558 => (if (t523 != (!t558)) = true then (some false) else (laws_FnChaptersBegin.j7 kj312 t516 t517 t518 t521 t522 t523 t527 t528 t529 t532 t533 t540 t541 t542))) else (if (t523 != false) = true then (some false) else (laws_FnChaptersBegin.j7 kj312 t516 t517 t518 t521 t522 t523 t527 t528 t529 t532 t533 t540 t541 t542))) else (if (t523 != false) = true then (some false) else (laws_FnChaptersBegin.j7 kj312 t516 t517 t518 t521 t522 t523 t527 t528 t529 t532 t533 t540 t541 t542))) else (some false)) = some r := by rw [if_pos rfl] at H; exact H
             clear H
             have H := H1
             clear H1
             by_cases c348 : t555 = true
             ·subst c348
              have H1 : (if t518 ≥ 1 then (if t518 ≤ t552 then ((laws_xHas.f kj312 t554 t518).bind fun t558 => (if (t523 != (!t558)) = true then (some false) else (laws_FnChaptersBegin.j7 kj312 t516 t517 t518 t521 t522 t523 t527 t528 t529 t532 t533 t540 t541 t542))) else (if (t523 != false) = true then (some false) else (laws_FnChaptersBegin.j7 kj312 t516 t517 t518 t521 t522 t523 t527 t528 t529 t532 t533 t540 t541 t542))) else (if (t523 != false) = true then (some false) else (laws_FnChaptersBegin.j7 kj312 t516 t517 t518 t521 t522 t523 t527 t528 t529 t532 t533 t540 t541 t542))) = some r := by rw [if_pos rfl] at H; exact H
              clear H
              have H := H1
              clear H1
              by_cases c349 : t518 ≥ 1
              ·rw [if_pos c349] at H
               have c349b0 : decide (1 ≤ t518) = true := decide_eq_true c349
               clear c349
               (first | rw [c349b0] | skip)
               by_cases c350 : t518 ≤ t552
               ·rw [if_pos c350] at H
                have c350b0 : decide (t518 ≤ t552) = true := decide_eq_true c350
                clear c350
                replace H := Option.bind_eq_some_iff.mp H
                obtain ⟨t558, A3510, H⟩ := H
                (try dsimp only at H)
                have A351 := Aside0.mk A3510
                clear A3510
                by_cases c352 : (t523 != (!t558)) = true
                ·rw [if_pos c352] at H
                 have c352b0 : (t523 != (!t558)) = true := c352
                 (try (have c352b1 : decide (t523 = (!t558)) = false := by simpa using c352))
                 (try (have c352b2 : (t523 == (!t558)) = false := by simpa using c352))
                 (try (have c352b3 : ¬ (t523 = (!t558)) := by simpa using c352))
                 clear c352
                 obtain rfl := Option.some.inj H
                 exact absurd hr_.out (by decide)
                ·rw [if_neg c352] at H
                 have c352b0 : (t523 != (!t558)) = false := by simpa using c352
                 have c352b7 := (bx_ c352b0).1
                 have c352b2 := (bx2_ c352b0).1
                 have c352b1 := (bx2_ c352b0).2
                 (try (have c352b1 : decide (t523 = (!t558)) = true := by simpa using c352))
                 (try (have c352b2 : (t523 == (!t558)) = true := by simpa using c352))
                 clear c352
                 have H' := Aside0.mk H
                 clear H
                 go_wp2_with (first | (go_at_call 10; (with_reducible refine (impl_PagesOfChapters.calls kj312 _ _ t516 t517 t552 true _ ?side1 ?side2 A345.out).mono ?_); (case side1 => exact cr_ (Kd.R_reads' HO_51.out).2.2); (case side2 => exact (Kd.R_reads' HO_51.out).2.1); rintro e w353 ⟨rfl, hb⟩; have n0_ := Aside0.mk (Kd.R_below (rr_ HO_51.out) hb); have n1_ := Aside0.mk (Kd.R_below (rr_ HO_60.out) hb); have n2_ := Aside0.mk (Kd.R_below (rr_ HO_63.out) hb); have n3_ := Aside0.mk (Kd.R_below (rr_ HO_68.out) hb); have n4_ := Aside0.mk (below_step bw_ hb); clear HO_51; clear HO_60; clear HO_63; clear HO_68; clear HB; have HO_51 := n0_; have HO_60 := n1_; have HO_63 := n2_; have HO_68 := n3_; have HB := n4_; clear n0_ n1_ n2_ n3_ n4_; (try clear hb); (try clear hb2); (try clear hk); (try clear hi)) | (go_at_call 8; (with_reducible refine (impl_BlanksOf.calls kj312 _ _ t516 t517 t554 true _ ?side1 ?side2 A346.out).mono ?_); (case side1 => exact cr_ (Kd.R_reads' HO_51.out).2.2); (case side2 => exact (Kd.R_reads' HO_51.out).2.1); rintro e w354 ⟨v556, rfl, ho0, hb⟩; have n0_ := Aside0.mk (Kd.R_elder' (rr_ HO_51.out) (Kd.R_base ho0) hb); have n1_ := Aside0.mk (Kd.R_elder' (rr_ HO_60.out) (Kd.R_base ho0) hb); have n2_ := Aside0.mk (Kd.R_elder' (rr_ HO_63.out) (Kd.R_base ho0) hb); have n3_ := Aside0.mk (Kd.R_elder' (rr_ HO_68.out) (Kd.R_base ho0) hb); have n4_ := Aside0.mk (Kd.R_lower (Kd.R_new' (Kd.R_new' (Kd.R_new' (Kd.R_new' ho0 (Kd.R_lt (rr_ HO_51.out))) (Kd.R_lt (rr_ HO_60.out))) (Kd.R_lt (rr_ HO_63.out))) (Kd.R_lt (rr_ HO_68.out))) (below_size bw_)); have n5_ := Aside0.mk (below_step bw_ hb); clear HO_51; clear HO_60; clear HO_63; clear HO_68; clear HB; have HO_51 := n0_; have HO_60 := n1_; have HO_63 := n2_; have HO_68 := n3_; have HO557 := n4_; have HB := n5_; clear n0_ n1_ n2_ n3_ n4_ n5_; (try clear hb); (try clear hb2); (try clear hk); (try clear hi); (try clear ho0); obtain ⟨Ao355, co355, eo355⟩ := Kd.R_slice HO557.out; subst eo355) | (go_at_call 36; (with_reducible refine (laws_xHas.calls kj312 _ _ t554 t518 t558 _ ?side1 ?side2 A351.out).mono ?_); (case side1 => exact cr_ (Kd.R_reads' HO557.out).2.2); (case side2 => exact (Kd.R_reads' HO557.out).2.1); rintro e w' ⟨rfl, ⟨nd, rfl⟩⟩; (try exact dd_)))
                 repeat (go_quiet (first | (go_at_call 10; (with_reducible refine (impl_PagesOfChapters.calls kj312 _ _ t516 t517 t552 true _ ?side1 ?side2 A345.out).mono ?_); (case side1 => exact cr_ (Kd.R_reads' HO_51.out).2.2); (case side2 => exact (Kd.R_reads' HO_51.out).2.1); rintro e w353 ⟨rfl, hb⟩; have n0_ := Aside0.mk (Kd.R_below (rr_ HO_51.out) hb); have n1_ := Aside0.mk (Kd.R_below (rr_ HO_60.out) hb); have n2_ := Aside0.mk (Kd.R_below (rr_ HO_63.out) hb); have n3_ := Aside0.mk (Kd.R_below (rr_ HO_68.out) hb); have n4_ := Aside0.mk (below_step bw_ hb); clear HO_51; clear HO_60; clear HO_63; clear HO_68; clear HB; have HO_51 := n0_; have HO_60 := n1_; have HO_63 := n2_; have HO_68 := n3_; have HB := n4_; clear n0_ n1_ n2_ n3_ n4_; (try clear hb); (try clear hb2); (try clear hk); (try clear hi)) | (go_at_call 8; (with_reducible refine (impl_BlanksOf.calls kj312 _ _ t516 t517 t554 true _ ?side1 ?side2 A346.out).mono ?_); (case side1 => exact cr_ (Kd.R_reads' HO_51.out).2.2); (case side2 => exact (Kd.R_reads' HO_51.out).2.1); rintro e w354 ⟨v556, rfl, ho0, hb⟩; have n0_ := Aside0.mk (Kd.R_elder' (rr_ HO_51.out) (Kd.R_base ho0) hb); have n1_ := Aside0.mk (Kd.R_elder' (rr_ HO_60.out) (Kd.R_base ho0) hb); have n2_ := Aside0.mk (Kd.R_elder' (rr_ HO_63.out) (Kd.R_base ho0) hb); have n3_ := Aside0.mk (Kd.R_elder' (rr_ HO_68.out) (Kd.R_base ho0) hb); have n4_ := Aside0.mk (Kd.R_lower (Kd.R_new' (Kd.R_new' (Kd.R_new' (Kd.R_new' ho0 (Kd.R_lt (rr_ HO_51.out))) (Kd.R_lt (rr_ HO_60.out))) (Kd.R_lt (rr_ HO_63.out))) (Kd.R_lt (rr_ HO_68.out))) (below_size bw_)); have n5_ := Aside0.mk (below_step bw_ hb); clear HO_51; clear HO_60; clear HO_63; clear HO_68; clear HB; have HO_51 := n0_; have HO_60 := n1_; have HO_63 := n2_; have HO_68 := n3_; have HO557 := n4_; have HB := n5_; clear n0_ n1_ n2_ n3_ n4_ n5_; (try clear hb); (try clear hb2); (try clear hk); (try clear hi); (try clear ho0); obtain ⟨Ao355, co355, eo355⟩ := Kd.R_slice HO557.out; subst eo355) | (go_at_call 36; (with_reducible refine (laws_xHas.calls kj312 _ _ t554 t518 t558 _ ?side1 ?side2 A351.out).mono ?_); (case side1 => exact cr_ (Kd.R_reads' HO557.out).2.2); (case side2 => exact (Kd.R_reads' HO557.out).2.1); rintro e w' ⟨rfl, ⟨nd, rfl⟩⟩; (try exact dd_))); try go_wp2)
                 go_meet
                 case rel => exact ⟨_, H', ⟨by have := HJ21.out; have := HJ198.out; have := HJ312.out; first | omega | exact Nat.le_refl _⟩, ⟨by (with_reducible repeat (first | apply Kd.R_alloc | apply Kd.R_drewN | apply Kd.R_drew)); exact Kd.R_mono HO_51.out (fun _ hk => ⟨hk.1.1, ⟨hk.1.2.1, hk.1.2.2⟩⟩)⟩, ⟨by (with_reducible repeat (first | apply Kd.R_alloc | apply Kd.R_drewN | apply Kd.R_drew)); exact Kd.R_mono HO_60.out (fun _ hk => ⟨hk.1.1, ⟨hk.1.2.1, hk.1.2.2⟩⟩)⟩, ⟨by (with_reducible repeat (first | apply Kd.R_alloc | apply Kd.R_drewN | apply Kd.R_drew)); exact Kd.R_mono HO_63.out (fun _ hk => ⟨hk.1.1, ⟨hk.1.2.1, hk.1.2.2⟩⟩)⟩, ⟨by (with_reducible repeat (first | apply Kd.R_alloc | apply Kd.R_drewN | apply Kd.R_drew)); exact Kd.R_mono HO_68.out (fun _ hk => ⟨hk.1.1, ⟨hk.1.2.1, hk.1.2.2⟩⟩)⟩, ⟨bw_⟩⟩
               ·rw [if_neg c350] at H
                have c350b0 : decide (t518 ≤ t552) = false := decide_eq_false c350
                clear c350
                by_cases c356 : (t523 != false) = true
                ·rw [if_pos c356] at H
                 have c356b0 : (t523 != false) = true := c356
                 (try (have c356b1 : decide (t523 = false) = false := by simpa using c356))
                 (try (have c356b2 : (t523 == false) = false := by simpa using c356))
                 (try (have c356b3 : ¬ (t523 = false) := by simpa using c356))
                 clear c356
                 obtain rfl := Option.some.inj H
                 exact absurd hr_.out (by decide)
                ·rw [if_neg c356] at H
                 have c356b0 : (t523 != false) = false := by simpa using c356
                 (try (have c356b1 : decide (t523 = false) = true := by simpa using c356))
                 (try (have c356b2 : (t523 == false) = true := by simpa using c356))
                 clear c356
                 have H' := Aside0.mk H
                 clear H
                 go_wp2_with (first | (go_at_call 10; (with_reducible refine (impl_PagesOfChapters.calls kj312 _ _ t516 t517 t552 true _ ?side1 ?side2 A345.out).mono ?_); (case side1 => exact cr_ (Kd.R_reads' HO_51.out).2.2); (case side2 => exact (Kd.R_reads' HO_51.out).2.1); rintro e w357 ⟨rfl, hb⟩; have n0_ := Aside0.mk (Kd.R_below (rr_ HO_51.out) hb); have n1_ := Aside0.mk (Kd.R_below (rr_ HO_60.out) hb); have n2_ := Aside0.mk (Kd.R_below (rr_ HO_63.out) hb); have n3_ := Aside0.mk (Kd.R_below (rr_ HO_68.out) hb); have n4_ := Aside0.mk (below_step bw_ hb); clear HO_51; clear HO_60; clear HO_63; clear HO_68; clear HB; have HO_51 := n0_; have HO_60 := n1_; have HO_63 := n2_; have HO_68 := n3_; have HB := n4_; clear n0_ n1_ n2_ n3_ n4_; (try clear hb); (try clear hb2); (try clear hk); (try clear hi)) | (go_at_call 8; (with_reducible refine (impl_BlanksOf.calls kj312 _ _ t516 t517 t554 true _ ?side1 ?side2 A346.out).mono ?_); (case side1 => exact cr_ (Kd.R_reads' HO_51.out).2.2); (case side2 => exact (Kd.R_reads' HO_51.out).2.1); rintro e w358 ⟨v556, rfl, ho0, hb⟩; have n0_ := Aside0.mk (Kd.R_elder' (rr_ HO_51.out) (Kd.R_base ho0) hb); have n1_ := Aside0.mk (Kd.R_elder' (rr_ HO_60.out) (Kd.R_base ho0) hb); have n2_ := Aside0.mk (Kd.R_elder' (rr_ HO_63.out) (Kd.R_base ho0) hb); have n3_ := Aside0.mk (Kd.R_elder' (rr_ HO_68.out) (Kd.R_base ho0) hb); have n4_ := Aside0.mk (Kd.R_lower (Kd.R_new' (Kd.R_new' (Kd.R_new' (Kd.R_new' ho0 (Kd.R_lt (rr_ HO_51.out))) (Kd.R_lt (rr_ HO_60.out))) (Kd.R_lt (rr_ HO_63.out))) (Kd.R_lt (rr_ HO_68.out))) (below_size bw_)); have n5_ := Aside0.mk (below_step bw_ hb); clear HO_51; clear HO_60; clear HO_63; clear HO_68; clear HB; have HO_51 := n0_; have HO_60 := n1_; have HO_63 := n2_; have HO_68 := n3_; have HO557 := n4_; have HB := n5_; clear n0_ n1_ n2_ n3_ n4_ n5_; (try clear hb); (try clear hb2); (try clear hk); (try clear hi); (try clear ho0)))
                 repeat (go_quiet (first | (go_at_call 10; (with_reducible refine (impl_PagesOfChapters.calls kj312 _ _ t516 t517 t552 true _ ?side1 ?side2 A345.out).mono ?_); (case side1 => exact cr_ (Kd.R_reads' HO_51.out).2.2); (case side2 => exact (Kd.R_reads' HO_51.out).2.1); rintro e w357 ⟨rfl, hb⟩; have n0_ := Aside0.mk (Kd.R_below (rr_ HO_51.out) hb); have n1_ := Aside0.mk (Kd.R_below (rr_ HO_60.out) hb); have n2_ := Aside0.mk (Kd.R_below (rr_ HO_63.out) hb); have n3_ := Aside0.mk (Kd.R_below (rr_ HO_68.out) hb); have n4_ := Aside0.mk (below_step bw_ hb); clear HO_51; clear HO_60; clear HO_63; clear HO_68; clear HB; have HO_51 := n0_; have HO_60 := n1_; have HO_63 := n2_; have HO_68 := n3_; have HB := n4_; clear n0_ n1_ n2_ n3_ n4_; (try clear hb); (try clear hb2); (try clear hk); (try clear hi)) | (go_at_call 8; (with_reducible refine (impl_BlanksOf.calls kj312 _ _ t516 t517 t554 true _ ?side1 ?side2 A346.out).mono ?_); (case side1 => exact cr_ (Kd.R_reads' HO_51.out).2.2); (case side2 => exact (Kd.R_reads' HO_51.out).2.1); rintro e w358 ⟨v556, rfl, ho0, hb⟩; have n0_ := Aside0.mk (Kd.R_elder' (rr_ HO_51.out) (Kd.R_base ho0) hb); have n1_ := Aside0.mk (Kd.R_elder' (rr_ HO_60.out) (Kd.R_base ho0) hb); have n2_ := Aside0.mk (Kd.R_elder' (rr_ HO_63.out) (Kd.R_base ho0) hb); have n3_ := Aside0.mk (Kd.R_elder' (rr_ HO_68.out) (Kd.R_base ho0) hb); have n4_ := Aside0.mk (Kd.R_lower (Kd.R_new' (Kd.R_new' (Kd.R_new' (Kd.R_new' ho0 (Kd.R_lt (rr_ HO_51.out))) (Kd.R_lt (rr_ HO_60.out))) (Kd.R_lt (rr_ HO_63.out))) (Kd.R_lt (rr_ HO_68.out))) (below_size bw_)); have n5_ := Aside0.mk (below_step bw_ hb); clear HO_51; clear HO_60; clear HO_63; clear HO_68; clear HB; have HO_51 := n0_; have HO_60 := n1_; have HO_63 := n2_; have HO_68 := n3_; have HO557 := n4_; have HB := n5_; clear n0_ n1_ n2_ n3_ n4_ n5_; (try clear hb); (try clear hb2); (try clear hk); (try clear hi); (try clear ho0))); try go_wp2)
                 go_meet
                 case rel => exact ⟨_, H', ⟨by have := HJ21.out; have := HJ198.out; have := HJ312.out; first | omega | exact Nat.le_refl _⟩, ⟨by (with_reducible repeat (first | apply Kd.R_alloc | apply Kd.R_drewN | apply Kd.R_drew)); exact Kd.R_mono HO_51.out (fun _ hk => ⟨hk.1.1, ⟨hk.1.2.1, hk.1.2.2⟩⟩)⟩, ⟨by (with_reducible repeat (first | apply Kd.R_alloc | apply Kd.R_drewN | apply Kd.R_drew)); exact Kd.R_mono HO_60.out (fun _ hk => ⟨hk.1.1, ⟨hk.1.2.1, hk.1.2.2⟩⟩)⟩, ⟨by (with_reducible repeat (first | apply Kd.R_alloc | apply Kd.R_drewN | apply Kd.R_drew)); exact Kd.R_mono HO_63.out (fun _ hk => ⟨hk.1.1, ⟨hk.1.2.1, hk.1.2.2⟩⟩)⟩, ⟨by (with_reducible repeat (first | apply Kd.R_alloc | apply Kd.R_drewN | apply Kd.R_drew)); exact Kd.R_mono HO_68.out (fun _ hk => ⟨hk.1.1, ⟨hk.1.2.1, hk.1.2.2⟩⟩)⟩, ⟨bw_⟩⟩
              ·rw [if_neg c349] at H
               have c349b0 : decide (1 ≤ t518) = false := decide_eq_false c349
               clear c349
               (first | rw [c349b0] | skip)
               by_cases c359 : (t523 != false) = true
               ·rw [if_pos c359] at H
                have c359b0 : (t523 != false) = true := c359
                (try (have c359b1 : decide (t523 = false) = false := by simpa using c359))
                (try (have c359b2 : (t523 == false) = false := by simpa using c359))
                (try (have c359b3 : ¬ (t523 = false) := by simpa using c359))
                clear c359
                obtain rfl := Option.some.inj H
                exact absurd hr_.out (by decide)
               ·rw [if_neg c359] at H
                have c359b0 : (t523 != false) = false := by simpa using c359
                (try (have c359b1 : decide (t523 = false) = true := by simpa using c359))
                (try (have c359b2 : (t523 == false) = true := by simpa using c359))
                clear c359
                have H' := Aside0.mk H
                clear H
                go_wp2_with (first | (go_at_call 10; (with_reducible refine (impl_PagesOfChapters.calls kj312 _ _ t516 t517 t552 true _ ?side1 ?side2 A345.out).mono ?_); (case side1 => exact cr_ (Kd.R_reads' HO_51.out).2.2); (case side2 => exact (Kd.R_reads' HO_51.out).2.1); rintro e w360 ⟨rfl, hb⟩; have n0_ := Aside0.mk (Kd.R_below (rr_ HO_51.out) hb); have n1_ := Aside0.mk (Kd.R_below (rr_ HO_60.out) hb); have n2_ := Aside0.mk (Kd.R_below (rr_ HO_63.out) hb); have n3_ := Aside0.mk (Kd.R_below (rr_ HO_68.out) hb); have n4_ := Aside0.mk (below_step bw_ hb); clear HO_51; clear HO_60; clear HO_63; clear HO_68; clear HB; have HO_51 := n0_; have HO_60 := n1_; have HO_63 := n2_; have HO_68 := n3_; have HB := n4_; clear n0_ n1_ n2_ n3_ n4_; (try clear hb); (try clear hb2); (try clear hk); (try clear hi)) | (go_at_call 8; (with_reducible refine (impl_BlanksOf.calls kj312 _ _ t516 t517 t554 true _ ?side1 ?side2 A346.out).mono ?_); (case side1 => exact cr_ (Kd.R_reads' HO_51.out).2.2); (case side2 => exact (Kd.R_reads' HO_51.out).2.1); rintro e w361 ⟨v556, rfl, ho0, hb⟩; have n0_ := Aside0.mk (Kd.R_elder' (rr_ HO_51.out) (Kd.R_base ho0) hb); have n1_ := Aside0.mk (Kd.R_elder' (rr_ HO_60.out) (Kd.R_base ho0) hb); have n2_ := Aside0.mk (Kd.R_elder' (rr_ HO_63.out) (Kd.R_base ho0) hb); have n3_ := Aside0.mk (Kd.R_elder' (rr_ HO_68.out) (Kd.R_base ho0) hb); have n4_ := Aside0.mk (Kd.R_lower (Kd.R_new' (Kd.R_new' (Kd.R_new' (Kd.R_new' ho0 (Kd.R_lt (rr_ HO_51.out))) (Kd.R_lt (rr_ HO_60.out))) (Kd.R_lt (rr_ HO_63.out))) (Kd.R_lt (rr_ HO_68.out))) (below_size bw_)); have n5_ := Aside0.mk (below_step bw_ hb); clear HO_51; clear HO_60; clear HO_63; clear HO_68; clear HB; have HO_51 := n0_; have HO_60 := n1_; have HO_63 := n2_; have HO_68 := n3_; have HO557 := n4_; have HB := n5_; clear n0_ n1_ n2_ n3_ n4_ n5_; (try clear hb); (try clear hb2); (try clear hk); (try clear hi); (try clear ho0)))
                repeat (go_quiet (first | (go_at_call 10; (with_reducible refine (impl_PagesOfChapters.calls kj312 _ _ t516 t517 t552 true _ ?side1 ?side2 A345.out).mono ?_); (case side1 => exact cr_ (Kd.R_reads' HO_51.out).2.2); (case side2 => exact (Kd.R_reads' HO_51.out).2.1); rintro e w360 ⟨rfl, hb⟩; have n0_ := Aside0.mk (Kd.R_below (rr_ HO_51.out) hb); have n1_ := Aside0.mk (Kd.R_below (rr_ HO_60.out) hb); have n2_ := Aside0.mk (Kd.R_below (rr_ HO_63.out) hb); have n3_ := Aside0.mk (Kd.R_below (rr_ HO_68.out) hb); have n4_ := Aside0.mk (below_step bw_ hb); clear HO_51; clear HO_60; clear HO_63; clear HO_68; clear HB; have HO_51 := n0_; have HO_60 := n1_; have HO_63 := n2_; have HO_68 := n3_; have HB := n4_; clear n0_ n1_ n2_ n3_ n4_; (try clear hb); (try clear hb2); (try clear hk); (try clear hi)) | (go_at_call 8; (with_reducible refine (impl_BlanksOf.calls kj312 _ _ t516 t517 t554 true _ ?side1 ?side2 A346.out).mono ?_); (case side1 => exact cr_ (Kd.R_reads' HO_51.out).2.2); (case side2 => exact (Kd.R_reads' HO_51.out).2.1); rintro e w361 ⟨v556, rfl, ho0, hb⟩; have n0_ := Aside0.mk (Kd.R_elder' (rr_ HO_51.out) (Kd.R_base ho0) hb); have n1_ := Aside0.mk (Kd.R_elder' (rr_ HO_60.out) (Kd.R_base ho0) hb); have n2_ := Aside0.mk (Kd.R_elder' (rr_ HO_63.out) (Kd.R_base ho0) hb); have n3_ := Aside0.mk (Kd.R_elder' (rr_ HO_68.out) (Kd.R_base ho0) hb); have n4_ := Aside0.mk (Kd.R_lower (Kd.R_new' (Kd.R_new' (Kd.R_new' (Kd.R_new' ho0 (Kd.R_lt (rr_ HO_51.out))) (Kd.R_lt (rr_ HO_60.out))) (Kd.R_lt (rr_ HO_63.out))) (Kd.R_lt (rr_ HO_68.out))) (below_size bw_)); have n5_ := Aside0.mk (below_step bw_ hb); clear HO_51; clear HO_60; clear HO_63; clear HO_68; clear HB; have HO_51 := n0_; have HO_60 := n1_; have HO_63 := n2_; have HO_68 := n3_; have HO557 := n4_; have HB := n5_; clear n0_ n1_ n2_ n3_ n4_ n5_; (try clear hb); (try clear hb2); (try clear hk); (try clear hi); (try clear ho0))); try go_wp2)
                go_meet
                case rel => exact ⟨_, H', ⟨by have := HJ21.out; have := HJ198.out; have := HJ312.out; first | omega | exact Nat.le_refl _⟩, ⟨by (with_reducible repeat (first | apply Kd.R_alloc | apply Kd.R_drewN | apply Kd.R_drew)); exact Kd.R_mono HO_51.out (fun _ hk => ⟨hk.1.1, ⟨hk.1.2.1, hk.1.2.2⟩⟩)⟩, ⟨by (with_reducible repeat (first | apply Kd.R_alloc | apply Kd.R_drewN | apply Kd.R_drew)); exact Kd.R_mono HO_60.out (fun _ hk => ⟨hk.1.1, ⟨hk.1.2.1, hk.1.2.2⟩⟩)⟩, ⟨by (with_reducible repeat (first | apply Kd.R_alloc | apply Kd.R_drewN | apply Kd.R_drew)); exact Kd.R_mono HO_63.out (fun _ hk => ⟨hk.1.1, ⟨hk.1.2.1, hk.1.2.2⟩⟩)⟩, ⟨by (with_reducible repeat (first | apply Kd.R_alloc | apply Kd.R_drewN | apply Kd.R_drew)); exact Kd.R_mono HO_68.out (fun _ hk => ⟨hk.1.1, ⟨hk.1.2.1, hk.1.2.2⟩⟩)⟩, ⟨bw_⟩⟩
             ·replace c348 := Bool.eq_false_iff.mpr c348
              subst c348
              have H1 : (some false) = some r := by rw [if_neg (show ¬ (false = true) by decide)] at H; exact H
              clear H
              have H := H1
              clear H1
              obtain rfl := Option.some.inj H
              exact absurd hr_.out (by decide)
            ·replace c347 := Bool.eq_false_iff.mpr c347
             subst c347
             have H1 : (some false) = some r := by rw [if_neg (show ¬ (false = true) by decide)] at H; exact H
             clear H
             have H := H1
             clear H1
             obtain rfl := Option.some.inj H
             exact absurd hr_.out (by decide)
           ·replace c344 := Bool.eq_false_iff.mpr c344
            subst c344
            have H1 : (laws_FnChaptersBegin.j7 kj312 t516 t517 t518 t521 t522 t523 t527 t528 t529 t532 t533 t540 t541 t542) = some r := by rw [if_neg (show ¬ (false = true) by decide)] at H; exact H
            clear H
            have H := H1
            clear H1
            have H' := Aside0.mk H
            clear H
            go_wp2
            repeat (go_quiet (fail); try go_wp2)
            go_meet
            case rel => exact ⟨_, H', ⟨by have := HJ21.out; have := HJ198.out; have := HJ312.out; first | omega | exact Nat.le_refl _⟩, ⟨rr_ HO_51.out⟩, ⟨rr_ HO_60.out⟩, ⟨rr_ HO_63.out⟩, ⟨rr_ HO_68.out⟩, ⟨bw_⟩⟩
          case rest => as_aux_lemma =>
           clear HC343
           (try clear c1); (try clear c2); (try clear p2); (try clear q2); (try clear hx2); (try clear hf2); (try clear c3); (try clear c4); (try clear p4); (try clear q4); (try clear hx4); (try clear qi4); (try clear c5); (try clear p5); (try clear q5); (try clear hx5); (try clear c6); (try clear p6); (try clear c7); (try clear c8); (try clear c9); (try clear c10); (try clear c11); (try clear c12); (try clear c13); (try clear c14); (try clear c19); (try clear c20); (try clear c21); (try clear c22); (try clear c24); (try clear c25); (try clear c26); (try clear c27); (try clear c28); (try clear p28); (try clear q28); (try clear hx28); (try clear hf28); (try clear c29); (try clear c32); (try clear c33); (try clear c34); (try clear c35); (try clear c37); (try clear c37b0); (try clear c37b1); (try clear c37b2); (try clear c39); (try clear c40); (try clear c40b0); (try clear c40b1); (try clear c40b2); (try clear c44); (try clear c45); (try clear c45b0); (try clear c45b1); (try clear c45b2); (try clear p48); (try clear q48); (try clear hx48); (try clear qi48); (try clear p49); (try clear q49); (try clear hx49); (try clear c50); (try clear c50b0); (try clear c50b1); (try clear p50); (try clear q50); (try clear hx50); (try clear c51); (try clear c51b0); (try clear c51b1); (try clear c51b2); (try clear c56); (try clear c56b0); (try clear c56b1); (try clear c57); (try clear c57b0); (try clear c57b1); (try clear c57b2); (try clear c63); (try clear c64); (try clear c64b0); (try clear c64b1); (try clear c64b2); (try clear p64); (try clear c71); (try clear c71b0); (try clear c71b1); (try clear c72); (try clear c72b0); (try clear c72b1); (try clear c72b2); (try clear c79); (try clear c79b0); (try clear c79b1); (try clear c80); (try clear c80b0); (try clear c80b1); (try clear c80b2); (try clear c87); (try clear c87b0); (try clear c87b1); (try clear c88); (try clear c88b0); (try clear c88b1); (try clear c90); (try clear c90b0); (try clear c90b1); (try clear c90b2); (try clear c99); (try clear c99b0); (try clear c99b1); (try clear c99b2); (try clear c106); (try clear c106b0); (try clear c106b1); (try clear c106b2); (try clear c113); (try clear c113b0); (try clear c113b1); (try clear c113b2); (try clear c120); (try clear c120b0); (try clear c120b1); (try clear c120b2); (try clear c127); (try clear c127b0); (try clear c127b1); (try clear c127b2); (try clear c134); (try clear c134b0); (try clear c134b1); (try clear c134b2); (try clear c141); (try clear c141b0); (try clear c141b1); (try clear c141b2); (try clear c198); (try clear c200); (try clear c202); (try clear c202b0); (try clear c202b1); (try clear c202b2); (try clear c203); (try clear c203b0); (try clear c203b1); (try clear c204); (try clear c204b0); (try clear c204b1); (try clear c206); (try clear c208); (try clear c210); (try clear c210b0); (try clear c210b1); (try clear c211); (try clear c212); (try clear c212b0); (try clear c215); (try clear c215b0); (try clear c218); (try clear c218b0); (try clear c224); (try clear c224b0); (try clear c224b1); (try clear c224b2); (try clear c225); (try clear c225b0); (try clear c228); (try clear c228b0); (try clear c243); (try clear c245); (try clear c245b0); (try clear c246); (try clear c246b0); (try clear c247); (try clear c247b0); (try clear c249); (try clear c250); (try clear c250b0); (try clear c250b1); (try clear c251); (try clear c251b0); (try clear c253); (try clear c253b0); (try clear c254); (try clear c254b0); (try clear c255); (try clear c255b0); (try clear c256); (try clear c256b0); (try clear c257); (try clear c257b0); (try clear c259); (try clear c259b0); (try clear c260); (try clear c260b0); (try clear c261); (try clear c261b0); (try clear c262); (try clear c262b0); (try clear c263); (try clear c264); (try clear c264b0); (try clear c265); (try clear c265b0); (try clear c266); (try clear c266b0); (try clear c267); (try clear c267b0); (try clear c267b1); (try clear c268); (try clear c268b0); (try clear c269); (try clear c269b0); (try clear c269b1); (try clear c270); (try clear c270b0); (try clear c270b1); (try clear c271); (try clear c271b0); (try clear c271b1); (try clear c272); (try clear c272b0); (try clear c272b1); (try clear c276); (try clear c276b0); (try clear c277); (try clear c277b0); (try clear c278); (try clear c278b0); (try clear c279); (try clear c279b0); (try clear c280); (try clear c280b0); (try clear c281); (try clear c281b0); (try clear c282); (try clear c282b0); (try clear q283); (try clear c284); (try clear p285); (try clear q285); (try clear hx285); (try clear hf285); (try clear c286); (try clear c286b0); (try clear c287); (try clear c294); (try clear c295); (try clear c295b0); (try clear c295b1); (try clear c296); (try clear c298); (try clear c325); (try clear c325b0); (try clear c325b1); (try clear c325b2); (try clear c326); (try clear c326b0); (try clear c326b1); (try clear c327); (try clear c327b0); (try clear c327b1); (try clear c328); (try clear c328b0); (try clear c328b1); (try clear c328b2); (try clear c330); (try clear c331); (try clear c331b0); (try clear c331b1); (try clear c331b2); (try clear c341); (try clear c344); (try clear c347); (try clear c348); (try clear c349); (try clear c349b0); (try clear c350); (try clear c350b0); (try clear c352); (try clear c352b0); (try clear c352b1); (try clear c352b2); (try clear c356); (try clear c356b0); (try clear c356b1); (try clear c356b2); (try clear c359); (try clear c359b0); (try clear c359b1); (try clear c359b2); (try clear hx285_0); (try clear hx480_0); (try clear hx484_0); (try clear hx485_0); (try clear hx486_0); (try clear hx487_0); (try clear hx488_0); (try clear hx489_0); (try clear hx490_0); (try clear hx491_0); (try clear hx492_0); (try clear hx493_0); (try clear hx494_0); (try clear hx495_0); (try clear hx500_0); (try clear hx501_0); (try clear hx503_0); (try clear p480); (try clear p484); (try clear p485); (try clear p486); (try clear p487); (try clear p488); (try clear p489); (try clear p490); (try clear p491); (try clear p492); (try clear p493); (try clear p494); (try clear p495); (try clear p500); (try clear p501); (try clear p503); (try clear q480); (try clear q484); (try clear q485); (try clear q486); (try clear q487); (try clear q488); (try clear q489); (try clear q490); (try clear q491); (try clear q492); (try clear q493); (try clear q494); (try clear q495); (try clear q500); (try clear q501); (try clear q503)
           obtain ⟨kq, HA, HJ342, HO_51, HO_60, HO_63, HO_68, HB⟩ := hcut
           cases kq with
           | zero => exact absurd HA.out (by simp [laws_FnChaptersBegin.j7])
           | succ kj342 =>
            have H := HA.out
            clear HA
            simp only [laws_FnChaptersBegin.j7] at H
            have HC362 := Aside0.mk H
            clear H
            go_upto_if 647 with (fail)
            repeat (go_quiet (fail); go_upto_if 647 with (fail))
            go_cut [76, 77] from 648 to 678 (fun v76 v77 wc => ∃ (kq : Nat), Aside0 (laws_FnChaptersBegin.j8 kq t527 t528 t529 t532 t533 t540 t541 t542 = some r) ∧ Aside0 (kq ≤ kj342) ∧ Aside0 (Kd.R (Kd.int .i64) 3 wc w.heap.size (fun k_ => some k_ ≠ (v534 : Value).ownBlock ∧ some k_ ≠ (v543 : Value).ownBlock) (.slice Ao319 t527.length co319) t527) ∧ Aside0 (Kd.R (Kd.int .i64) 3 wc w.heap.size (fun k_ => some k_ ≠ ((.slice Ao319 t527.length co319) : Value).ownBlock ∧ some k_ ≠ (v543 : Value).ownBlock) v534 t532) ∧ Aside0 (Kd.R (Kd.int .i64) 3 wc w.heap.size (fun k_ => some k_ ≠ ((.slice Ao319 t527.length co319) : Value).ownBlock ∧ some k_ ≠ (v534 : Value).ownBlock) v543 t541) ∧ Aside0 (Below w.heap.size w wc))
            case first => as_aux_lemma =>
             have H := HC362.out
             clear HC362
             by_cases c363 : t523 = true
             ·subst c363
              have H1 : ((impl_BeginningsOf.f kj342 t516 t517).bind fun bt559 => (if bt559.2 = true then (if t522 < 1 then (some false) else (if 0 ≤ t521 then (if t521 < (t516.length : Int) then (if t522 > (rd t516 t521) then (some false) else (if t521 < (bt559.1.length : Int) then (if (wrap64 ((wrap64 ((rd bt559.1 t521) + t522)) - 1)) = t518 then (laws_FnChaptersBegin.j8 kj342 t527 t528 t529 t532 t533 t540 t541 t542) else (some false)) else (none))) else (none)) else (none))) else (some false))) = some r := by rw [if_pos rfl] at H; exact H
              clear H
              have H := H1
              clear H1
              replace H := Option.bind_eq_some_iff.mp H
              obtain ⟨⟨t559, t560⟩, A3640, H⟩ := H
              (try dsimp only at H)
              have A364 := Aside0.mk A3640
              clear A3640
              by_cases c365 : t560 = true
              ·subst c365
               have H1 : (if t522 < 1 then (some false) else (if 0 ≤ t521 then (if t521 < (t516.length : Int) then (if t522 > (rd t516 t521) then (some false) else (if t521 < (t559.length : Int) then (if (wrap64 ((wrap64 ((rd t559 t521) + t522)) - 1)) = t518 then (laws_FnChaptersBegin.j8 kj342 t527 t528 t529 t532 t533 t540 t541 t542) else (some false)) else (none))) else (none)) else (none))) = some r := by rw [if_pos rfl] at H; exact H
               clear H
               have H := H1
               clear H1
               by_cases c366 : t522 < 1
               ·rw [if_pos c366] at H
                have c366b0 : decide (t522 < 1) = true := decide_eq_true c366
                clear c366
                (first | rw [c366b0] | skip)
                obtain rfl := Option.some.inj H
                exact absurd hr_.out (by decide)
               ·rw [if_neg c366] at H
                have c366b0 : decide (t522 < 1) = false := decide_eq_false c366
                clear c366
                (first | rw [c366b0] | skip)
                by_cases c367 : 0 ≤ t521
                ·rw [if_pos c367] at H
                 have c367b0 : decide (0 ≤ t521) = true := decide_eq_true c367
                 clear c367
                 by_cases c368 : t521 < (t516.length : Int)
                 ·rw [if_pos c368] at H
                  have c368b0 : decide (t521 < (t516.length : Int)) = true := decide_eq_true c368
                  clear c368
                  by_cases c369 : t522 > (rd t516 t521)
                  ·rw [if_pos c369] at H
                   have c369b0 : decide ((rd t516 t521) < t522) = true := decide_eq_true c369
                   clear c369
                   obtain rfl := Option.some.inj H
                   exact absurd hr_.out (by decide)
                  ·rw [if_neg c369] at H
                   have c369b0 : decide ((rd t516 t521) < t522) = false := decide_eq_false c369
                   clear c369
                   by_cases c370 : t521 < (t559.length : Int)
                   ·rw [if_pos c370] at H
                    have c370b0 : decide (t521 < (t559.length : Int)) = true := decide_eq_true c370
                    clear c370
                    by_cases c371 : (wrap64 ((wrap64 ((rd t559 t521) + t522)) - 1)) = t518
                    ·rw [if_pos c371] at H
                     have c371b0 : ((wrap64 ((wrap64 ((rd t559 t521) + t522)) - 1)) == t518) = true := beq_iff_eq.mpr c371
                     have c371b1 : ((wrap64 ((wrap64 ((rd t559 t521) + t522)) - 1)) != t518) = false := bne_eq_false_iff_eq.mpr c371
                     clear c371
                     have H' := Aside0.mk H
                     clear H
                     go_wp2_with (first | (go_at_call 6; (with_reducible refine (impl_BeginningsOf.calls kj342 _ _ t516 t517 t559 true _ ?side1 ?side2 A364.out).mono ?_); (case side1 => exact cr_ (Kd.R_reads' HO_51.out).2.2); (case side2 => exact (Kd.R_reads' HO_51.out).2.1); rintro e w372 ⟨v561, rfl, ho0, hb⟩; have n0_ := Aside0.mk (Kd.R_elder' (rr_ HO_51.out) (Kd.R_base ho0) hb); have n1_ := Aside0.mk (Kd.R_elder' (rr_ HO_60.out) (Kd.R_base ho0) hb); have n2_ := Aside0.mk (Kd.R_elder' (rr_ HO_63.out) (Kd.R_base ho0) hb); have n3_ := Aside0.mk (Kd.R_elder' (rr_ HO_68.out) (Kd.R_base ho0) hb); have n4_ := Aside0.mk (Kd.R_lower (Kd.R_new' (Kd.R_new' (Kd.R_new' (Kd.R_new' ho0 (Kd.R_lt (rr_ HO_51.out))) (Kd.R_lt (rr_ HO_60.out))) (Kd.R_lt (rr_ HO_63.out))) (Kd.R_lt (rr_ HO_68.out))) (below_size bw_)); have n5_ := Aside0.mk (below_step bw_ hb); clear HO_51; clear HO_60; clear HO_63; clear HO_68; clear HB; have HO_51 := n0_; have HO_60 := n1_; have HO_63 := n2_; have HO_68 := n3_; have HO562 := n4_; have HB := n5_; clear n0_ n1_ n2_ n3_ n4_ n5_; (try clear hb); (try clear hb2); (try clear hk); (try clear hi); (try clear ho0); have p563 : 0 ≤ (t521 : Int) := of_decide_eq_true (by first | (with_reducible assumption) | assumption); have q563 : t521 < (t516.length : Int) := of_decide_eq_true (by first | (with_reducible assumption) | assumption); obtain ⟨ad563, e563, hx563_0⟩ := Kd.at_int (Kd.R_reads' HO_51.out).2.2 t521 p563 q563; cases e563; replace p563 := eq_true p563; replace q563 := eq_true q563; obtain ⟨Ao373, co373, eo373⟩ := Kd.R_slice HO562.out; subst eo373; have p564 : 0 ≤ (t521 : Int) := of_decide_eq_true (by first | (with_reducible assumption) | assumption); have q564 : t521 < (t559.length : Int) := of_decide_eq_true (by first | (with_reducible assumption) | assumption); obtain ⟨ad564, e564, hx564_0⟩ := Kd.at_int (Kd.R_reads' HO562.out).2.2 t521 p564 q564; cases e564; replace p564 := eq_true p564; replace q564 := eq_true q564))
                     repeat (go_quiet (first | (go_at_call 6; (with_reducible refine (impl_BeginningsOf.calls kj342 _ _ t516 t517 t559 true _ ?side1 ?side2 A364.out).mono ?_); (case side1 => exact cr_ (Kd.R_reads' HO_51.out).2.2); (case side2 => exact (Kd.R_reads' HO_51.out).2.1); rintro e w372 ⟨v561, rfl, ho0, hb⟩; have n0_ := Aside0.mk (Kd.R_elder' (rr_ HO_51.out) (Kd.R_base ho0) hb); have n1_ := Aside0.mk (Kd.R_elder' (rr_ HO_60.out) (Kd.R_base ho0) hb); have n2_ := Aside0.mk (Kd.R_elder' (rr_ HO_63.out) (Kd.R_base ho0) hb); have n3_ := Aside0.mk (Kd.R_elder' (rr_ HO_68.out) (Kd.R_base ho0) hb); have n4_ := Aside0.mk (Kd.R_lower (Kd.R_new' (Kd.R_new' (Kd.R_new' (Kd.R_new' ho0 (Kd.R_lt (rr_ HO_51.out))) (Kd.R_lt (rr_ HO_60.out))) (Kd.R_lt (rr_ HO_63.out))) (Kd.R_lt (rr_ HO_68.out))) (below_size bw_)); have n5_ := Aside0.mk (below_step bw_ hb); clear HO_51; clear HO_60; clear HO_63; clear HO_68; clear HB; have HO_51 := n0_; have HO_60 := n1_; have HO_63 := n2_; have HO_68 := n3_; have HO562 := n4_; have HB := n5_; clear n0_ n1_ n2_ n3_ n4_ n5_; (try clear hb); (try clear hb2); (try clear hk); (try clear hi); (try clear ho0); have p563 : 0 ≤ (t521 : Int) := of_decide_eq_true (by first | (with_reducible assumption) | assumption); have q563 : t521 < (t516.length : Int) := of_decide_eq_true (by first | (with_reducible assumption) | assumption); obtain ⟨ad563, e563, hx563_0⟩ := Kd.at_int (Kd.R_reads' HO_51.out).2.2 t521 p563 q563; cases e563; replace p563 := eq_true p563; replace q563 := eq_true q563; obtain ⟨Ao373, co373, eo373⟩ := Kd.R_slice HO562.out; subst eo373; have p564 : 0 ≤ (t521 : Int) := of_decide_eq_true (by first | (with_reducible assumption) | assumption); have q564 : t521 < (t559.length : Int) := of_decide_eq_true (by first | (with_reducible assumption) | assumption); obtain ⟨ad564, e564, hx564_0⟩ := Kd.at_int (Kd.R_reads' HO562.out).2.2 t521 p564 q564; cases e564; replace p564 := eq_true p564; replace q564 := eq_true q564)); try go_wp2)
                     go_meet
                     case rel => exact ⟨_, H', ⟨by have := HJ21.out; have := HJ198.out; have := HJ312.out; have := HJ342.out; first | omega | exact Nat.le_refl _⟩, ⟨by (with_reducible repeat (first | apply Kd.R_alloc | apply Kd.R_drewN | apply Kd.R_drew)); exact Kd.R_mono HO_60.out (fun _ hk => ⟨hk.1.2.1, hk.1.2.2⟩)⟩, ⟨by (with_reducible repeat (first | apply Kd.R_alloc | apply Kd.R_drewN | apply Kd.R_drew)); exact Kd.R_mono HO_63.out (fun _ hk => ⟨hk.1.2.1, hk.1.2.2⟩)⟩, ⟨by (with_reducible repeat (first | apply Kd.R_alloc | apply Kd.R_drewN | apply Kd.R_drew)); exact Kd.R_mono HO_68.out (fun _ hk => ⟨hk.1.2.1, hk.1.2.2⟩)⟩, ⟨bw_⟩⟩
                    ·rw [if_neg c371] at H
                     have c371b0 : ((wrap64 ((wrap64 ((rd t559 t521) + t522)) - 1)) == t518) = false := beq_eq_false_iff_ne.mpr c371
                     have c371b1 : ((wrap64 ((wrap64 ((rd t559 t521) + t522)) - 1)) != t518) = true := bne_iff_ne.mpr c371
                     obtain rfl := Option.some.inj H
                     exact absurd hr_.out (by decide)
                   ·rw [if_neg c370] at H
                    exact absurd H (by simp)
                 ·rw [if_neg c368] at H
                  exact absurd H (by simp)
                ·rw [if_neg c367] at H
                 exact absurd H (by simp)
              ·replace c365 := Bool.eq_false_iff.mpr c365
               subst c365
               have H1 : (some false) = some r := by rw [if_neg (show ¬ (false = true) by decide)] at H; exact H
               clear H
               have H := H1
               clear H1
               obtain rfl := Option.some.inj H
               exact absurd hr_.out (by decide)
             ·replace c363 := Bool.eq_false_iff.mpr c363
              subst c363
              have H1 : (laws_FnChaptersBegin.j8 kj342 t527 t528 t529 t532 t533 t540 t541 t542) = some r := by rw [if_neg (show ¬ (false = true) by decide)] at H; exact H
              clear H
              have H := H1
              clear H1
              have H' := Aside0.mk H
              clear H
              go_wp2
              repeat (go_quiet (fail); try go_wp2)
              go_meet
              case rel => exact ⟨_, H', ⟨by have := HJ21.out; have := HJ198.out; have := HJ312.out; have := HJ342.out; first | omega | exact Nat.le_refl _⟩, ⟨by (with_reducible repeat (first | apply Kd.R_alloc | apply Kd.R_drewN | apply Kd.R_drew)); exact Kd.R_mono HO_60.out (fun _ hk => ⟨hk.2.1, hk.2.2⟩)⟩, ⟨by (with_reducible repeat (first | apply Kd.R_alloc | apply Kd.R_drewN | apply Kd.R_drew)); exact Kd.R_mono HO_63.out (fun _ hk => ⟨hk.2.1, hk.2.2⟩)⟩, ⟨by (with_reducible repeat (first | apply Kd.R_alloc | apply Kd.R_drewN | apply Kd.R_drew)); exact Kd.R_mono HO_68.out (fun _ hk => ⟨hk.2.1, hk.2.2⟩)⟩, ⟨bw_⟩⟩
            case rest => as_aux_lemma =>
             clear HC362
             (try clear c1); (try clear c2); (try clear p2); (try clear q2); (try clear hx2); (try clear hf2); (try clear c3); (try clear c4); (try clear p4); (try clear q4); (try clear hx4); (try clear qi4); (try clear c5); (try clear p5); (try clear q5); (try clear hx5); (try clear c6); (try clear p6); (try clear c7); (try clear c8); (try clear c9); (try clear c10); (try clear c11); (try clear c12); (try clear c13); (try clear c14); (try clear c19); (try clear c20); (try clear c21); (try clear c22); (try clear c24); (try clear c25); (try clear c26); (try clear c27); (try clear c28); (try clear p28); (try clear q28); (try clear hx28); (try clear hf28); (try clear c29); (try clear c32); (try clear c33); (try clear c34); (try clear c35); (try clear c36); (try clear c37); (try clear c37b0); (try clear c37b1); (try clear c37b2); (try clear c39); (try clear c40); (try clear c40b0); (try clear c40b1); (try clear c40b2); (try clear c44); (try clear c45); (try clear c45b0); (try clear c45b1); (try clear c45b2); (try clear p48); (try clear q48); (try clear hx48); (try clear qi48); (try clear p49); (try clear q49); (try clear hx49); (try clear c50); (try clear c50b0); (try clear c50b1); (try clear p50); (try clear q50); (try clear hx50); (try clear c51); (try clear c51b0); (try clear c51b1); (try clear c51b2); (try clear c56); (try clear c56b0); (try clear c56b1); (try clear p56); (try clear q56); (try clear hx56); (try clear c57); (try clear c57b0); (try clear c57b1); (try clear c57b2); (try clear c63); (try clear c64); (try clear c64b0); (try clear c64b1); (try clear c64b2); (try clear p64); (try clear c71); (try clear c71b0); (try clear c71b1); (try clear c72); (try clear c72b0); (try clear c72b1); (try clear c72b2); (try clear c79); (try clear c79b0); (try clear c79b1); (try clear c80); (try clear c80b0); (try clear c80b1); (try clear c80b2); (try clear c87); (try clear c87b0); (try clear c87b1); (try clear c88); (try clear c88b0); (try clear c88b1); (try clear c90); (try clear c90b0); (try clear c90b1); (try clear c90b2); (try clear c99); (try clear c99b0); (try clear c99b1); (try clear c99b2); (try clear c106); (try clear c106b0); (try clear c106b1); (try clear c106b2); (try clear c113); (try clear c113b0); (try clear c113b1); (try clear c113b2); (try clear c120); (try clear c120b0); (try clear c120b1); (try clear c120b2); (try clear c127); (try clear c127b0); (try clear c127b1); (try clear c127b2); (try clear c134); (try clear c134b0); (try clear c134b1); (try clear c134b2); (try clear c141); (try clear c141b0); (try clear c141b1); (try clear c141b2); (try clear c198); (try clear c200); (try clear c202); (try clear c202b0); (try clear c202b1); (try clear c202b2); (try clear c203); (try clear c203b0); (try clear c203b1); (try clear c204); (try clear c204b0); (try clear c204b1); (try clear c206); (try clear c208); (try clear c210); (try clear c210b0); (try clear c210b1); (try clear c211); (try clear c212); (try clear c212b0); (try clear c215); (try clear c215b0); (try clear c218); (try clear c218b0); (try clear c224); (try clear c224b0); (try clear c224b1); (try clear c224b2); (try clear c225); (try clear c225b0); (try clear c228); (try clear c228b0); (try clear c243); (try clear c245); (try clear c245b0); (try clear c246); (try clear c246b0); (try clear c247); (try clear c247b0); (try clear c249); (try clear c250); (try clear c250b0); (try clear c250b1); (try clear c251); (try clear c251b0); (try clear c253); (try clear c253b0); (try clear c254); (try clear c254b0); (try clear c255); (try clear c255b0); (try clear c256); (try clear c256b0); (try clear c257); (try clear c257b0); (try clear c259); (try clear c259b0); (try clear c260); (try clear c260b0); (try clear c261); (try clear c261b0); (try clear c262); (try clear c262b0); (try clear c263); (try clear c264); (try clear c264b0); (try clear c265); (try clear c265b0); (try clear c266); (try clear c266b0); (try clear c267); (try clear c267b0); (try clear c267b1); (try clear c268); (try clear c268b0); (try clear c269); (try clear c269b0); (try clear c269b1); (try clear c270); (try clear c270b0); (try clear c270b1); (try clear c271); (try clear c271b0); (try clear c271b1); (try clear c272); (try clear c272b0); (try clear c272b1); (try clear c276); (try clear c276b0); (try clear c277); (try clear c277b0); (try clear c278); (try clear c278b0); (try clear c279); (try clear c279b0); (try clear c280); (try clear c280b0); (try clear c281); (try clear c281b0); (try clear c282); (try clear c282b0); (try clear q283); (try clear c284); (try clear p285); (try clear q285); (try clear hx285); (try clear hf285); (try clear c286); (try clear c286b0); (try clear c287); (try clear c294); (try clear c295); (try clear c295b0); (try clear c295b1); (try clear c296); (try clear c298); (try clear c325); (try clear c325b0); (try clear c325b1); (try clear c325b2); (try clear c326); (try clear c326b0); (try clear c326b1); (try clear c327); (try clear c327b0); (try clear c327b1); (try clear c328); (try clear c328b0); (try clear c328b1); (try clear c328b2); (try clear c330); (try clear c331); (try clear c331b0); (try clear c331b1); (try clear c331b2); (try clear c341); (try clear c344); (try clear c347); (try clear c348); (try clear c349); (try clear c349b0); (try clear c350); (try clear c350b0); (try clear c352); (try clear c352b0); (try clear c352b1); (try clear c352b2); (try clear c356); (try clear c356b0); (try clear c356b1); (try clear c356b2); (try clear c359); (try clear c359b0); (try clear c359b1); (try clear c359b2); (try clear c363); (try clear c365); (try clear c366); (try clear c366b0); (try clear c367); (try clear c367b0); (try clear c368); (try clear c368b0); (try clear c369); (try clear c369b0); (try clear c370); (try clear c370b0); (try clear c371); (try clear c371b0); (try clear c371b1); (try clear hx285_0); (try clear hx480_0); (try clear hx484_0); (try clear hx485_0); (try clear hx486_0); (try clear hx487_0); (try clear hx488_0); (try clear hx489_0); (try clear hx490_0); (try clear hx491_0); (try clear hx492_0); (try clear hx493_0); (try clear hx494_0); (try clear hx495_0); (try clear hx500_0); (try clear hx501_0); (try clear hx503_0); (try clear hx563_0); (try clear hx564_0); (try clear p480); (try clear p484); (try clear p485); (try clear p486); (try clear p487); (try clear p488); (try clear p489); (try clear p490); (try clear p491); (try clear p492); (try clear p493); (try clear p494); (try clear p495); (try clear p500); (try clear p501); (try clear p503); (try clear p563); (try clear p564); (try clear q480); (try clear q484); (try clear q485); (try clear q486); (try clear q487); (try clear q488); (try clear q489); (try clear q490); (try clear q491); (try clear q492); (try clear q493); (try clear q494); (try clear q495); (try clear q500); (try clear q501); (try clear q503); (try clear q563); (try clear q564)
             obtain ⟨kq, HA, HJ361, HO_60, HO_63, HO_68, HB⟩ := hcut
             cases kq with
             | zero => exact absurd HA.out (by simp [laws_FnChaptersBegin.j8])
             | succ kj361 =>
              have H := HA.out
              clear HA
              simp only [laws_FnChaptersBegin.j8] at H
              by_cases c374 : t533 = true
              ·subst c374
               have H1 : ((impl_MoveChapter.f kj361 t532 t529 t528).bind fun bt565 => (if (t532.length : Int) = (t527.length : Int) then (if 0 ≤ t529 then (if t529 < (t532.length : Int) then (if 0 ≤ t528 then (if t528 < (t527.length : Int) then (if (rd t532 t529) = (rd t527 t528) then (if bt565.2 = true then ((laws_xSame.f kj361 bt565.1 t527).bind fun t571 => (laws_FnChaptersBegin.j9 kj361 t540 t541 t542 (!t571))) else (laws_FnChaptersBegin.j9 kj361 t540 t541 t542 true)) else (laws_FnChaptersBegin.j9 kj361 t540 t541 t542 true)) else (none)) else (none)) else (none)) else (none)) else (laws_FnChaptersBegin.j9 kj361 t540 t541 t542 true))) = some r := by rw [if_pos rfl] at H; exact H
               clear H
               have H := H1
               clear H1
               replace H := Option.bind_eq_some_iff.mp H
               obtain ⟨⟨t565, t566⟩, A3750, H⟩ := H
               (try dsimp only at H)
               have A375 := Aside0.mk A3750
               clear A3750
               have HC376 := Aside0.mk H
               clear H
               obtain ⟨Ao377, co377, eo377⟩ := Kd.R_slice HO_63.out
               subst eo377
               go_upto_region 69 with (first | (go_at_call 32; (with_reducible refine (impl_MoveChapter.calls kj361 _ _ t532 t529 t528 t565 t566 _ ?side1 ?side2 A375.out).mono ?_); (case side1 => exact cr_ (Kd.R_reads' HO_63.out).2.2); (case side2 => exact (Kd.R_reads' HO_63.out).2.1); rintro e w378 ⟨v567, rfl, ho0, hb⟩; have n0_ := Aside0.mk (Kd.R_elder' (rr_ HO_60.out) (Kd.R_base ho0) hb); have n1_ := Aside0.mk (Kd.R_elder' (rr_ HO_63.out) (Kd.R_base ho0) hb); have n2_ := Aside0.mk (Kd.R_elder' (rr_ HO_68.out) (Kd.R_base ho0) hb); have n3_ := Aside0.mk (Kd.R_lower (Kd.R_new' (Kd.R_new' (Kd.R_new' ho0 (Kd.R_lt (rr_ HO_60.out))) (Kd.R_lt (rr_ HO_63.out))) (Kd.R_lt (rr_ HO_68.out))) (below_size bw_)); have n4_ := Aside0.mk (below_step bw_ hb); clear HO_60; clear HO_63; clear HO_68; clear HB; have HO_60 := n0_; have HO_63 := n1_; have HO_68 := n2_; have HO568 := n3_; have HB := n4_; clear n0_ n1_ n2_ n3_ n4_; (try clear hb); (try clear hb2); (try clear hk); (try clear hi); (try clear ho0)))
               repeat (go_quiet (fail); go_upto_region 69 with (fail))
               (try simp only [Act.put, List.setIfInBounds_toArray, List.set_cons_zero, List.set_cons_succ])
               go_cut [712] from 687 to 711 (fun v712 wc => ∃ (kq : Nat) (x712_375 : Bool), v712 = .bool x712_375 ∧ Aside0 (laws_FnChaptersBegin.j9 kq t540 t541 t542 x712_375 = some r) ∧ Aside0 (kq ≤ kj361) ∧ Aside0 (Kd.R (Kd.int .i64) 3 wc w.heap.size (fun _ => True) v543 t541) ∧ Aside0 (Below w.heap.size w wc))
               case first => as_aux_lemma =>
                have H := HC376.out
                clear HC376
                by_cases c379 : (t532.length : Int) = (t527.length : Int)
                ·rw [if_pos c379] at H
                 have c379b0 : ((t532.length : Int) == (t527.length : Int)) = true := beq_iff_eq.mpr c379
                 have c379b1 : ((t532.length : Int) != (t527.length : Int)) = false := bne_eq_false_iff_eq.mpr c379
                 have c379b2 : (t532.length == t527.length) = true := by first | simpa using c379 | (simp at c379 ⊢; omega)
                 clear c379
                 (first | rw [c379b0] | skip)
                 by_cases c380 : 0 ≤ t529
                 ·rw [if_pos c380] at H
                  have c380b0 : decide (0 ≤ t529) = true := decide_eq_true c380
                  clear c380
                  by_cases c381 : t529 < (t532.length : Int)
                  ·rw [if_pos c381] at H
                   have c381b0 : decide (t529 < (t532.length : Int)) = true := decide_eq_true c381
                   clear c381
                   by_cases c382 : 0 ≤ t528
                   ·rw [if_pos c382] at H
                    have c382b0 : decide (0 ≤ t528) = true := decide_eq_true c382
                    clear c382
                    by_cases c383 : t528 < (t527.length : Int)
                    ·rw [if_pos c383] at H
                     have c383b0 : decide (t528 < (t527.length : Int)) = true := decide_eq_true c383
                     clear c383
                     by_cases c384 : (rd t532 t529) = (rd t527 t528)
                     ·rw [if_pos c384] at H
                      have c384b0 : ((rd t532 t529) == (rd t527 t528)) = true := beq_iff_eq.mpr c384
                      have c384b1 : ((rd t532 t529) != (rd t527 t528)) = false := bne_eq_false_iff_eq.mpr c384
                      clear c384
                      by_cases c385 : t566 = true
                      ·subst c385
                       have H1 : ((laws_xSame.f kj361 t565 t527).bind fun t571 => (laws_FnChaptersBegin.j9 kj361 t540 t541 t542 (!t571))) = some r := by rw [if_pos rfl] at H; exact H
                       clear H
                       have H := H1
                       clear H1
                       replace H := Option.bind_eq_some_iff.mp H
                       obtain ⟨t571, A3860, H⟩ := H
                       (try dsimp only at H)
                       have A386 := Aside0.mk A3860
                       clear A3860
                       have H' := Aside0.mk H
                       clear H
                       have p569 : 0 ≤ (t529 : Int) := of_decide_eq_true (by first | (with_reducible assumption) | assumption)
                       have q569 : t529 < (t532.length : Int) := of_decide_eq_true (by first | (with_reducible assumption) | assumption)
                       obtain ⟨ad569, e569, hx569_0⟩ := Kd.at_int (Kd.R_reads' HO_63.out).2.2 t529 p569 q569
                       cases e569
                       replace p569 := eq_true p569
                       replace q569 := eq_true q569
                       have p570 : 0 ≤ (t528 : Int) := of_decide_eq_true (by first | (with_reducible assumption) | assumption)
                       have q570 : t528 < (t527.length : Int) := of_decide_eq_true (by first | (with_reducible assumption) | assumption)
                       obtain ⟨ad570, e570, hx570_0⟩ := Kd.at_int (Kd.R_reads' HO_60.out).2.2 t528 p570 q570
                       cases e570
                       replace p570 := eq_true p570
                       replace q570 := eq_true q570
                       obtain ⟨Ao387, co387, eo387⟩ := Kd.R_slice HO568.out
                       subst eo387
                       go_wp2_with (first | (go_at_call 22; (with_reducible refine (laws_xSame.calls kj361 _ _ t565 _ _ t527 t571 _ ?side1 ?side2 ?side3 ?side4 A386.out).mono ?_); (case side1 => exact cr_ (Kd.R_reads' HO568.out).2.2); (case side2 => exact (Kd.R_reads' HO568.out).2.1); (case side3 => exact cr_ (Kd.R_reads' HO_60.out).2.2); (case side4 => exact (Kd.R_reads' HO_60.out).2.1); rintro e w' ⟨rfl, ⟨nd, rfl⟩⟩; (try exact dd_)))
                       repeat (go_quiet (first | (go_at_call 22; (with_reducible refine (laws_xSame.calls kj361 _ _ t565 _ _ t527 t571 _ ?side1 ?side2 ?side3 ?side4 A386.out).mono ?_); (case side1 => exact cr_ (Kd.R_reads' HO568.out).2.2); (case side2 => exact (Kd.R_reads' HO568.out).2.1); (case side3 => exact cr_ (Kd.R_reads' HO_60.out).2.2); (case side4 => exact (Kd.R_reads' HO_60.out).2.1); rintro e w' ⟨rfl, ⟨nd, rfl⟩⟩; (try exact dd_))); try go_wp2)
                       go_meet
                       case rel => exact ⟨_, (!t571), rs_, H', ⟨by have := HJ21.out; have := HJ198.out; have := HJ312.out; have := HJ342.out; have := HJ361.out; first | omega | exact Nat.le_refl _⟩, ⟨by (with_reducible repeat (first | apply Kd.R_alloc | apply Kd.R_drewN | apply Kd.R_drew)); exact Kd.R_mono HO_68.out (fun _ hk => trivial)⟩, ⟨bw_⟩⟩
                      ·replace c385 := Bool.eq_false_iff.mpr c385
                       subst c385
                       have H1 : (laws_FnChaptersBegin.j9 kj361 t540 t541 t542 true) = some r := by rw [if_neg (show ¬ (false = true) by decide)] at H; exact H
                       clear H
                       have H := H1
                       clear H1
                       exact (laws_FnChaptersBegin.j9_no H hr_.out).elim
                     ·rw [if_neg c384] at H
                      have c384b0 : ((rd t532 t529) == (rd t527 t528)) = false := beq_eq_false_iff_ne.mpr c384
                      have c384b1 : ((rd t532 t529) != (rd t527 t528)) = true := bne_iff_ne.mpr c384
                      exact (laws_FnChaptersBegin.j9_no H hr_.out).elim
                    ·rw [if_neg c383] at H
                     exact absurd H (by simp)
                   ·rw [if_neg c382] at H
                    exact absurd H (by simp)
                  ·rw [if_neg c381] at H
                   exact absurd H (by simp)
                 ·rw [if_neg c380] at H
                  exact absurd H (by simp)
                ·rw [if_neg c379] at H
                 have c379b0 : ((t532.length : Int) == (t527.length : Int)) = false := beq_eq_false_iff_ne.mpr c379
                 have c379b1 : ((t532.length : Int) != (t527.length : Int)) = true := bne_iff_ne.mpr c379
                 have c379b2 : (t532.length == t527.length) = false := by first | simpa using c379 | (simp at c379 ⊢; omega)
                 (first | rw [c379b0] | skip)
                 exact (laws_FnChaptersBegin.j9_no H hr_.out).elim
               case rest => as_aux_lemma =>
                clear HC376
                (try clear c1); (try clear c2); (try clear p2); (try clear q2); (try clear hx2); (try clear hf2); (try clear c3); (try clear c4); (try clear p4); (try clear q4); (try clear hx4); (try clear qi4); (try clear c5); (try clear p5); (try clear q5); (try clear hx5); (try clear c6); (try clear p6); (try clear c7); (try clear c8); (try clear c9); (try clear c10); (try clear c11); (try clear c12); (try clear c13); (try clear c14); (try clear c19); (try clear c20); (try clear c21); (try clear c22); (try clear c24); (try clear c25); (try clear c26); (try clear c27); (try clear c28); (try clear p28); (try clear q28); (try clear hx28); (try clear hf28); (try clear c29); (try clear c32); (try clear c33); (try clear c34); (try clear c35); (try clear c36); (try clear c37); (try clear c37b0); (try clear c37b1); (try clear c37b2); (try clear c38); (try clear c39); (try clear c40); (try clear c40b0); (try clear c40b1); (try clear c40b2); (try clear c44); (try clear c45); (try clear c45b0); (try clear c45b1); (try clear c45b2); (try clear p48); (try clear q48); (try clear hx48); (try clear qi48); (try clear p49); (try clear q49); (try clear hx49); (try clear c50); (try clear c50b0); (try clear c50b1); (try clear p50); (try clear q50); (try clear hx50); (try clear c51); (try clear c51b0); (try clear c51b1); (try clear c51b2); (try clear c56); (try clear c56b0); (try clear c56b1); (try clear p56); (try clear q56); (try clear hx56); (try clear c57); (try clear c57b0); (try clear c57b1); (try clear c57b2); (try clear p57); (try clear q57); (try clear hx57); (try clear c63); (try clear c64); (try clear c64b0); (try clear c64b1); (try clear c64b2); (try clear p64); (try clear c71); (try clear c71b0); (try clear c71b1); (try clear c72); (try clear c72b0); (try clear c72b1); (try clear c72b2); (try clear c79); (try clear c79b0); (try clear c79b1); (try clear c80); (try clear c80b0); (try clear c80b1); (try clear c80b2); (try clear c87); (try clear c87b0); (try clear c87b1); (try clear c88); (try clear c88b0); (try clear c88b1); (try clear c90); (try clear c90b0); (try clear c90b1); (try clear c90b2); (try clear c99); (try clear c99b0); (try clear c99b1); (try clear c99b2); (try clear c106); (try clear c106b0); (try clear c106b1); (try clear c106b2); (try clear c113); (try clear c113b0); (try clear c113b1); (try clear c113b2); (try clear c120); (try clear c120b0); (try clear c120b1); (try clear c120b2); (try clear c127); (try clear c127b0); (try clear c127b1); (try clear c127b2); (try clear c134); (try clear c134b0); (try clear c134b1); (try clear c134b2); (try clear c141); (try clear c141b0); (try clear c141b1); (try clear c141b2); (try clear c198); (try clear c200); (try clear c202); (try clear c202b0); (try clear c202b1); (try clear c202b2); (try clear c203); (try clear c203b0); (try clear c203b1); (try clear c204); (try clear c204b0); (try clear c204b1); (try clear c206); (try clear c208); (try clear c210); (try clear c210b0); (try clear c210b1); (try clear c211); (try clear c212); (try clear c212b0); (try clear c215); (try clear c215b0); (try clear c218); (try clear c218b0); (try clear c224); (try clear c224b0); (try clear c224b1); (try clear c224b2); (try clear c225); (try clear c225b0); (try clear c228); (try clear c228b0); (try clear c243); (try clear c245); (try clear c245b0); (try clear c246); (try clear c246b0); (try clear c247); (try clear c247b0); (try clear c249); (try clear c250); (try clear c250b0); (try clear c250b1); (try clear c251); (try clear c251b0); (try clear c253); (try clear c253b0); (try clear c254); (try clear c254b0); (try clear c255); (try clear c255b0); (try clear c256); (try clear c256b0); (try clear c257); (try clear c257b0); (try clear c259); (try clear c259b0); (try clear c260); (try clear c260b0); (try clear c261); (try clear c261b0); (try clear c262); (try clear c262b0); (try clear c263); (try clear c264); (try clear c264b0); (try clear c265); (try clear c265b0); (try clear c266); (try clear c266b0); (try clear c267); (try clear c267b0); (try clear c267b1); (try clear c268); (try clear c268b0); (try clear c269); (try clear c269b0); (try clear c269b1); (try clear c270); (try clear c270b0); (try clear c270b1); (try clear c271); (try clear c271b0); (try clear c271b1); (try clear c272); (try clear c272b0); (try clear c272b1); (try clear c276); (try clear c276b0); (try clear c277); (try clear c277b0); (try clear c278); (try clear c278b0); (try clear c279); (try clear c279b0); (try clear c280); (try clear c280b0); (try clear c281); (try clear c281b0); (try clear c282); (try clear c282b0); (try clear q283); (try clear c284); (try clear p285); (try clear q285); (try clear hx285); (try clear hf285); (try clear c286); (try clear c286b0); (try clear c287); (try clear c294); (try clear c295); (try clear c295b0); (try clear c295b1); (try clear c296); (try clear c298); (try clear c325); (try clear c325b0); (try clear c325b1); (try clear c325b2); (try clear c326); (try clear c326b0); (try clear c326b1); (try clear c327); (try clear c327b0); (try clear c327b1); (try clear c328); (try clear c328b0); (try clear c328b1); (try clear c328b2); (try clear c330); (try clear c331); (try clear c331b0); (try clear c331b1); (try clear c331b2); (try clear c341); (try clear c344); (try clear c347); (try clear c348); (try clear c349); (try clear c349b0); (try clear c350); (try clear c350b0); (try clear c352); (try clear c352b0); (try clear c352b1); (try clear c352b2); (try clear c356); (try clear c356b0); (try clear c356b1); (try clear c356b2); (try clear c359); (try clear c359b0); (try clear c359b1); (try clear c359b2); (try clear c363); (try clear c365); (try clear c366); (try clear c366b0); (try clear c367); (try clear c367b0); (try clear c368); (try clear c368b0); (try clear c369); (try clear c369b0); (try clear c370); (try clear c370b0); (try clear c371); (try clear c371b0); (try clear c371b1); (try clear c374); (try clear c379); (try clear c379b0); (try clear c379b1); (try clear c379b2); (try clear c380); (try clear c380b0); (try clear c381); (try clear c381b0); (try clear c382); (try clear c382b0); (try clear c383); (try clear c383b0); (try clear c384); (try clear c384b0); (try clear c384b1); (try clear c385); (try clear hx285_0); (try clear hx480_0); (try clear hx484_0); (try clear hx485_0); (try clear hx486_0); (try clear hx487_0); (try clear hx488_0); (try clear hx489_0); (try clear hx490_0); (try clear hx491_0); (try clear hx492_0); (try clear hx493_0); (try clear hx494_0); (try clear hx495_0); (try clear hx500_0); (try clear hx501_0); (try clear hx503_0); (try clear hx563_0); (try clear hx564_0); (try clear hx569_0); (try clear hx570_0); (try clear p480); (try clear p484); (try clear p485); (try clear p486); (try clear p487); (try clear p488); (try clear p489); (try clear p490); (try clear p491); (try clear p492); (try clear p493); (try clear p494); (try clear p495); (try clear p500); (try clear p501); (try clear p503); (try clear p563); (try clear p564); (try clear p569); (try clear p570); (try clear q480); (try clear q484); (try clear q485); (try clear q486); (try clear q487); (try clear q488); (try clear q489); (try clear q490); (try clear q491); (try clear q492); (try clear q493); (try clear q494); (try clear q495); (try clear q500); (try clear q501); (try clear q503); (try clear q563); (try clear q564); (try clear q569); (try clear q570)
                obtain ⟨kq, x712_375, rfl, HA, HJ375, HO_68, HB⟩ := hcut
                cases kq with
                | zero => exact absurd HA.out (by simp [laws_FnChaptersBegin.j9])
                | succ kj375 =>
                 have H := HA.out
                 clear HA
                 simp only [laws_FnChaptersBegin.j9] at H
                 by_cases c388 : x712_375 = true
                 ·subst c388
                  have H1 : (some false) = some r := by rw [if_pos rfl] at H; exact H
                  clear H
                  have H := H1
                  clear H1
                  obtain rfl := Option.some.inj H
                  exact absurd hr_.out (by decide)
                 ·replace c388 := Bool.eq_false_iff.mpr c388
                  subst c388
                  have H1 : (if t542 = true then ((impl_ChaptersText.f kj375 t541).bind fun bt572 => (if bt572.2 = true then (some (bt572.1.toList == t540.toList)) else (some false))) else (some true)) = some r := by rw [if_neg (show ¬ (false = true) by decide)] at H; exact H
                  clear H
                  have H := H1
                  clear H1
                  by_cases c389 : t542 = true
                  ·subst c389
                   have H1 : ((impl_ChaptersText.f kj375 t541).bind fun bt572 => (if bt572.2 = true then (some (bt572.1.toList == t540.toList)) else (some false))) = some r := by rw [if_pos rfl] at H; exact H
                   clear H
                   have H := H1
                   clear H1
                   replace H := Option.bind_eq_some_iff.mp H
                   obtain ⟨⟨t572, t573⟩, A3900, H⟩ := H
                   (try dsimp only at H)
                   have A390 := Aside0.mk A3900
                   clear A3900
                   by_cases c391 : t573 = true
                   ·subst c391
                    have H1 : (some (t572.toList == t540.toList)) = some r := by rw [if_pos rfl] at H; exact H
                    clear H
                    have H := H1
                    clear H1
                    obtain rfl := Option.some.inj H
                    simp only [Option.some.injEq, Prod.mk.injEq] at H
                    obtain ⟨rfl⟩ := H
                    obtain ⟨Ao392, co392, eo392⟩ := Kd.R_slice HO_68.out
                    subst eo392
                    go_wp2_with (first | (go_at_call 18; (with_reducible refine (impl_ChaptersText.calls kj375 _ _ t541 t572 true _ ?side1 ?side2 ?side3 A390.out).mono ?_); (case side1 => exact cr_ (Kd.R_reads' HO_68.out).2.2); (case side2 => exact (Kd.R_reads' HO_68.out).2.1); (case side3 => exact TabC.below HT.out bw_); rintro e w393 ⟨rfl, hb⟩; have n0_ := Aside0.mk (Kd.R_below (rr_ HO_68.out) hb); have n1_ := Aside0.mk (below_step bw_ hb); clear HO_68; clear HB; have HO_68 := n0_; have HB := n1_; clear n0_ n1_; (try clear hb); (try clear hb2); (try clear hk); (try clear hi)))
                    repeat (go_quiet (first | (go_at_call 18; (with_reducible refine (impl_ChaptersText.calls kj375 _ _ t541 t572 true _ ?side1 ?side2 ?side3 A390.out).mono ?_); (case side1 => exact cr_ (Kd.R_reads' HO_68.out).2.2); (case side2 => exact (Kd.R_reads' HO_68.out).2.1); (case side3 => exact TabC.below HT.out bw_); rintro e w393 ⟨rfl, hb⟩; have n0_ := Aside0.mk (Kd.R_below (rr_ HO_68.out) hb); have n1_ := Aside0.mk (below_step bw_ hb); clear HO_68; clear HB; have HO_68 := n0_; have HB := n1_; clear n0_ n1_; (try clear hb); (try clear hb2); (try clear hk); (try clear hi))); try go_wp2)
                    go_ret
                    exact ⟨by first | rfl | (simp [errW_none, errW_some] <;> rfl) | (simp [*, errW_none, errW_some] <;> rfl), bw_⟩
                   ·replace c391 := Bool.eq_false_iff.mpr c391
                    subst c391
                    have H1 : (some false) = some r := by rw [if_neg (show ¬ (false = true) by decide)] at H; exact H
                    clear H
                    have H := H1
                    clear H1
                    obtain rfl := Option.some.inj H
                    exact absurd hr_.out (by decide)
                  ·replace c389 := Bool.eq_false_iff.mpr c389
                   subst c389
                   have H1 : (some true) = some r := by rw [if_neg (show ¬ (false = true) by decide)] at H; exact H
                   clear H
                   have H := H1
                   clear H1
                   obtain rfl := Option.some.inj H
                   simp only [Option.some.injEq, Prod.mk.injEq] at H
                   obtain ⟨rfl⟩ := H
                   go_wp2
                   repeat (go_quiet (fail); try go_wp2)
                   go_ret
                   exact ⟨by first | rfl | (simp [errW_none, errW_some] <;> rfl) | (simp [*, errW_none, errW_some] <;> rfl), bw_⟩
              ·replace c374 := Bool.eq_false_iff.mpr c374
               subst c374
               have H1 : (if t542 = true then ((impl_ChaptersText.f kj361 t541).bind fun bt574 => (if bt574.2 = true then (some (bt574.1.toList == t540.toList)) else (some false))) else (some true)) = some r := by rw [if_neg (show ¬ (false = true) by decide)] at H; exact H
               clear H
               have H := H1
               clear H1
               by_cases c394 : t542 = true
               ·subst c394
                have H1 : ((impl_ChaptersText.f kj361 t541).bind fun bt574 => (if bt574.2 = true then (some (bt574.1.toList == t540.toList)) else (some false))) = some r := by rw [if_pos rfl] at H; exact H
                clear H
                have H := H1
                clear H1
                replace H := Option.bind_eq_some_iff.mp H
                obtain ⟨⟨t574, t575⟩, A3950, H⟩ := H
                (try dsimp only at H)
                have A395 := Aside0.mk A3950
                clear A3950
                by_cases c396 : t575 = true
                ·subst c396
                 have H1 : (some (t574.toList == t540.toList)) = some r := by rw [if_pos rfl] at H; exact H
                 clear H
                 have H := H1
                 clear H1
                 obtain rfl := Option.some.inj H
                 simp only [Option.some.injEq, Prod.mk.injEq] at H
                 obtain ⟨rfl⟩ := H
                 obtain ⟨Ao397, co397, eo397⟩ := Kd.R_slice HO_68.out
                 subst eo397
                 go_wp2_with (first | (go_at_call 18; (with_reducible refine (impl_ChaptersText.calls kj361 _ _ t541 t574 true _ ?side1 ?side2 ?side3 A395.out).mono ?_); (case side1 => exact cr_ (Kd.R_reads' HO_68.out).2.2); (case side2 => exact (Kd.R_reads' HO_68.out).2.1); (case side3 => exact TabC.below HT.out bw_); rintro e w398 ⟨rfl, hb⟩; have n0_ := Aside0.mk (Kd.R_below (rr_ HO_60.out) hb); have n1_ := Aside0.mk (Kd.R_below (rr_ HO_63.out) hb); have n2_ := Aside0.mk (Kd.R_below (rr_ HO_68.out) hb); have n3_ := Aside0.mk (below_step bw_ hb); clear HO_60; clear HO_63; clear HO_68; clear HB; have HO_60 := n0_; have HO_63 := n1_; have HO_68 := n2_; have HB := n3_; clear n0_ n1_ n2_ n3_; (try clear hb); (try clear hb2); (try clear hk); (try clear hi)))
                 repeat (go_quiet (first | (go_at_call 18; (with_reducible refine (impl_ChaptersText.calls kj361 _ _ t541 t574 true _ ?side1 ?side2 ?side3 A395.out).mono ?_); (case side1 => exact cr_ (Kd.R_reads' HO_68.out).2.2); (case side2 => exact (Kd.R_reads' HO_68.out).2.1); (case side3 => exact TabC.below HT.out bw_); rintro e w398 ⟨rfl, hb⟩; have n0_ := Aside0.mk (Kd.R_below (rr_ HO_60.out) hb); have n1_ := Aside0.mk (Kd.R_below (rr_ HO_63.out) hb); have n2_ := Aside0.mk (Kd.R_below (rr_ HO_68.out) hb); have n3_ := Aside0.mk (below_step bw_ hb); clear HO_60; clear HO_63; clear HO_68; clear HB; have HO_60 := n0_; have HO_63 := n1_; have HO_68 := n2_; have HB := n3_; clear n0_ n1_ n2_ n3_; (try clear hb); (try clear hb2); (try clear hk); (try clear hi))); try go_wp2)
                 go_ret
                 exact ⟨by first | rfl | (simp [errW_none, errW_some] <;> rfl) | (simp [*, errW_none, errW_some] <;> rfl), bw_⟩
                ·replace c396 := Bool.eq_false_iff.mpr c396
                 subst c396
                 have H1 : (some false) = some r := by rw [if_neg (show ¬ (false = true) by decide)] at H; exact H
                 clear H
                 have H := H1
                 clear H1
                 obtain rfl := Option.some.inj H
                 exact absurd hr_.out (by decide)
               ·replace c394 := Bool.eq_false_iff.mpr c394
                subst c394
                have H1 : (some true) = some r := by rw [if_neg (show ¬ (false = true) by decide)] at H; exact H
                clear H
                have H := H1
                clear H1
                obtain rfl := Option.some.inj H
                simp only [Option.some.injEq, Prod.mk.injEq] at H
                obtain ⟨rfl⟩ := H
                go_wp2
                repeat (go_quiet (fail); try go_wp2)
                go_ret
                exact ⟨by first | rfl | (simp [errW_none, errW_some] <;> rfl) | (simp [*, errW_none, errW_some] <;> rfl), bw_⟩

end Go.Proofs.YtpedlkhfeoeogaaGreatDoor.PFnChaptersBegin
