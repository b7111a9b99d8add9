import Derived.Test.YtaodhgpkdchknaaOwnCan
namespace Go.Proofs.Ytaodhgpkdchknaa.Own
open Go.RowKit Go.Proofs.YtaodhgpkdchknaaW.PrintWords Go.Proofs.YtaodhgpkdchknaaW.PrintLast Go.Proofs.YtaodhgpkdchknaaW.PrintMore
attribute [local go_sem] max2_int min2_int max_two min_two max_three min_three max_four min_four
set_option linter.unusedVariables false
set_option linter.unusedSimpArgs false
section
open Go.Proofs.Ytaodhgpkdchknaa.PFnExactStretchSpaces
theorem lnFits_go (A0 : Option Addr) (n c0 : Nat) (l0 : List Int) (wide : Int) (r : Bool) (w : World) (hr0 : Kd.C (Kd.int .i64) w A0 n l0) (hc0 : n ≤ c0) (hn : n < 1073741824) (hr : settingB l0 wide = r) :
    Calls Try.prog 50 #[.slice A0 n c0, .int .i64 wide] w fun e w' => e = .returned (.bool r) ∧ Drawn0 w w' := by
  obtain rfl : l0.length = n := hr0.1
  subst hr
  obtain ⟨k, hk⟩ := (St.lnFits_ev l0 wide (by omega)).rounds
  exact spec_lnFits.calls k A0 c0 l0 wide _ w hr0 hc0 hk
end
set_option maxHeartbeats 8000000 in
set_option maxRecDepth 100000 in
theorem specBreaks_go (A0 : Option Addr) (n c0 : Nat) (l0 : List Int) (wide : Int) (w : World) (hr0 : Kd.C (Kd.int .i64) w A0 n l0) (hc0 : n ≤ c0) (hn : n < 1073741824) :
    Calls Try.prog 23 #[.slice A0 n c0, .int .i64 wide] w fun e w' => e = .returned (.tuple #[.int .i64 (breaksM l0 wide), .bool (settingB l0 wide)]) ∧ Below w.heap.size w w' := by
  obtain rfl : l0.length = n := hr0.1
  have HR0 := Aside0.mk hr0
  have HC0 := Aside0.mk hc0
  have HN := Aside0.mk hn
  have HB := Aside0.mk (Below.refl w.heap.size w)
  clear hr0 hc0 hn
  by_cases hg : settingB l0 wide = true
  · have HW := Aside0.mk (settingB_true hg).1
    have HWW := Aside0.mk (settingB_true hg).2.1
    have HG := Aside0.mk hg
    have hM : breaksM l0 wide = canM l0 wide wide := if_pos hg
    rw [hM, hg]
    clear hM hg
    go_enter Try.func23, Try.ntmps23
    go_wp2_with (first | (go_at_call 50; (with_reducible refine (lnFits_go _ _ _ l0 wide true _ ?side1 HC0.out HN.out HG.out).mono ?_); (case side1 => repeat (first | exact HR0.out | (with_reducible refine Kd.C_alloc ?_ _) | (with_reducible refine Kd.C_drewN ?_ _) | (with_reducible refine Kd.C_drew ?_))); rintro e w' ⟨rfl, ⟨nd, rfl⟩⟩) | ((with_reducible refine gate_callee (f := 51) rfl ?_); refine goesL_ (some 13) rfl rfl Try.func51 (by kernel_rfl) rfl #[.slice A0 l0.length c0, .int .i64 wide, .int .i64 wide] rfl (by (try simp only [List.map_toArray, List.map_cons, List.map_nil]); first | done | rfl) ?_; (with_reducible refine (lnCan_go _ _ _ l0 wide wide _ ?side2 HC0.out HW.out HWW.out).mono ?_); (case side2 => repeat (first | exact HR0.out | (with_reducible refine Kd.C_alloc ?_ _) | (with_reducible refine Kd.C_drewN ?_ _) | (with_reducible refine Kd.C_drew ?_))); rintro e w12 ⟨rfl, hb⟩; refine ⟨_, rfl, ?_⟩; have HBq := Aside0.mk (below_step (by repeat (first | (with_reducible first | exact HB.out | apply below_alloc | apply pw_below_drewN | apply below_drew1) | exact HB.out)) hb); clear HB; have HB := HBq; clear HBq hb))
    go_ret2
    exact ⟨rfl, (by repeat (first | (with_reducible first | exact HB.out | apply below_alloc | apply pw_below_drewN | apply below_drew1) | exact HB.out))⟩
  · have HG := Aside0.mk (Bool.eq_false_iff.mpr hg)
    have hM : breaksM l0 wide = 0 := if_neg hg
    rw [hM, HG.out]
    clear hM hg
    go_enter Try.func23, Try.ntmps23
    go_wp2_with (first | (go_at_call 50; (with_reducible refine (lnFits_go _ _ _ l0 wide false _ ?side1 HC0.out HN.out HG.out).mono ?_); (case side1 => repeat (first | exact HR0.out | (with_reducible refine Kd.C_alloc ?_ _) | (with_reducible refine Kd.C_drewN ?_ _) | (with_reducible refine Kd.C_drew ?_))); rintro e w' ⟨rfl, ⟨nd, rfl⟩⟩))
    go_ret2
    exact ⟨rfl, (by repeat (first | (with_reducible first | exact HB.out | apply below_alloc | apply pw_below_drewN | apply below_drew1) | exact HB.out))⟩
end Go.Proofs.Ytaodhgpkdchknaa.Own
