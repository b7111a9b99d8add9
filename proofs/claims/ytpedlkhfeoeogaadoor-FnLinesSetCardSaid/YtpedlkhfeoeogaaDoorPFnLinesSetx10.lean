-- Printed by a program of this repository (wip/xprint.py), over contracts of its own for what the kit's print does not take. Lean checks it.
import Derived.Test.YtpedlkhfeoeogaaDoorPFnLinesSetx0
import Derived.Test.YtpedlkhfeoeogaaDoorPFnLinesSetx3
import Derived.Test.YtpedlkhfeoeogaaDoorPFnLinesSetx9
namespace Go.Proofs.YtpedlkhfeoeogaaDoor.PFnLinesSet
open Go.Proofs.YtpedlkhfeoeogaaDoor.PLnB Go.RowKit Go.Proofs.YtpedlkhfeoeogaaDoorW.PrintWords Go.Proofs.YtpedlkhfeoeogaaDoorW.PrintLast Go.Proofs.YtpedlkhfeoeogaaDoorW.PrintMore
attribute [local go_sem] max2_int min2_int max_two min_two max_three min_three max_four min_four   -- for this text's walks alone
set_option linter.unusedVariables false
set_option linter.unusedSimpArgs false

/-! ### spec_SetText: function 59 -/
mutual
def spec_SetText.j0 : Nat → ByteArray → Int → Bool → Option (List ByteArray × Bool)
 | 0, _, _, _ => none
 | k + 1, x0, x1, x23 => if x23 = true then (some (([] : List ByteArray), false)) else ((spec_lnParts.f k x0).bind fun t449 => ((spec_lnLengths.f k t449).bind fun t452 => ((spec_lnFill.f k t452 x1).bind fun t455 => (spec_SetText.l0 k t449 ([] : List ByteArray) t455 (t455.length : Int) 0))))
def spec_SetText.l0 : Nat → List ByteArray → List ByteArray → List Int → Int → Int → Option (List ByteArray × Bool)
 | 0, _, _, _, _, _ => none
 | k + 1, x6, x7, x29, x30, x31 => if x31 < x30 then (if 0 ≤ x31 then (if x31 < (x29.length : Int) then (if 0 < (x6.length : Int) then (if 1 ≤ (rd x29 x31) then (if (rd x29 x31) ≤ (x6.length : Int) then ((some ((x6.take ((rd x29 x31) : Int).toNat).drop 1 : List ByteArray)).bind fun y460 => (spec_SetText.l1 k x6 x7 (rd x29 x31) (rdOf ByteArray.empty x6 0) x29 x30 x31 y460 (y460.length : Int) 0)) else (none)) else (none)) else (none)) else (none)) else (none)) else (some (x7, true))
def spec_SetText.l1 : Nat → List ByteArray → List ByteArray → Int → ByteArray → List Int → Int → Int → List ByteArray → Int → Int → Option (List ByteArray × Bool)
 | 0, _, _, _, _, _, _, _, _, _, _ => none
 | k + 1, x6, x7, x9, x10, x29, x30, x31, x40, x41, x42 => if x42 < x41 then (if 0 ≤ x42 then (if x42 < (x40.length : Int) then (if 1 + (rdOf ByteArray.empty x40 x42).size ≤ 9223372036854775807 then (if x10.size + ((⟨#[32]⟩ : ByteArray) ++ (rdOf ByteArray.empty x40 x42)).size ≤ 9223372036854775807 then (spec_SetText.l1 k x6 x7 x9 (x10 ++ ((⟨#[32]⟩ : ByteArray) ++ (rdOf ByteArray.empty x40 x42))) x29 x30 x31 x40 x41 (wrap64 (x42 + 1))) else (none)) else (none)) else (none)) else (none)) else (if x7.length < 8796093022208 then (if 0 ≤ x9 then (if x9 ≤ (x6.length : Int) then (spec_SetText.l0 k (x6.drop (x9 : Int).toNat) (x7 ++ [x10]) x29 x30 (wrap64 (x31 + 1))) else (none)) else (none)) else (none))
end
def spec_SetText.f (k : Nat) (a0 : ByteArray) (a1 : Int) : Option (List ByteArray × Bool) := (spec_lnText.f k a0).bind fun t441 => (if t441 = true then ((spec_lnParts.f k a0).bind fun t442 => ((spec_lnLengths.f k t442).bind fun t445 => ((spec_lnFits.f k t445 a1).bind fun t448 => (spec_SetText.j0 k a0 a1 (!t448))))) else (spec_SetText.j0 k a0 a1 true))
set_option maxHeartbeats 8000000 in
set_option maxRecDepth 100000 in
theorem spec_SetText.calls (k : Nat) (a0 : ByteArray) (a1 : Int) (r1 : List ByteArray) (r2 : Bool) (w : World) (h : spec_SetText.f k a0 a1 = some (r1, r2)) :
  Calls Tryd.prog 59 #[.string a0, .int .i64 a1] w fun e w' => ∃ v0_ : Value, e = .returned (.tuple #[v0_, .bool r2]) ∧ Kd.R Kd.string 9 w' w.heap.size (fun _ => True) v0_ r1 ∧ Below w.heap.size w w' := by
 have HB := Aside0.mk (Below.refl w.heap.size w)
 have H : ((spec_lnText.f k a0).bind fun t441 => (if t441 = true then ((spec_lnParts.f k a0).bind fun t442 => ((spec_lnLengths.f k t442).bind fun t445 => ((spec_lnFits.f k t445 a1).bind fun t448 => (spec_SetText.j0 k a0 a1 (!t448))))) else (spec_SetText.j0 k a0 a1 true))) = some (r1, r2) := h
 clear h
 have HC3 := Aside0.mk H
 clear H
 go_enter Tryd.func59, Tryd.ntmps59
 go_upto_region 1 with (fail)
 go_cut [23] (fun v23 wc => ∃ (kq : Nat) (x23_2 : Bool), v23 = .bool x23_2 ∧ Aside0 (spec_SetText.j0 kq a0 a1 x23_2 = some (r1, r2)) ∧ Aside0 (kq ≤ k) ∧ Aside0 (Below w.heap.size w wc))
 case first =>
  have H := HC3.out
  clear HC3
  replace H := Option.bind_eq_some_iff.mp H
  obtain ⟨t441, A40, H⟩ := H
  replace H : (if t441 = true then ((spec_lnParts.f k a0).bind fun t442 => ((spec_lnLengths.f k t442).bind fun t445 => ((spec_lnFits.f k t445 a1).bind fun t448 => (spec_SetText.j0 k a0 a1 (!t448))))) else (spec_SetText.j0 k a0 a1 true)) = some (r1, r2) := H
  have A4 := Aside0.mk A40
  clear A40
  by_cases c5 : t441 = true
  ·subst c5
   have H1 : ((spec_lnParts.f k a0).bind fun t442 => ((spec_lnLengths.f k t442).bind fun t445 => ((spec_lnFits.f k t445 a1).bind fun t448 => (spec_SetText.j0 k a0 a1 (!t448))))) = some (r1, r2) := by rw [if_pos rfl] at H; exact H
   clear H
   have H := H1
   clear H1
   replace H := Option.bind_eq_some_iff.mp H
   obtain ⟨t442, A60, H⟩ := H
   replace H : ((spec_lnLengths.f k t442).bind fun t445 => ((spec_lnFits.f k t445 a1).bind fun t448 => (spec_SetText.j0 k a0 a1 (!t448)))) = some (r1, r2) := H
   have A6 := Aside0.mk A60
   clear A60
   replace H := Option.bind_eq_some_iff.mp H
   obtain ⟨t445, A70, H⟩ := H
   replace H : ((spec_lnFits.f k t445 a1).bind fun t448 => (spec_SetText.j0 k a0 a1 (!t448))) = some (r1, r2) := H
   have A7 := Aside0.mk A70
   clear A70
   replace H := Option.bind_eq_some_iff.mp H
   obtain ⟨t448, A80, H⟩ := H
   replace H : (spec_SetText.j0 k a0 a1 (!t448)) = some (r1, r2) := H
   have A8 := Aside0.mk A80
   clear A80
   have H' := Aside0.mk H
   clear H
   go_wp2_with (first | ((with_reducible refine gate_callee (f := 138) rfl ?_); refine goesL_ (some 14) rfl rfl Tryd.func138 (by kernel_rfl) rfl #[.string a0] rfl (by (try simp only [List.map_toArray, List.map_cons, List.map_nil]); first | done | rfl | (simp only [List.length_drop, List.length_take]; rfl)) ?_; (with_reducible refine (spec_lnText.calls k a0 true _ A4.out).mono ?_); rintro e w' ⟨rfl, ⟨nd, rfl⟩⟩; refine ⟨_, rfl, ?_⟩) | (go_at_call 140; (with_reducible refine (spec_lnParts.calls k a0 t442 _ A6.out).mono ?_); rintro e w9 ⟨v443, rfl, ho0, hb⟩; have n0_ := Aside0.mk (Kd.R_lower ho0 (below_size bw_)); have n1_ := Aside0.mk (below_step bw_ hb); clear HB; have HO444 := n0_; have HB := n1_; clear n0_ n1_; (try clear hb); (try clear hb2); (try clear hk); (try clear hi); (try clear ho0); obtain ⟨Ao10, co10, eo10⟩ := Kd.R_slice HO444.out; subst eo10) | (go_at_call 139; (with_reducible refine (spec_lnLengths.calls k _ _ t442 t445 _ ?side1 ?side2 A7.out).mono ?_); (case side1 => exact cr_ (Kd.R_reads' HO444.out).2.2); (case side2 => exact (Kd.R_reads' HO444.out).2.1); rintro e w11 ⟨v446, rfl, ho0, hb⟩; have n0_ := Aside0.mk (Kd.R_below (rr_ HO444.out) hb); have n1_ := Aside0.mk (Kd.R_lower ho0 (below_size bw_)); have n2_ := Aside0.mk (below_step bw_ hb); clear HO444; clear HB; have HO444 := n0_; have HO447 := n1_; have HB := n2_; clear n0_ n1_ n2_; (try clear hb); (try clear hb2); (try clear hk); (try clear hi); (try clear ho0); obtain ⟨Ao12, co12, eo12⟩ := Kd.R_slice HO447.out; subst eo12) | (go_at_call 119; (with_reducible refine (spec_lnFits.calls k _ _ t445 a1 t448 _ ?side1 ?side2 A8.out).mono ?_); (case side1 => exact cr_ (Kd.R_reads' HO447.out).2.2); (case side2 => exact (Kd.R_reads' HO447.out).2.1); rintro e w' ⟨rfl, ⟨nd, rfl⟩⟩))
   go_meet
   case rel => exact ⟨_, (!t448), rs_, H', ⟨by first | omega | exact Nat.le_refl _⟩, ⟨bw_⟩⟩
  ·replace c5 := Bool.eq_false_iff.mpr c5
   subst c5
   have H1 : (spec_SetText.j0 k a0 a1 true) = some (r1, r2) := by rw [if_neg (show ¬ (false = true) by decide)] at H; exact H
   clear H
   have H := H1
   clear H1
   have H' := Aside0.mk H
   clear H
   go_wp2_with (first | ((with_reducible refine gate_callee (f := 138) rfl ?_); refine goesL_ (some 14) rfl rfl Tryd.func138 (by kernel_rfl) rfl #[.string a0] rfl (by (try simp only [List.map_toArray, List.map_cons, List.map_nil]); first | done | rfl | (simp only [List.length_drop, List.length_take]; rfl)) ?_; (with_reducible refine (spec_lnText.calls k a0 false _ A4.out).mono ?_); rintro e w' ⟨rfl, ⟨nd, rfl⟩⟩; refine ⟨_, rfl, ?_⟩))
   go_meet
   case rel => exact ⟨_, (true), rs_, H', ⟨by first | omega | exact Nat.le_refl _⟩, ⟨bw_⟩⟩
 case rest =>
  clear HC3
  (try clear c1); (try clear p2); (try clear c5)
  obtain ⟨kq, x23_2, rfl, HA, HJ2, HB⟩ := hcut
  cases kq with
  | zero => exact absurd HA.out (by simp [spec_SetText.j0])
  | succ kj2 =>
   have H := HA.out
   clear HA
   simp only [spec_SetText.j0] at H
   by_cases c13 : x23_2 = true
   ·subst c13
    have H1 : (some (([] : List ByteArray), false)) = some (r1, r2) := by rw [if_pos rfl] at H; exact H
    clear H
    have H := H1
    clear H1
    simp only [Option.some.injEq, Prod.mk.injEq] at H
    obtain ⟨rfl, rfl⟩ := H
    go_wp2
    go_ret2
    exact ⟨_, by first | rfl | (simp [errW_none, errW_some] <;> rfl) | (simp [*, errW_none, errW_some] <;> rfl), by first | exact Kd.R_nil _ _ _ _ _ | exact Kd.N_nil _ _ _ _ _ | exact Kd.V_nil _ _ _ _ _ | exact Kd.Q_nil _ _ _ _ _ | exact Kd.S_nil _ _ _ _ _, bw_⟩
   ·replace c13 := Bool.eq_false_iff.mpr c13
    subst c13
    have H1 : ((spec_lnParts.f kj2 a0).bind fun t449 => ((spec_lnLengths.f kj2 t449).bind fun t452 => ((spec_lnFill.f kj2 t452 a1).bind fun t455 => (spec_SetText.l0 kj2 t449 ([] : List ByteArray) t455 (t455.length : Int) 0)))) = some (r1, r2) := by rw [if_neg (show ¬ (false = true) by decide)] at H; exact H
    clear H
    have H := H1
    clear H1
    replace H := Option.bind_eq_some_iff.mp H
    obtain ⟨t449, A140, H⟩ := H
    replace H : ((spec_lnLengths.f kj2 t449).bind fun t452 => ((spec_lnFill.f kj2 t452 a1).bind fun t455 => (spec_SetText.l0 kj2 t449 ([] : List ByteArray) t455 (t455.length : Int) 0))) = some (r1, r2) := H
    have A14 := Aside0.mk A140
    clear A140
    replace H := Option.bind_eq_some_iff.mp H
    obtain ⟨t452, A150, H⟩ := H
    replace H : ((spec_lnFill.f kj2 t452 a1).bind fun t455 => (spec_SetText.l0 kj2 t449 ([] : List ByteArray) t455 (t455.length : Int) 0)) = some (r1, r2) := H
    have A15 := Aside0.mk A150
    clear A150
    replace H := Option.bind_eq_some_iff.mp H
    obtain ⟨t455, A160, H⟩ := H
    replace H : (spec_SetText.l0 kj2 t449 ([] : List ByteArray) t455 (t455.length : Int) 0) = some (r1, r2) := H
    have A16 := Aside0.mk A160
    clear A160
    have H' := Aside0.mk H
    clear H
    go_wp2_with (first | ((with_reducible refine gate_callee (f := 140) rfl ?_); refine goesL_ (some 25) rfl rfl Tryd.func140 (by kernel_rfl) rfl #[.string a0] rfl (by (try simp only [List.map_toArray, List.map_cons, List.map_nil]); first | done | rfl | (simp only [List.length_drop, List.length_take]; rfl)) ?_; (with_reducible refine (spec_lnParts.calls kj2 a0 t449 _ A14.out).mono ?_); rintro e w17 ⟨v450, rfl, ho0, hb⟩; refine ⟨_, rfl, ?_⟩; have n0_ := Aside0.mk (Kd.R_lower ho0 (below_size bw_)); have n1_ := Aside0.mk (below_step bw_ hb); clear HB; have HO451 := n0_; have HB := n1_; clear n0_ n1_; (try clear hb); (try clear hb2); (try clear hk); (try clear hi); (try clear ho0); obtain ⟨Ao18, co18, eo18⟩ := Kd.R_slice HO451.out; subst eo18) | ((with_reducible refine gate_callee (f := 139) rfl ?_); refine goesL_ (some 27) rfl rfl Tryd.func139 (by kernel_rfl) rfl #[.slice Ao18 t449.length co18] rfl (by (try simp only [List.map_toArray, List.map_cons, List.map_nil]); first | done | rfl | (simp only [List.length_drop, List.length_take]; rfl)) ?_; (with_reducible refine (spec_lnLengths.calls kj2 _ _ t449 t452 _ ?side1 ?side2 A15.out).mono ?_); (case side1 => exact cr_ (Kd.R_reads' HO451.out).2.2); (case side2 => exact (Kd.R_reads' HO451.out).2.1); rintro e w19 ⟨v453, rfl, ho0, hb⟩; refine ⟨_, rfl, ?_⟩; have n0_ := Aside0.mk (Kd.R_below (rr_ HO451.out) hb); have n1_ := Aside0.mk (Kd.R_lower ho0 (below_size bw_)); have n2_ := Aside0.mk (below_step bw_ hb); clear HO451; clear HB; have HO451 := n0_; have HO454 := n1_; have HB := n2_; clear n0_ n1_ n2_; (try clear hb); (try clear hb2); (try clear hk); (try clear hi); (try clear ho0); obtain ⟨Ao20, co20, eo20⟩ := Kd.R_slice HO454.out; subst eo20) | ((with_reducible refine gate_callee (f := 120) rfl ?_); refine goesL_ (some 29) rfl rfl Tryd.func120 (by kernel_rfl) rfl #[.slice Ao20 t452.length co20, .int .i64 a1] rfl (by (try simp only [List.map_toArray, List.map_cons, List.map_nil]); first | done | rfl | (simp only [List.length_drop, List.length_take]; rfl)) ?_; (with_reducible refine (spec_lnFill.calls kj2 (fun k_ => some k_ = (.slice Ao20 t452.length co20 : Value).ownBlock) _ _ t452 a1 t455 _ ?side1 A16.out).mono ?_); (case side1 => exact Kd.R_V (Kd.R_tight rfl (Kd.R_apart' (HO454.out) (Kd.R_typed HO451.out) (by decide)))); rintro e w21 ⟨v456, rfl, ho0, hb⟩; refine ⟨_, rfl, ?_⟩; have n0_ := Aside0.mk (Kd.R_below (rr_ HO451.out) hb); have n1_ := Aside0.mk (Kd.R_elder' (rr_ HO454.out) (Kd.R_base ho0) hb); have n2_ := Aside0.mk (Kd.R_lower (Kd.R_new' (Kd.R_mono (ok' := fun k_ => True) ho0 (fun _ hk_ => trivial)) (Kd.R_lt (rr_ HO454.out))) (below_size bw_)); have n3_ := Aside0.mk (below_step bw_ hb); clear HO451; clear HO454; clear HB; have HO451 := n0_; have HO454 := n1_; have HO457 := n2_; have HB := n3_; clear n0_ n1_ n2_ n3_; (try clear hb); (try clear hb2); (try clear hk); (try clear hi); (try clear ho0); obtain ⟨Ao22, co22, eo22⟩ := Kd.R_slice HO457.out; subst eo22))
    go_loopg [6, 7, 31] kj2 (fun kq v6 v7 v31 w' => ∃ (x6_2 : List ByteArray) (x7_2 : List ByteArray) (x31_2 : Int), v31 = .int .i64 x31_2 ∧ Aside0 (spec_SetText.l0 kq x6_2 x7_2 t455 (t455.length : Int) x31_2 = some (r1, r2)) ∧ Aside0 (kq ≤ kj2) ∧ Aside0 (Kd.Q Kd.string 9 w' w.heap.size (fun k_ => some k_ ≠ (v7 : Value).ownBlock) v6 x6_2) ∧ Aside0 (Kd.R Kd.string 9 w' w.heap.size (fun k_ => some k_ ≠ (v6 : Value).ownBlock) v7 x7_2) ∧ Aside0 (Kd.R (Kd.int .i64) 3 w' w.heap.size (fun _ => True) (.slice Ao22 t455.length co22) t455) ∧ Aside0 (Below w.heap.size w w'))
    case atStart => exact ⟨(t449), (([] : List ByteArray)), (0), rs_, H', ⟨Nat.le_refl _⟩, ⟨Kd.Q_of_R (by (with_reducible repeat (first | apply Kd.R_alloc | apply Kd.R_drewN | apply Kd.R_drew)); exact Kd.R_mono HO451.out (fun _ hk => (by simp [Value.ownBlock])))⟩, ⟨by first | exact Kd.R_nil _ _ _ _ _ | exact Kd.N_nil _ _ _ _ _ | exact Kd.V_nil _ _ _ _ _ | exact Kd.Q_nil _ _ _ _ _ | exact Kd.S_nil _ _ _ _ _⟩, ⟨by (with_reducible repeat (first | apply Kd.R_alloc | apply Kd.R_drewN | apply Kd.R_drew)); exact Kd.R_mono HO457.out (fun _ hk => trivial)⟩, ⟨bw_⟩⟩
    case round =>
     clear H'
     (try clear c1); (try clear p2); (try clear c5); (try clear c12); (try clear c13); (try clear c14)
     obtain ⟨x6_2, x7_2, x31_2, rfl, HA, HK2, HO_6, HO_7, HO_29, HB⟩ := hrel
     cases gk with
     | zero => exact absurd HA.out (by simp [spec_SetText.l0])
     | succ k2 =>
      have H := HA.out
      clear HA
      simp only [spec_SetText.l0] at H
      by_cases c23 : x31_2 < (t455.length : Int)
      ·rw [if_pos c23] at H
       have c23b0 : decide (x31_2 < (t455.length : Int)) = true := decide_eq_true c23
       clear c23
       by_cases c24 : 0 ≤ x31_2
       ·rw [if_pos c24] at H
        have c24b0 : decide (0 ≤ x31_2) = true := decide_eq_true c24
        clear c24
        by_cases c25 : x31_2 < (t455.length : Int)
        ·rw [if_pos c25] at H
         have c25b0 : decide (x31_2 < (t455.length : Int)) = true := decide_eq_true c25
         clear c25
         by_cases c26 : 0 < (x6_2.length : Int)
         ·rw [if_pos c26] at H
          have c26b0 : decide (0 < (x6_2.length : Int)) = true := decide_eq_true c26
          have c26b1 : decide (0 < x6_2.length) = true := decide_eq_true (by omega)
          clear c26
          by_cases c27 : 1 ≤ (rd t455 x31_2)
          ·rw [if_pos c27] at H
           have c27b0 := eq_true c27
           have c27b1 : decide (1 ≤ (rd t455 x31_2)) = true := decide_eq_true c27
           clear c27
           by_cases c28 : (rd t455 x31_2) ≤ (x6_2.length : Int)
           ·rw [if_pos c28] at H
            have c28b0 := eq_true c28
            have c28b1 : decide ((rd t455 x31_2) ≤ (x6_2.length : Int)) = true := decide_eq_true c28
            clear c28
            obtain ⟨y460, hy460⟩ : ∃ y_ : List ByteArray, y_ = ((x6_2.take ((rd t455 x31_2) : Int).toNat).drop 1) := ⟨_, rfl⟩
            replace H : (spec_SetText.l1 k2 x6_2 x7_2 (rd t455 x31_2) (rdOf ByteArray.empty x6_2 0) t455 (t455.length : Int) x31_2 y460 (y460.length : Int) 0) = some (r1, r2) := by first | (rw [hy460]; with_reducible exact H) | (have H2_ := (Option.bind_some _ _).symm.trans H; rw [hy460]; with_reducible exact H2_) | (have H2_ := (Option.bind_some _ _).symm.trans H; with_reducible exact H2_) | with_reducible exact H | (rw [hy460]; exact H) | exact H
            have Ny460 := Aside0.mk hy460
            clear hy460
            have H' := Aside0.mk H
            clear H
            have p458 : 0 ≤ (x31_2 : Int) := of_decide_eq_true (by first | (with_reducible assumption) | assumption)
            have q458 : x31_2 < (t455.length : Int) := of_decide_eq_true (by first | (with_reducible assumption) | assumption)
            obtain ⟨ad458, e458, hx458_0⟩ := Kd.at_int (Kd.R_reads' HO_29.out).2.2 x31_2 p458 q458
            cases e458
            replace p458 := eq_true p458
            replace q458 := eq_true q458
            obtain ⟨Ao29, co29, eo29, _⟩ := Kd.Q_slice HO_6.out
            subst eo29
            have p459 : 0 ≤ (0 : Int) := (by omega)
            have q459 : 0 < (x6_2.length : Int) := of_decide_eq_true (by first | (with_reducible assumption) | assumption)
            obtain ⟨ad459, e459, hx459_0⟩ := Kd.at_string (Kd.Q_reads' HO_6.out).2.2 0 p459 q459
            cases e459
            have qi459 : (0 < x6_2.length) = True := eq_true (by omega)
            (try rw [show ((0 : Int)).toNat = 0 from rfl] at hx459_0)
            (try rw [Addr.add_zero'] at hx459_0)
            replace p459 := eq_true p459
            replace q459 := eq_true q459
            have q30 : ((rd t455 x31_2) : Int) ≤ ((x6_2.length : Int) : Int) := of_decide_eq_true (by first | (with_reducible assumption) | assumption)
            obtain ⟨i030, hi030, _, hsz30, _⟩ := info_parts info9
            have hroom30 : x6_2.length ≤ co29 := (Kd.Q_reads' HO_6.out).2.1
            have hC30 : Kd.C Kd.string _ (some ad459) x6_2.length x6_2 := (Kd.Q_reads' HO_6.out).2.2
            have ql30 : (1 : Int) ≤ ((rd t455 x31_2) : Int) := of_decide_eq_true (by first | (with_reducible assumption) | assumption)
            have hcut30 := cut_mid (P := Tryd.prog) 37 9 .i64 .i64 Tryd.underlying37 hi030 1 hsz30 (some ad459) x6_2.length co29 1 (rd t455 x31_2) (by omega) ql30 q30 hroom30
            have hr30 := Kd.C_mid (lo := (1 : Int).toNat) (hi := ((rd t455 x31_2) : Int).toNat) (c := co29) hC30 (by omega) (by omega) hroom30
            obtain ⟨A30, hA30⟩ : ∃ A1, A1 = (if co29 = (1 : Int).toNat then (some ad459) else ((some ad459) : Option Addr).map (·.add ((1 : Int).toNat * 1))) := ⟨_, rfl⟩
            obtain ⟨c30, hc30⟩ : ∃ c1, c1 = co29 - (1 : Int).toNat := ⟨_, rfl⟩
            have hy30 : y460.length = ((rd t455 x31_2) : Int).toNat - (1 : Int).toNat := (by rw [Ny460.out, List.length_drop, List.length_take] <;> omega)
            rw [show ((x6_2).take ((rd t455 x31_2) : Int).toNat).drop (1 : Int).toNat = y460 from Ny460.out.symm] at hr30
            replace hr30 : Kd.C Kd.string _ A30 y460.length y460 := (by rw [hA30]; exact hr30)
            rw [← hy30, ← hA30, ← hc30] at hcut30
            have HR463 := Aside0.mk hr30
            have HC463 := Aside0.mk (show y460.length ≤ c30 from by rw [hy30, hc30]; exact Nat.sub_le_sub_right (Nat.le_trans (by omega) hroom30) _)
            clear hr30 hC30 hroom30 hi030 hsz30 hc30
            have KY30 := Aside0.mk hy30
            have KA30 := Aside0.mk hA30
            clear hy30 hA30
            have KL30 := Aside0.mk (show ((rd t455 x31_2) : Int).toNat ≤ x6_2.length from by omega)
            have KM30 := Aside0.mk (show 1 ≤ ((rd t455 x31_2) : Int).toNat from by omega)
            replace q30 := eq_true q30
            go_wp2
            go_loopg [10, 42] k2 (fun kq v10 v42 w' => ∃ (x10_3 : ByteArray) (x42_3 : Int), v10 = .string x10_3 ∧ v42 = .int .i64 x42_3 ∧ Aside0 (spec_SetText.l1 kq x6_2 x7_2 (rd t455 x31_2) x10_3 t455 (t455.length : Int) x31_2 y460 (y460.length : Int) x42_3 = some (r1, r2)) ∧ Aside0 (kq ≤ k2) ∧ Aside0 (Kd.Q Kd.string 9 w' w.heap.size (fun k_ => some k_ ≠ (u7 : Value).ownBlock) (.slice (some ad459) x6_2.length co29) x6_2) ∧ Aside0 (Kd.R Kd.string 9 w' w.heap.size (fun k_ => some k_ ≠ ((.slice (some ad459) x6_2.length co29) : Value).ownBlock) u7 x7_2) ∧ Aside0 (Kd.R (Kd.int .i64) 3 w' w.heap.size (fun _ => True) (.slice (some ad458) t455.length co22) t455) ∧ Aside0 (Kd.C Kd.string w' A30 y460.length y460) ∧ Aside0 (Below w.heap.size w w'))
            case atStart => exact ⟨(rdOf ByteArray.empty x6_2 0), (0), rs_, rs_, H', ⟨Nat.le_refl _⟩, ⟨by (with_reducible repeat (first | apply Kd.Q_alloc | apply Kd.Q_drewN | apply Kd.Q_drew)); exact HO_6.out⟩, ⟨rr_ HO_7.out⟩, ⟨rr_ HO_29.out⟩, ⟨by repeat (first | (with_reducible exact HR463.out) | (with_reducible refine Kd.C_alloc ?_ _) | (with_reducible refine Kd.C_drewN ?_ _) | (with_reducible refine Kd.C_drew ?_) | exact HR463.out)⟩, ⟨bw_⟩⟩
            case round =>
             clear H'
             (try clear c1); (try clear c2); (try clear p2); (try clear c3); (try clear q3); (try clear p4); (try clear q4); (try clear hx4); (try clear qi4); (try clear c5); (try clear c12); (try clear c13); (try clear c14); (try clear c23); (try clear c23b0); (try clear c24); (try clear c24b0); (try clear c25); (try clear c25b0); (try clear c26); (try clear c26b0); (try clear c26b1); (try clear c27); (try clear c27b0); (try clear c27b1); (try clear c28); (try clear c28b0); (try clear c28b1); (try clear c30); (try clear q30); (try clear hx458_0); (try clear hx459_0); (try clear p458); (try clear p459); (try clear q458); (try clear q459)
             obtain ⟨x10_3, x42_3, rfl, rfl, HA, HK3, HO_6, HO_7, HO_29, HR463, HB⟩ := hrel
             cases gk with
             | zero => exact absurd HA.out (by simp [spec_SetText.l1])
             | succ k3 =>
              have H := HA.out
              clear HA
              simp only [spec_SetText.l1] at H
              by_cases c31 : x42_3 < (y460.length : Int)
              ·rw [if_pos c31] at H
               have c31b0 : decide (x42_3 < (y460.length : Int)) = true := decide_eq_true c31
               clear c31
               by_cases c32 : 0 ≤ x42_3
               ·rw [if_pos c32] at H
                have c32b0 : decide (0 ≤ x42_3) = true := decide_eq_true c32
                clear c32
                by_cases c33 : x42_3 < (y460.length : Int)
                ·rw [if_pos c33] at H
                 have c33b0 : decide (x42_3 < (y460.length : Int)) = true := decide_eq_true c33
                 clear c33
                 by_cases c34 : 1 + (rdOf ByteArray.empty y460 x42_3).size ≤ 9223372036854775807
                 ·rw [if_pos c34] at H
                  have c34b0 := eq_true c34
                  have c34b1 : decide (1 + (rdOf ByteArray.empty y460 x42_3).size ≤ 9223372036854775807) = true := decide_eq_true c34
                  try have c34b2 : (9223372036854775807 < 1 + (rdOf ByteArray.empty y460 x42_3).size) = False := eq_false (Nat.not_lt.2 c34)
                  by_cases c35 : x10_3.size + ((⟨#[32]⟩ : ByteArray) ++ (rdOf ByteArray.empty y460 x42_3)).size ≤ 9223372036854775807
                  ·rw [if_pos c35] at H
                   have c35b0 := eq_true c35
                   have c35b1 : decide (x10_3.size + ((⟨#[32]⟩ : ByteArray) ++ (rdOf ByteArray.empty y460 x42_3)).size ≤ 9223372036854775807) = true := decide_eq_true c35
                   try have c35b3 : (9223372036854775807 < x10_3.size + 1 + (rdOf ByteArray.empty y460 x42_3).size) = False := eq_false (by have h_ := c35; simp only [ByteArray.size_append] at h_; have z0_ : (⟨#[32]⟩ : ByteArray).size = 1 := rfl; omega)
                   try have c35b2 : (9223372036854775807 < x10_3.size + ((⟨#[32]⟩ : ByteArray) ++ (rdOf ByteArray.empty y460 x42_3)).size) = False := eq_false (Nat.not_lt.2 c35)
                   have H' := Aside0.mk H
                   clear H
                   have p464 : 0 ≤ (x42_3 : Int) := of_decide_eq_true (by first | (with_reducible assumption) | assumption)
                   have q464 : x42_3 < (y460.length : Int) := of_decide_eq_true (by first | (with_reducible assumption) | assumption)
                   obtain ⟨ad464, e464, hx464_0⟩ := Kd.at_string HR463.out x42_3 p464 q464
                   cases e464
                   replace p464 := eq_true p464
                   replace q464 := eq_true q464
                   go_wp2
                   go_roundg k3
                   case measure => have := HJ2.out; have := HK2.out; have := HK3.out; omega
                   case rel => exact ⟨(x10_3 ++ ((⟨#[32]⟩ : ByteArray) ++ (rdOf ByteArray.empty y460 x42_3))), (wrap64 (x42_3 + 1)), rs_, rs_, H', ⟨by have := HJ2.out; have := HK2.out; have := HK3.out; omega⟩, ⟨by (with_reducible repeat (first | apply Kd.Q_alloc | apply Kd.Q_drewN | apply Kd.Q_drew)); exact HO_6.out⟩, ⟨rr_ HO_7.out⟩, ⟨rr_ HO_29.out⟩, ⟨by repeat (first | (with_reducible exact HR463.out) | (with_reducible refine Kd.C_alloc ?_ _) | (with_reducible refine Kd.C_drewN ?_ _) | (with_reducible refine Kd.C_drew ?_) | exact HR463.out)⟩, ⟨bw_⟩⟩
                  ·rw [if_neg c35] at H
                   exact absurd H (by simp)
                 ·rw [if_neg c34] at H
                  exact absurd H (by simp)
                ·rw [if_neg c33] at H
                 exact absurd H (by simp)
               ·rw [if_neg c32] at H
                exact absurd H (by simp)
              ·rw [if_neg c31] at H
               have c31b0 : decide (x42_3 < (y460.length : Int)) = false := decide_eq_false c31
               clear c31
               by_cases c36 : x7_2.length < 8796093022208
               ·rw [if_pos c36] at H
                have LMc36 := Aside0.mk c36
                clear c36
                obtain ⟨y465, hy465⟩ : ∃ y_ : List ByteArray, y_ = (x7_2 ++ [x10_3]) := ⟨_, rfl⟩
                replace H : (if 0 ≤ (rd t455 x31_2) then (if (rd t455 x31_2) ≤ (x6_2.length : Int) then (spec_SetText.l0 k3 (x6_2.drop ((rd t455 x31_2) : Int).toNat) y465 t455 (t455.length : Int) (wrap64 (x31_2 + 1))) else (none)) else (none)) = some (r1, r2) := by first | (rw [hy465]; with_reducible exact H) | (have H2_ := (Option.bind_some _ _).symm.trans H; rw [hy465]; with_reducible exact H2_) | (have H2_ := (Option.bind_some _ _).symm.trans H; with_reducible exact H2_) | with_reducible exact H | (rw [hy465]; exact H) | exact H
                have Ny465 := Aside0.mk hy465
                clear hy465
                by_cases c37 : 0 ≤ (rd t455 x31_2)
                ·rw [if_pos c37] at H
                 have c37b0 := eq_true c37
                 have c37b1 : decide (0 ≤ (rd t455 x31_2)) = true := decide_eq_true c37
                 clear c37
                 by_cases c38 : (rd t455 x31_2) ≤ (x6_2.length : Int)
                 ·rw [if_pos c38] at H
                  have c38b0 := eq_true c38
                  have c38b1 : decide ((rd t455 x31_2) ≤ (x6_2.length : Int)) = true := decide_eq_true c38
                  clear c38
                  obtain ⟨y468, hy468⟩ : ∃ y_ : List ByteArray, y_ = (x6_2.drop ((rd t455 x31_2) : Int).toNat) := ⟨_, rfl⟩
                  replace H : (spec_SetText.l0 k3 y468 y465 t455 (t455.length : Int) (wrap64 (x31_2 + 1))) = some (r1, r2) := by first | (rw [hy468]; with_reducible exact H) | (have H2_ := (Option.bind_some _ _).symm.trans H; rw [hy468]; with_reducible exact H2_) | (have H2_ := (Option.bind_some _ _).symm.trans H; with_reducible exact H2_) | with_reducible exact H | (rw [hy468]; exact H) | exact H
                  have Ny468 := Aside0.mk hy468
                  clear hy468
                  have H' := Aside0.mk H
                  clear H
                  go_wp2_with (first | ((with_reducible refine gate_builtin (b := .append) (xs := #[.tmp 51, .tmp 53]) rfl ?_); at_builtin; refine Kd.R_append Kd.string (w0 := w) w.heap.size rfl (.tmp 51) (.tmp 53) 37 9 (.string ⟨#[]⟩) 16 rfl Tryd.underlying37 info9 rfl (by decide) (by omega) u7 x7_2 x10_3 [.string x10_3] (fun k_ => some k_ ≠ (.slice (some ad459) x6_2.length co29 : Value).ownBlock) (fun _ => False) rfl rfl ?aP (fun _ hk => hk.elim) ?aF ?aO ?aB ?aS ?aL ?_; (case aP => exact rfl); (case aB => exact bw_); (case aF => exact (fun k_ hk => Kd.fresh' (Kd.Q_lt (by (with_reducible repeat (first | apply Kd.Q_alloc | apply Kd.Q_drewN | apply Kd.Q_drew)); exact HO_6.out)) k_ hk)); (case aO => exact (rr_ HO_7.out)); (case aS => exact (below_size bw_)); (case aL => have := LMc36.out; omega); intro v466 w39 ho hb hg hat; rw [← Ny465.out] at ho; have n0_ := Aside0.mk (Kd.Q_after (ok := (fun _ => True)) (by (with_reducible repeat (first | apply Kd.Q_alloc | apply Kd.Q_drewN | apply Kd.Q_drew)); exact Kd.Q_mono HO_6.out (fun _ hk => ⟨trivial, hk⟩)) hg hat); have n1_ := Aside0.mk (Kd.R_over' (rr_ HO_29.out) (Kd.R_typed (rr_ HO_7.out)) (by decide) hg); have n2_ := Aside0.mk (hb); have n3_ := Aside0.mk ((show Kd.C Kd.string w39 A30 y460.length y460 from by rw [Ny460.out, KA30.out]; exact Kd.C_mid (lo := 1) (hi := ((rd t455 x31_2) : Int).toNat) (c := co29) ((Kd.Q_reads' (Kd.Q_after (ok := (fun _ => True)) (by (with_reducible repeat (first | apply Kd.Q_alloc | apply Kd.Q_drewN | apply Kd.Q_drew)); exact Kd.Q_mono HO_6.out (fun _ hk => ⟨trivial, hk⟩)) hg hat)).2.2) KM30.out KL30.out ((Kd.Q_reads' (Kd.Q_after (ok := (fun _ => True)) (by (with_reducible repeat (first | apply Kd.Q_alloc | apply Kd.Q_drewN | apply Kd.Q_drew)); exact Kd.Q_mono HO_6.out (fun _ hk => ⟨trivial, hk⟩)) hg hat)).2.1))); have n4_ := Aside0.mk (ho); clear HO_6; clear HO_29; clear HB; clear HR463; clear HO_7; have HO_6 := n0_; have HO_29 := n1_; have HB := n2_; have HR463 := n3_; have HO467 := n4_; clear n0_ n1_ n2_ n3_ n4_; clear ho hb hg hat; have n_ := Aside0.mk (Kd.Q_mono (ok' := (fun k_ => some k_ ≠ (v466 : Value).ownBlock)) HO_6.out (fun k_ hk => hk.2)); clear HO_6; have HO_6 := n_; clear n_; have q40 : ((rd t455 x31_2) : Int) ≤ ((x6_2.length : Int) : Int) := of_decide_eq_true (by first | (with_reducible assumption) | assumption); obtain ⟨i040, hi040, _, hsz40, _⟩ := info_parts info9; have hcut40 := cut_from (P := Tryd.prog) 37 9 .i64 Tryd.underlying37 hi040 1 hsz40 (some ad459) x6_2.length co29 (rd t455 x31_2) (of_decide_eq_true (by first | (with_reducible assumption) | assumption)) q40; have hr40 := Kd.Q_drop (k := ((rd t455 x31_2) : Int).toNat) HO_6.out (by omega); obtain ⟨A40, hA40⟩ : ∃ A1, A1 = (if co29 = ((rd t455 x31_2) : Int).toNat then (some ad459) else ((some ad459) : Option Addr).map (·.add (((rd t455 x31_2) : Int).toNat * 1))) := ⟨_, rfl⟩; obtain ⟨c40, hc40⟩ : ∃ c1, c1 = co29 - ((rd t455 x31_2) : Int).toNat := ⟨_, rfl⟩; have hy40 : y468.length = x6_2.length - ((rd t455 x31_2) : Int).toNat := (by rw [Ny468.out, List.length_drop]); rw [← Ny468.out] at hr40; rw [← hy40, ← hA40, ← hc40] at hcut40; replace hr40 : Kd.Q Kd.string 9 w39 w.heap.size (fun k_ => some k_ ≠ (v466 : Value).ownBlock) (.slice A40 y468.length c40) y468 := (by rw [hA40, hc40, hy40]; exact hr40); have HE40 : Aside0 ((Value.slice A40 y468.length c40).ownBlock = (.slice (some ad459) x6_2.length co29 : Value).ownBlock) := ⟨by rw [hA40]; split <;> simp [Value.ownBlock, add_block]⟩; clear hy40 hi040 hsz40 HO_6 hA40 hc40; have HO470 := Aside0.mk hr40; clear hr40; replace q40 := eq_true q40; have n_ := Aside0.mk (Kd.R_mono (ok' := fun k_ => some k_ ≠ (.slice A40 y468.length c40 : Value).ownBlock) HO467.out (fun k_ hk => (by rw [HE40.out]; exact hk))); clear HO467; have HO467 := n_; clear n_))
                  go_roundg k3
                  case measure => have := HJ2.out; have := HK2.out; have := HK3.out; omega
                  case rel => exact ⟨(y468), (y465), (wrap64 (x31_2 + 1)), rs_, H', ⟨by have := HJ2.out; have := HK2.out; have := HK3.out; omega⟩, ⟨by (with_reducible repeat (first | apply Kd.Q_alloc | apply Kd.Q_drewN | apply Kd.Q_drew)); exact HO470.out⟩, ⟨rr_ HO467.out⟩, ⟨rr_ HO_29.out⟩, ⟨bw_⟩⟩
                 ·rw [if_neg c38] at H
                  exact absurd H (by simp)
                ·rw [if_neg c37] at H
                 exact absurd H (by simp)
               ·rw [if_neg c36] at H
                exact absurd H (by simp)
           ·rw [if_neg c28] at H
            exact absurd H (by simp)
          ·rw [if_neg c27] at H
           exact absurd H (by simp)
         ·rw [if_neg c26] at H
          exact absurd H (by simp)
        ·rw [if_neg c25] at H
         exact absurd H (by simp)
       ·rw [if_neg c24] at H
        exact absurd H (by simp)
      ·rw [if_neg c23] at H
       have c23b0 : decide (x31_2 < (t455.length : Int)) = false := decide_eq_false c23
       clear c23
       simp only [Option.some.injEq, Prod.mk.injEq] at H
       obtain ⟨rfl, rfl⟩ := H
       go_wp2
       go_ret2
       exact ⟨_, by first | rfl | (simp [errW_none, errW_some] <;> rfl) | (simp [*, errW_none, errW_some] <;> rfl), by (with_reducible repeat (first | apply Kd.R_alloc | apply Kd.R_drewN | apply Kd.R_drew)); exact Kd.R_mono HO_7.out (fun _ hk => trivial), bw_⟩

/-! ### spec_WordsOfText: function 61 -/
def spec_WordsOfText.f (k : Nat) (a0 : ByteArray) : Option (List Int × Bool) := (spec_lnText.f k a0).bind fun t471 => (if t471 = true then ((spec_lnParts.f k a0).bind fun t472 => ((spec_lnLengths.f k t472).bind fun t475 => ((spec_lnGood.f k t475).bind fun t478 => (if t478 = true then (some (t475, true)) else (some (([] : List Int), false)))))) else (some (([] : List Int), false)))
set_option maxHeartbeats 8000000 in
set_option maxRecDepth 100000 in
theorem spec_WordsOfText.calls (k : Nat) (a0 : ByteArray) (r1 : List Int) (r2 : Bool) (w : World) (h : spec_WordsOfText.f k a0 = some (r1, r2)) :
  Calls Tryd.prog 61 #[.string a0] w fun e w' => ∃ v0_ : Value, e = .returned (.tuple #[v0_, .bool r2]) ∧ Kd.R (Kd.int .i64) 3 w' w.heap.size (fun _ => True) v0_ r1 ∧ Below w.heap.size w w' := by
 have HB := Aside0.mk (Below.refl w.heap.size w)
 have H : ((spec_lnText.f k a0).bind fun t471 => (if t471 = true then ((spec_lnParts.f k a0).bind fun t472 => ((spec_lnLengths.f k t472).bind fun t475 => ((spec_lnGood.f k t475).bind fun t478 => (if t478 = true then (some (t475, true)) else (some (([] : List Int), false)))))) else (some (([] : List Int), false)))) = some (r1, r2) := h
 clear h
 replace H := Option.bind_eq_some_iff.mp H
 obtain ⟨t471, A20, H⟩ := H
 replace H : (if t471 = true then ((spec_lnParts.f k a0).bind fun t472 => ((spec_lnLengths.f k t472).bind fun t475 => ((spec_lnGood.f k t475).bind fun t478 => (if t478 = true then (some (t475, true)) else (some (([] : List Int), false)))))) else (some (([] : List Int), false))) = some (r1, r2) := H
 have A2 := Aside0.mk A20
 clear A20
 by_cases c3 : t471 = true
 ·subst c3
  have H1 : ((spec_lnParts.f k a0).bind fun t472 => ((spec_lnLengths.f k t472).bind fun t475 => ((spec_lnGood.f k t475).bind fun t478 => (if t478 = true then (some (t475, true)) else (some (([] : List Int), false)))))) = some (r1, r2) := by rw [if_pos rfl] at H; exact H
  clear H
  have H := H1
  clear H1
  replace H := Option.bind_eq_some_iff.mp H
  obtain ⟨t472, A40, H⟩ := H
  replace H : ((spec_lnLengths.f k t472).bind fun t475 => ((spec_lnGood.f k t475).bind fun t478 => (if t478 = true then (some (t475, true)) else (some (([] : List Int), false))))) = some (r1, r2) := H
  have A4 := Aside0.mk A40
  clear A40
  replace H := Option.bind_eq_some_iff.mp H
  obtain ⟨t475, A50, H⟩ := H
  replace H : ((spec_lnGood.f k t475).bind fun t478 => (if t478 = true then (some (t475, true)) else (some (([] : List Int), false)))) = some (r1, r2) := H
  have A5 := Aside0.mk A50
  clear A50
  replace H := Option.bind_eq_some_iff.mp H
  obtain ⟨t478, A60, H⟩ := H
  replace H : (if t478 = true then (some (t475, true)) else (some (([] : List Int), false))) = some (r1, r2) := H
  have A6 := Aside0.mk A60
  clear A60
  by_cases c7 : t478 = true
  ·subst c7
   have H1 : (some (t475, true)) = some (r1, r2) := by rw [if_pos rfl] at H; exact H
   clear H
   have H := H1
   clear H1
   simp only [Option.some.injEq, Prod.mk.injEq] at H
   obtain ⟨rfl, rfl⟩ := H
   go_enter Tryd.func61, Tryd.ntmps61
   go_wp2_with (first | ((with_reducible refine gate_callee (f := 138) rfl ?_); refine goesL_ (some 6) rfl rfl Tryd.func138 (by kernel_rfl) rfl #[.string a0] rfl (by (try simp only [List.map_toArray, List.map_cons, List.map_nil]); first | done | rfl | (simp only [List.length_drop, List.length_take]; rfl)) ?_; (with_reducible refine (spec_lnText.calls k a0 true _ A2.out).mono ?_); rintro e w' ⟨rfl, ⟨nd, rfl⟩⟩; refine ⟨_, rfl, ?_⟩) | ((with_reducible refine gate_callee (f := 140) rfl ?_); refine goesL_ (some 9) rfl rfl Tryd.func140 (by kernel_rfl) rfl #[.string a0] rfl (by (try simp only [List.map_toArray, List.map_cons, List.map_nil]); first | done | rfl | (simp only [List.length_drop, List.length_take]; rfl)) ?_; (with_reducible refine (spec_lnParts.calls k a0 t472 _ A4.out).mono ?_); rintro e w8 ⟨v473, rfl, ho0, hb⟩; refine ⟨_, rfl, ?_⟩; have n0_ := Aside0.mk (Kd.R_lower ho0 (below_size bw_)); have n1_ := Aside0.mk (below_step bw_ hb); clear HB; have HO474 := n0_; have HB := n1_; clear n0_ n1_; (try clear hb); (try clear hb2); (try clear hk); (try clear hi); (try clear ho0); obtain ⟨Ao9, co9, eo9⟩ := Kd.R_slice HO474.out; subst eo9) | ((with_reducible refine gate_callee (f := 139) rfl ?_); refine goesL_ (some 10) rfl rfl Tryd.func139 (by kernel_rfl) rfl #[.slice Ao9 t472.length co9] rfl (by (try simp only [List.map_toArray, List.map_cons, List.map_nil]); first | done | rfl | (simp only [List.length_drop, List.length_take]; rfl)) ?_; (with_reducible refine (spec_lnLengths.calls k _ _ t472 t475 _ ?side1 ?side2 A5.out).mono ?_); (case side1 => exact cr_ (Kd.R_reads' HO474.out).2.2); (case side2 => exact (Kd.R_reads' HO474.out).2.1); rintro e w10 ⟨v476, rfl, ho0, hb⟩; refine ⟨_, rfl, ?_⟩; have n0_ := Aside0.mk (Kd.R_below (rr_ HO474.out) hb); have n1_ := Aside0.mk (Kd.R_lower ho0 (below_size bw_)); have n2_ := Aside0.mk (below_step bw_ hb); clear HO474; clear HB; have HO474 := n0_; have HO477 := n1_; have HB := n2_; clear n0_ n1_ n2_; (try clear hb); (try clear hb2); (try clear hk); (try clear hi); (try clear ho0); obtain ⟨Ao11, co11, eo11⟩ := Kd.R_slice HO477.out; subst eo11) | ((with_reducible refine gate_callee (f := 129) rfl ?_); refine goesL_ (some 12) rfl rfl Tryd.func129 (by kernel_rfl) rfl #[.slice Ao11 t475.length co11] rfl (by (try simp only [List.map_toArray, List.map_cons, List.map_nil]); first | done | rfl | (simp only [List.length_drop, List.length_take]; rfl)) ?_; (with_reducible refine (spec_lnGood.calls k _ _ t475 true _ ?side1 ?side2 A6.out).mono ?_); (case side1 => exact cr_ (Kd.R_reads' HO477.out).2.2); (case side2 => exact (Kd.R_reads' HO477.out).2.1); rintro e w' ⟨rfl, ⟨nd, rfl⟩⟩; refine ⟨_, rfl, ?_⟩))
   go_ret2
   exact ⟨_, by first | rfl | (simp [errW_none, errW_some] <;> rfl) | (simp [*, errW_none, errW_some] <;> rfl), by (with_reducible repeat (first | apply Kd.R_alloc | apply Kd.R_drewN | apply Kd.R_drew)); exact HO477.out, bw_⟩
  ·replace c7 := Bool.eq_false_iff.mpr c7
   subst c7
   have H1 : (some (([] : List Int), false)) = some (r1, r2) := by rw [if_neg (show ¬ (false = true) by decide)] at H; exact H
   clear H
   have H := H1
   clear H1
   simp only [Option.some.injEq, Prod.mk.injEq] at H
   obtain ⟨rfl, rfl⟩ := H
   go_enter Tryd.func61, Tryd.ntmps61
   go_wp2_with (first | ((with_reducible refine gate_callee (f := 138) rfl ?_); refine goesL_ (some 6) rfl rfl Tryd.func138 (by kernel_rfl) rfl #[.string a0] rfl (by (try simp only [List.map_toArray, List.map_cons, List.map_nil]); first | done | rfl | (simp only [List.length_drop, List.length_take]; rfl)) ?_; (with_reducible refine (spec_lnText.calls k a0 true _ A2.out).mono ?_); rintro e w' ⟨rfl, ⟨nd, rfl⟩⟩; refine ⟨_, rfl, ?_⟩) | ((with_reducible refine gate_callee (f := 140) rfl ?_); refine goesL_ (some 9) rfl rfl Tryd.func140 (by kernel_rfl) rfl #[.string a0] rfl (by (try simp only [List.map_toArray, List.map_cons, List.map_nil]); first | done | rfl | (simp only [List.length_drop, List.length_take]; rfl)) ?_; (with_reducible refine (spec_lnParts.calls k a0 t472 _ A4.out).mono ?_); rintro e w12 ⟨v473, rfl, ho0, hb⟩; refine ⟨_, rfl, ?_⟩; have n0_ := Aside0.mk (Kd.R_lower ho0 (below_size bw_)); have n1_ := Aside0.mk (below_step bw_ hb); clear HB; have HO474 := n0_; have HB := n1_; clear n0_ n1_; (try clear hb); (try clear hb2); (try clear hk); (try clear hi); (try clear ho0); obtain ⟨Ao13, co13, eo13⟩ := Kd.R_slice HO474.out; subst eo13) | ((with_reducible refine gate_callee (f := 139) rfl ?_); refine goesL_ (some 10) rfl rfl Tryd.func139 (by kernel_rfl) rfl #[.slice Ao13 t472.length co13] rfl (by (try simp only [List.map_toArray, List.map_cons, List.map_nil]); first | done | rfl | (simp only [List.length_drop, List.length_take]; rfl)) ?_; (with_reducible refine (spec_lnLengths.calls k _ _ t472 t475 _ ?side1 ?side2 A5.out).mono ?_); (case side1 => exact cr_ (Kd.R_reads' HO474.out).2.2); (case side2 => exact (Kd.R_reads' HO474.out).2.1); rintro e w14 ⟨v476, rfl, ho0, hb⟩; refine ⟨_, rfl, ?_⟩; have n0_ := Aside0.mk (Kd.R_below (rr_ HO474.out) hb); have n1_ := Aside0.mk (Kd.R_lower ho0 (below_size bw_)); have n2_ := Aside0.mk (below_step bw_ hb); clear HO474; clear HB; have HO474 := n0_; have HO477 := n1_; have HB := n2_; clear n0_ n1_ n2_; (try clear hb); (try clear hb2); (try clear hk); (try clear hi); (try clear ho0); obtain ⟨Ao15, co15, eo15⟩ := Kd.R_slice HO477.out; subst eo15) | ((with_reducible refine gate_callee (f := 129) rfl ?_); refine goesL_ (some 12) rfl rfl Tryd.func129 (by kernel_rfl) rfl #[.slice Ao15 t475.length co15] rfl (by (try simp only [List.map_toArray, List.map_cons, List.map_nil]); first | done | rfl | (simp only [List.length_drop, List.length_take]; rfl)) ?_; (with_reducible refine (spec_lnGood.calls k _ _ t475 false _ ?side1 ?side2 A6.out).mono ?_); (case side1 => exact cr_ (Kd.R_reads' HO477.out).2.2); (case side2 => exact (Kd.R_reads' HO477.out).2.1); rintro e w' ⟨rfl, ⟨nd, rfl⟩⟩; refine ⟨_, rfl, ?_⟩))
   go_ret2
   exact ⟨_, by first | rfl | (simp [errW_none, errW_some] <;> rfl) | (simp [*, errW_none, errW_some] <;> rfl), by first | exact Kd.R_nil _ _ _ _ _ | exact Kd.N_nil _ _ _ _ _ | exact Kd.V_nil _ _ _ _ _ | exact Kd.Q_nil _ _ _ _ _ | exact Kd.S_nil _ _ _ _ _, bw_⟩
 ·replace c3 := Bool.eq_false_iff.mpr c3
  subst c3
  have H1 : (some (([] : List Int), false)) = some (r1, r2) := by rw [if_neg (show ¬ (false = true) by decide)] at H; exact H
  clear H
  have H := H1
  clear H1
  simp only [Option.some.injEq, Prod.mk.injEq] at H
  obtain ⟨rfl, rfl⟩ := H
  go_enter Tryd.func61, Tryd.ntmps61
  go_wp2_with (first | ((with_reducible refine gate_callee (f := 138) rfl ?_); refine goesL_ (some 6) rfl rfl Tryd.func138 (by kernel_rfl) rfl #[.string a0] rfl (by (try simp only [List.map_toArray, List.map_cons, List.map_nil]); first | done | rfl | (simp only [List.length_drop, List.length_take]; rfl)) ?_; (with_reducible refine (spec_lnText.calls k a0 false _ A2.out).mono ?_); rintro e w' ⟨rfl, ⟨nd, rfl⟩⟩; refine ⟨_, rfl, ?_⟩))
  go_ret2
  exact ⟨_, by first | rfl | (simp [errW_none, errW_some] <;> rfl) | (simp [*, errW_none, errW_some] <;> rfl), by first | exact Kd.R_nil _ _ _ _ _ | exact Kd.N_nil _ _ _ _ _ | exact Kd.V_nil _ _ _ _ _ | exact Kd.Q_nil _ _ _ _ _ | exact Kd.S_nil _ _ _ _ _, bw_⟩

end Go.Proofs.YtpedlkhfeoeogaaDoor.PFnLinesSet
