-- Printed by a program of this repository (wip/xprint.py), over contracts of its own for what the kit's print does not take. Lean checks it.
import Derived.Test.YtpedlkhfeoeogaaDoorPFnLinesSetx0
import Derived.Test.YtpedlkhfeoeogaaDoorPFnLinesSetx2
namespace Go.Proofs.YtpedlkhfeoeogaaDoor.PFnLinesSet
open Go.Proofs.YtpedlkhfeoeogaaDoor.PLnB Go.RowKit Go.Proofs.YtpedlkhfeoeogaaDoorW.PrintWords Go.Proofs.YtpedlkhfeoeogaaDoorW.PrintLast Go.Proofs.YtpedlkhfeoeogaaDoorW.PrintMore
attribute [local go_sem] max2_int min2_int max_two min_two max_three min_three max_four min_four   -- for this text's walks alone
set_option linter.unusedVariables false
set_option linter.unusedSimpArgs false

/-! ### impl_widths: function 130 -/
mutual
def impl_widths.j0 : Nat → List Int → List Int → Bool → Option (List Int × Bool)
 | 0, _, _, _ => none
 | k + 1, x0, x1, x28 => if x28 = true then (some (([] : List Int), false)) else (impl_widths.l0 k x0 (([] : List Int)) x1 (x1.length : Int) 0)
def impl_widths.l0 : Nat → List Int → List Int → List Int → Int → Int → Option (List Int × Bool)
 | 0, _, _, _, _, _ => none
 | k + 1, x0, x6, x30, x31, x32 => if x32 < x31 then (if 0 ≤ x32 then (if x32 < (x30.length : Int) then (if 0 ≤ (rd x30 x32) then (if (rd x30 x32) ≤ (x0.length : Int) then ((impl_needs.f k (x0.take ((rd x30 x32) : Int).toNat)).bind fun t240 => (if x6.length < 17592186044416 then (impl_widths.l0 k (x0.drop ((rd x30 x32) : Int).toNat) (x6 ++ [t240]) x30 x31 (wrap64 (x32 + 1))) else (none))) else (none)) else (none)) else (none)) else (none)) else (some (x6, true))
end
def impl_widths.f (k : Nat) (l0 : List Int) (l1 : List Int) : Option (List Int × Bool) := (impl_AreWords.f k l0).bind fun t228 => (if t228 = true then ((impl_allWithin.f k l1 1 30).bind fun t229 => (if t229 = true then (if (l1.length : Int) > 30 then (impl_widths.j0 k l0 l1 true) else ((impl_total.f k l1).bind fun t230 => (impl_widths.j0 k l0 l1 (t230 != (l0.length : Int))))) else (impl_widths.j0 k l0 l1 true))) else (impl_widths.j0 k l0 l1 true))
set_option maxHeartbeats 8000000 in
set_option maxRecDepth 100000 in
theorem impl_widths.calls (k : Nat) (P0_ : Nat → Prop) (A0 : Option Addr) (c0 : Nat) (l0 : List Int) (A1 : Option Addr) (c1 : Nat) (l1 : List Int) (r1 : List Int) (r2 : Bool) (w : World) (hs0 : Kd.V (Kd.int .i64) 3 w w.heap.size (fun k_ => P0_ k_) (.slice A0 l0.length c0) l0) (hr1 : Kd.C (Kd.int .i64) w A1 l1.length l1) (hc1 : l1.length ≤ c1) (h : impl_widths.f k l0 l1 = some (r1, r2)) :
  Calls Tryd.prog 130 #[.slice A0 l0.length c0, .slice A1 l1.length c1] w fun e w' => ∃ v0_ : Value, e = .returned (.tuple #[v0_, .bool r2]) ∧ Kd.R (Kd.int .i64) 3 w' w.heap.size (fun k_ => (w.heap.size ≤ k_)) v0_ r1 ∧ Below w.heap.size w w' := by
 have HO0 := Aside0.mk (show Kd.V (Kd.int .i64) 3 w w.heap.size (fun k_ => (P0_ k_ ∨ w.heap.size ≤ k_)) (.slice A0 l0.length c0) l0 from Kd.V_mono hs0 (fun k_ hk => .inl hk))
 have HR1 := Aside0.mk hr1
 have HC1 := Aside0.mk hc1
 clear hr1 hc1
 have HB := Aside0.mk (Below.refl w.heap.size w)
 have H : ((impl_AreWords.f k l0).bind fun t228 => (if t228 = true then ((impl_allWithin.f k l1 1 30).bind fun t229 => (if t229 = true then (if (l1.length : Int) > 30 then (impl_widths.j0 k l0 l1 true) else ((impl_total.f k l1).bind fun t230 => (impl_widths.j0 k l0 l1 (t230 != (l0.length : Int))))) else (impl_widths.j0 k l0 l1 true))) else (impl_widths.j0 k l0 l1 true))) = some (r1, r2) := h
 clear h
 have HC3 := Aside0.mk H
 clear H
 go_enter Tryd.func130, Tryd.ntmps130
 go_upto_region 1 with (fail)
 go_cut [28] (fun v28 wc => ∃ (kq : Nat) (x28_2 : Bool), v28 = .bool x28_2 ∧ Aside0 (impl_widths.j0 kq l0 l1 x28_2 = some (r1, r2)) ∧ Aside0 (kq ≤ k) ∧ Aside0 (Kd.V (Kd.int .i64) 3 wc w.heap.size (fun k_ => (P0_ k_ ∨ w.heap.size ≤ k_)) (.slice A0 l0.length c0) l0) ∧ Aside0 (Below w.heap.size w wc))
 case first =>
  have H := HC3.out
  clear HC3
  replace H := Option.bind_eq_some_iff.mp H
  obtain ⟨t228, A40, H⟩ := H
  replace H : (if t228 = true then ((impl_allWithin.f k l1 1 30).bind fun t229 => (if t229 = true then (if (l1.length : Int) > 30 then (impl_widths.j0 k l0 l1 true) else ((impl_total.f k l1).bind fun t230 => (impl_widths.j0 k l0 l1 (t230 != (l0.length : Int))))) else (impl_widths.j0 k l0 l1 true))) else (impl_widths.j0 k l0 l1 true)) = some (r1, r2) := H
  have A4 := Aside0.mk A40
  clear A40
  by_cases c5 : t228 = true
  ·subst c5
   have H1 : ((impl_allWithin.f k l1 1 30).bind fun t229 => (if t229 = true then (if (l1.length : Int) > 30 then (impl_widths.j0 k l0 l1 true) else ((impl_total.f k l1).bind fun t230 => (impl_widths.j0 k l0 l1 (t230 != (l0.length : Int))))) else (impl_widths.j0 k l0 l1 true))) = some (r1, r2) := by rw [if_pos rfl] at H; exact H
   clear H
   have H := H1
   clear H1
   replace H := Option.bind_eq_some_iff.mp H
   obtain ⟨t229, A60, H⟩ := H
   replace H : (if t229 = true then (if (l1.length : Int) > 30 then (impl_widths.j0 k l0 l1 true) else ((impl_total.f k l1).bind fun t230 => (impl_widths.j0 k l0 l1 (t230 != (l0.length : Int))))) else (impl_widths.j0 k l0 l1 true)) = some (r1, r2) := H
   have A6 := Aside0.mk A60
   clear A60
   by_cases c7 : t229 = true
   ·subst c7
    have H1 : (if (l1.length : Int) > 30 then (impl_widths.j0 k l0 l1 true) else ((impl_total.f k l1).bind fun t230 => (impl_widths.j0 k l0 l1 (t230 != (l0.length : Int))))) = some (r1, r2) := by rw [if_pos rfl] at H; exact H
    clear H
    have H := H1
    clear H1
    by_cases c8 : (l1.length : Int) > 30
    ·rw [if_pos c8] at H
     have c8b0 : decide (30 < (l1.length : Int)) = true := decide_eq_true c8
     have c8b1 : decide (30 < l1.length) = true := decide_eq_true (by omega)
     clear c8
     (first | rw [c8b0] | (simp only [i64_w, i32_w]; rw [c8b0]) | skip)
     have H' := Aside0.mk H
     clear H
     go_wp2_with (first | ((with_reducible refine gate_callee (f := 46) rfl ?_); refine goesL_ (some 10) rfl rfl Tryd.func46 (by kernel_rfl) rfl #[.slice A0 l0.length c0] rfl (by (try simp only [List.map_toArray, List.map_cons, List.map_nil]); first | done | rfl | (simp only [List.length_drop, List.length_take]; rfl)) ?_; (with_reducible refine (impl_AreWords.calls k _ _ l0 true _ ?side1 ?side2 A4.out).mono ?_); (case side1 => exact cr_ (Kd.V_reads' HO0.out).2.2); (case side2 => exact (Kd.V_reads' HO0.out).2.1); rintro e w' ⟨rfl, ⟨nd, rfl⟩⟩; refine ⟨_, rfl, ?_⟩) | (go_at_call 128; (with_reducible refine (impl_allWithin.calls k _ _ l1 1 30 true _ ?side1 ?side2 A6.out).mono ?_); (case side1 => exact cr_ (Kd.C_below HR1.out bw_)); (case side2 => exact HC1.out); rintro e w' ⟨rfl, ⟨nd, rfl⟩⟩))
     go_meet
     case rel => exact ⟨_, (true), rs_, H', ⟨by first | omega | exact Nat.le_refl _⟩, ⟨by (with_reducible repeat (first | apply Kd.V_alloc | apply Kd.V_drewN | apply Kd.V_drew)); exact HO0.out⟩, ⟨bw_⟩⟩
    ·rw [if_neg c8] at H
     have c8b0 : decide (30 < (l1.length : Int)) = false := decide_eq_false c8
     have c8b1 : decide (30 < l1.length) = false := decide_eq_false (by omega)
     clear c8
     (first | rw [c8b0] | (simp only [i64_w, i32_w]; rw [c8b0]) | skip)
     replace H := Option.bind_eq_some_iff.mp H
     obtain ⟨t230, A90, H⟩ := H
     replace H : (impl_widths.j0 k l0 l1 (t230 != (l0.length : Int))) = some (r1, r2) := H
     have A9 := Aside0.mk A90
     clear A90
     have H' := Aside0.mk H
     clear H
     go_wp2_with (first | ((with_reducible refine gate_callee (f := 46) rfl ?_); refine goesL_ (some 10) rfl rfl Tryd.func46 (by kernel_rfl) rfl #[.slice A0 l0.length c0] rfl (by (try simp only [List.map_toArray, List.map_cons, List.map_nil]); first | done | rfl | (simp only [List.length_drop, List.length_take]; rfl)) ?_; (with_reducible refine (impl_AreWords.calls k _ _ l0 true _ ?side1 ?side2 A4.out).mono ?_); (case side1 => exact cr_ (Kd.V_reads' HO0.out).2.2); (case side2 => exact (Kd.V_reads' HO0.out).2.1); rintro e w' ⟨rfl, ⟨nd, rfl⟩⟩; refine ⟨_, rfl, ?_⟩) | (go_at_call 128; (with_reducible refine (impl_allWithin.calls k _ _ l1 1 30 true _ ?side1 ?side2 A6.out).mono ?_); (case side1 => exact cr_ (Kd.C_below HR1.out bw_)); (case side2 => exact HC1.out); rintro e w' ⟨rfl, ⟨nd, rfl⟩⟩) | (go_at_call 85; (with_reducible refine (impl_total.calls k _ _ l1 t230 _ ?side1 ?side2 A9.out).mono ?_); (case side1 => exact cr_ (Kd.C_below HR1.out bw_)); (case side2 => exact HC1.out); rintro e w' ⟨rfl, ⟨nd, rfl⟩⟩))
     go_meet
     case rel => exact ⟨_, ((t230 != (l0.length : Int))), rs_, H', ⟨by first | omega | exact Nat.le_refl _⟩, ⟨by (with_reducible repeat (first | apply Kd.V_alloc | apply Kd.V_drewN | apply Kd.V_drew)); exact HO0.out⟩, ⟨bw_⟩⟩
   ·replace c7 := Bool.eq_false_iff.mpr c7
    subst c7
    have H1 : (impl_widths.j0 k l0 l1 true) = some (r1, r2) := by rw [if_neg (show ¬ (false = true) by decide)] at H; exact H
    clear H
    have H := H1
    clear H1
    have H' := Aside0.mk H
    clear H
    go_wp2_with (first | ((with_reducible refine gate_callee (f := 46) rfl ?_); refine goesL_ (some 10) rfl rfl Tryd.func46 (by kernel_rfl) rfl #[.slice A0 l0.length c0] rfl (by (try simp only [List.map_toArray, List.map_cons, List.map_nil]); first | done | rfl | (simp only [List.length_drop, List.length_take]; rfl)) ?_; (with_reducible refine (impl_AreWords.calls k _ _ l0 true _ ?side1 ?side2 A4.out).mono ?_); (case side1 => exact cr_ (Kd.V_reads' HO0.out).2.2); (case side2 => exact (Kd.V_reads' HO0.out).2.1); rintro e w' ⟨rfl, ⟨nd, rfl⟩⟩; refine ⟨_, rfl, ?_⟩) | (go_at_call 128; (with_reducible refine (impl_allWithin.calls k _ _ l1 1 30 false _ ?side1 ?side2 A6.out).mono ?_); (case side1 => exact cr_ (Kd.C_below HR1.out bw_)); (case side2 => exact HC1.out); rintro e w' ⟨rfl, ⟨nd, rfl⟩⟩))
    go_meet
    case rel => exact ⟨_, (true), rs_, H', ⟨by first | omega | exact Nat.le_refl _⟩, ⟨by (with_reducible repeat (first | apply Kd.V_alloc | apply Kd.V_drewN | apply Kd.V_drew)); exact HO0.out⟩, ⟨bw_⟩⟩
  ·replace c5 := Bool.eq_false_iff.mpr c5
   subst c5
   have H1 : (impl_widths.j0 k l0 l1 true) = some (r1, r2) := by rw [if_neg (show ¬ (false = true) by decide)] at H; exact H
   clear H
   have H := H1
   clear H1
   have H' := Aside0.mk H
   clear H
   go_wp2_with (first | ((with_reducible refine gate_callee (f := 46) rfl ?_); refine goesL_ (some 10) rfl rfl Tryd.func46 (by kernel_rfl) rfl #[.slice A0 l0.length c0] rfl (by (try simp only [List.map_toArray, List.map_cons, List.map_nil]); first | done | rfl | (simp only [List.length_drop, List.length_take]; rfl)) ?_; (with_reducible refine (impl_AreWords.calls k _ _ l0 false _ ?side1 ?side2 A4.out).mono ?_); (case side1 => exact cr_ (Kd.V_reads' HO0.out).2.2); (case side2 => exact (Kd.V_reads' HO0.out).2.1); rintro e w' ⟨rfl, ⟨nd, rfl⟩⟩; refine ⟨_, rfl, ?_⟩))
   go_meet
   case rel => exact ⟨_, (true), rs_, H', ⟨by first | omega | exact Nat.le_refl _⟩, ⟨by (with_reducible repeat (first | apply Kd.V_alloc | apply Kd.V_drewN | apply Kd.V_drew)); exact HO0.out⟩, ⟨bw_⟩⟩
 case rest =>
  clear HC3
  (try clear c1); (try clear p2); (try clear c4); (try clear c5); (try clear c7); (try clear c8); (try clear c8b0); (try clear c8b1)
  obtain ⟨kq, x28_2, rfl, HA, HJ2, HO_0, HB⟩ := hcut
  cases kq with
  | zero => exact absurd HA.out (by simp [impl_widths.j0])
  | succ kj2 =>
   have H := HA.out
   clear HA
   simp only [impl_widths.j0] at H
   by_cases c10 : x28_2 = true
   ·subst c10
    have H1 : (some (([] : List Int), false)) = some (r1, r2) := by rw [if_pos rfl] at H; exact H
    clear H
    have H := H1
    clear H1
    simp only [Option.some.injEq, Prod.mk.injEq] at H
    obtain ⟨rfl, rfl⟩ := H
    go_wp2
    go_ret2
    exact ⟨_, by first | rfl | (simp [errW_none, errW_some] <;> rfl) | (simp [*, errW_none, errW_some] <;> rfl), by first | exact Kd.R_nil _ _ _ _ _ | exact Kd.N_nil _ _ _ _ _ | exact Kd.V_nil _ _ _ _ _ | exact Kd.Q_nil _ _ _ _ _ | exact Kd.S_nil _ _ _ _ _, bw_⟩
   ·replace c10 := Bool.eq_false_iff.mpr c10
    subst c10
    have H1 : (impl_widths.l0 kj2 l0 (([] : List Int)) l1 (l1.length : Int) 0) = some (r1, r2) := by rw [if_neg (show ¬ (false = true) by decide)] at H; exact H
    clear H
    have H := H1
    clear H1
    obtain ⟨y231, hy231⟩ : ∃ y_ : List Int, y_ = (([] : List Int)) := ⟨_, rfl⟩
    replace H : (impl_widths.l0 kj2 l0 y231 l1 (l1.length : Int) 0) = some (r1, r2) := by first | (rw [hy231]; with_reducible exact H) | (have H2_ := (Option.bind_some _ _).symm.trans H; rw [hy231]; with_reducible exact H2_) | (have H2_ := (Option.bind_some _ _).symm.trans H; with_reducible exact H2_) | with_reducible exact H | (rw [hy231]; exact H) | exact H
    have Ny231 := Aside0.mk hy231
    clear hy231
    have H' := Aside0.mk H
    clear H
    go_wp2_with (first | ((with_reducible refine gate_dst (N := 29) rfl ?_); (try (refine gate_guard (by rfl) ?_; dsimp only)); refine Kd.R_lit (Kd.int .i64) _ 3 ?hg (N := 29) ?hd (xs := ([] : List Int)) (inner := []) (ok := fun _ => True) (okp := fun _ => True) ?hr ?hp (fun _ hk => hk) trivial (Below.refl _ _) (Nat.le_refl _) (by simp) ?_; (case hd => rfl); (case hg => rfl); (case hr => first | (go_simp; done) | (go_simp; rfl)); (case hp => exact (Reps.none _ _)); intro v232 w11 ho12 hb hg_ hnew_; clear hg_ hnew_; (first | rw [← Ny231.out] at ho12 | (simp only [Int.reduceToNat] at ho12; rw [← Ny231.out] at ho12)); have n0_ := Aside0.mk (Kd.V_elder' (by (with_reducible repeat (first | apply Kd.V_alloc | apply Kd.V_drewN | apply Kd.V_drew)); exact HO_0.out) (Kd.R_base ho12) hb); have n1_ := Aside0.mk (Kd.R_lower (Kd.R_newM (M := fun k_ => (w.heap.size ≤ k_)) ho12 (below_size bw_) (fun k_ h_ => h_)) (below_size bw_)); have n2_ := Aside0.mk (below_step bw_ hb); clear HO_0; clear HB; have HO_0 := n0_; have HO233 := n1_; have HB := n2_; clear n0_ n1_ n2_; clear hb ho12))
    go_loopg [0, 6, 32] kj2 (fun kq v0 v6 v32 w' => ∃ (x0_2 : List Int) (x6_2 : List Int) (x32_2 : Int), v32 = .int .i64 x32_2 ∧ Aside0 (impl_widths.l0 kq x0_2 x6_2 l1 (l1.length : Int) x32_2 = some (r1, r2)) ∧ Aside0 (kq ≤ kj2) ∧ Aside0 (Kd.V (Kd.int .i64) 3 w' w.heap.size (fun k_ => (P0_ k_ ∨ w.heap.size ≤ k_) ∧ some k_ ≠ (v6 : Value).ownBlock) v0 x0_2) ∧ Aside0 (Kd.R (Kd.int .i64) 3 w' w.heap.size (fun k_ => (w.heap.size ≤ k_)) v6 x6_2) ∧ Aside0 (Below w.heap.size w w'))
    case atStart => exact ⟨(l0), (y231), (0), rs_, H', ⟨Nat.le_refl _⟩, ⟨by (with_reducible repeat (first | apply Kd.V_alloc | apply Kd.V_drewN | apply Kd.V_drew)); exact HO_0.out⟩, ⟨by (with_reducible repeat (first | apply Kd.R_alloc | apply Kd.R_drewN | apply Kd.R_drew)); exact Kd.R_mono HO233.out (fun _ hk => hk.1)⟩, ⟨bw_⟩⟩
    case round =>
     clear H'
     (try clear c1); (try clear p2); (try clear c4); (try clear c5); (try clear c7); (try clear c8); (try clear c8b0); (try clear c8b1); (try clear c10)
     obtain ⟨x0_2, x6_2, x32_2, rfl, HA, HK2, HO_0, HO_6, HB⟩ := hrel
     cases gk with
     | zero => exact absurd HA.out (by simp [impl_widths.l0])
     | succ k2 =>
      have H := HA.out
      clear HA
      simp only [impl_widths.l0] at H
      by_cases c13 : x32_2 < (l1.length : Int)
      ·rw [if_pos c13] at H
       have c13b0 : decide (x32_2 < (l1.length : Int)) = true := decide_eq_true c13
       clear c13
       by_cases c14 : 0 ≤ x32_2
       ·rw [if_pos c14] at H
        have c14b0 : decide (0 ≤ x32_2) = true := decide_eq_true c14
        clear c14
        by_cases c15 : x32_2 < (l1.length : Int)
        ·rw [if_pos c15] at H
         have c15b0 : decide (x32_2 < (l1.length : Int)) = true := decide_eq_true c15
         clear c15
         by_cases c16 : 0 ≤ (rd l1 x32_2)
         ·rw [if_pos c16] at H
          have c16b0 := eq_true c16
          have c16b1 : decide (0 ≤ (rd l1 x32_2)) = true := decide_eq_true c16
          clear c16
          by_cases c17 : (rd l1 x32_2) ≤ (x0_2.length : Int)
          ·rw [if_pos c17] at H
           have c17b0 := eq_true c17
           have c17b1 : decide ((rd l1 x32_2) ≤ (x0_2.length : Int)) = true := decide_eq_true c17
           clear c17
           obtain ⟨y235, hy235⟩ : ∃ y_ : List Int, y_ = (x0_2.take ((rd l1 x32_2) : Int).toNat) := ⟨_, rfl⟩
           replace H : ((impl_needs.f k2 y235).bind fun t240 => (if x6_2.length < 17592186044416 then (impl_widths.l0 k2 (x0_2.drop ((rd l1 x32_2) : Int).toNat) (x6_2 ++ [t240]) l1 (l1.length : Int) (wrap64 (x32_2 + 1))) else (none))) = some (r1, r2) := by first | (rw [hy235]; with_reducible exact H) | (have H2_ := (Option.bind_some _ _).symm.trans H; rw [hy235]; with_reducible exact H2_) | (have H2_ := (Option.bind_some _ _).symm.trans H; with_reducible exact H2_) | with_reducible exact H | (rw [hy235]; exact H) | exact H
           have Ny235 := Aside0.mk hy235
           clear hy235
           replace H := Option.bind_eq_some_iff.mp H
           obtain ⟨t240, A180, H⟩ := H
           replace H : (if x6_2.length < 17592186044416 then (impl_widths.l0 k2 (x0_2.drop ((rd l1 x32_2) : Int).toNat) (x6_2 ++ [t240]) l1 (l1.length : Int) (wrap64 (x32_2 + 1))) else (none)) = some (r1, r2) := H
           have A18 := Aside0.mk A180
           clear A180
           by_cases c19 : x6_2.length < 17592186044416
           ·rw [if_pos c19] at H
            have LMc19 := Aside0.mk c19
            clear c19
            obtain ⟨y241, hy241⟩ : ∃ y_ : List Int, y_ = (x6_2 ++ [t240]) := ⟨_, rfl⟩
            replace H : (impl_widths.l0 k2 (x0_2.drop ((rd l1 x32_2) : Int).toNat) y241 l1 (l1.length : Int) (wrap64 (x32_2 + 1))) = some (r1, r2) := by first | (rw [hy241]; with_reducible exact H) | (have H2_ := (Option.bind_some _ _).symm.trans H; rw [hy241]; with_reducible exact H2_) | (have H2_ := (Option.bind_some _ _).symm.trans H; with_reducible exact H2_) | with_reducible exact H | (rw [hy241]; exact H) | exact H
            have Ny241 := Aside0.mk hy241
            clear hy241
            have c20b0 := eq_true (of_decide_eq_true (by first | (with_reducible assumption) | assumption) : 0 ≤ (rd l1 x32_2))
            have c21b0 := eq_true (of_decide_eq_true (by first | (with_reducible assumption) | assumption) : (rd l1 x32_2) ≤ (x0_2.length : Int))
            obtain ⟨y244, hy244⟩ : ∃ y_ : List Int, y_ = (x0_2.drop ((rd l1 x32_2) : Int).toNat) := ⟨_, rfl⟩
            replace H : (impl_widths.l0 k2 y244 y241 l1 (l1.length : Int) (wrap64 (x32_2 + 1))) = some (r1, r2) := by first | (rw [hy244]; with_reducible exact H) | (have H2_ := (Option.bind_some _ _).symm.trans H; rw [hy244]; with_reducible exact H2_) | (have H2_ := (Option.bind_some _ _).symm.trans H; with_reducible exact H2_) | with_reducible exact H | (rw [hy244]; exact H) | exact H
            have Ny244 := Aside0.mk hy244
            clear hy244
            have H' := Aside0.mk H
            clear H
            have p234 : 0 ≤ (x32_2 : Int) := of_decide_eq_true (by first | (with_reducible assumption) | assumption)
            have q234 : x32_2 < (l1.length : Int) := of_decide_eq_true (by first | (with_reducible assumption) | assumption)
            obtain ⟨ad234, e234, hx234_0⟩ := Kd.at_int HR1.out x32_2 p234 q234
            cases e234
            replace hx234_0 := (HB.out.cell (World.block_lt_of_cell? w _ hx234_0)).trans hx234_0
            replace p234 := eq_true p234
            replace q234 := eq_true q234
            obtain ⟨Ao23, co23, eo23⟩ := Kd.V_slice HO_0.out
            subst eo23
            have q22 : ((rd l1 x32_2) : Int) ≤ ((x0_2.length : Int) : Int) := of_decide_eq_true (by first | (with_reducible assumption) | assumption)
            obtain ⟨i022, hi022, _, hsz22, _⟩ := info_parts info3
            have hroom22 : x0_2.length ≤ co23 := (Kd.V_reads' HO_0.out).2.1
            have hC22 : Kd.F (Kd.int .i64) _ _ Ao23 x0_2.length x0_2 := (Kd.V_at (base := w.heap.size) HO_0.out).2.2
            have hcut22 := cut_to (P := Tryd.prog) 24 3 .i64 Tryd.underlying24 hi022 Ao23 x0_2.length co23 (rd l1 x32_2) (of_decide_eq_true (by first | (with_reducible assumption) | assumption)) q22 hroom22
            have hr22 := Kd.F_take (m := ((rd l1 x32_2) : Int).toNat) hC22 (by omega)
            have hy22 : y235.length = ((rd l1 x32_2) : Int).toNat := (by rw [Ny235.out, List.length_take]; omega)
            rw [← Ny235.out] at hr22
            rw [← hy22] at hcut22
            have HO239 := Aside0.mk (show Kd.V (Kd.int .i64) 3 _ w.heap.size _ (.slice Ao23 y235.length co23) y235 from Kd.V_mk (by omega) hr22)
            have HC239 := Aside0.mk (show y235.length ≤ co23 from by omega)
            clear hr22 hC22 hroom22 hi022 hsz22
            have KY22 := Aside0.mk hy22
            clear hy22
            replace q22 := eq_true q22
            go_wp2_with (first | ((with_reducible refine gate_callee (f := 124) rfl ?_); refine goesL_ (some 40) rfl rfl Tryd.func124 (by kernel_rfl) rfl #[.slice Ao23 y235.length co23] rfl (by (try simp only [List.map_toArray, List.map_cons, List.map_nil]); first | done | rfl | (simp only [List.length_drop, List.length_take]; rfl)) ?_; (with_reducible refine (impl_needs.calls k2 _ _ y235 t240 _ ?side1 ?side2 A18.out).mono ?_); (case side1 => exact cr_ (Kd.V_reads' HO239.out).2.2); (case side2 => exact (Kd.V_reads' HO239.out).2.1); rintro e w' ⟨rfl, ⟨nd, rfl⟩⟩; refine ⟨_, rfl, ?_⟩) | ((with_reducible refine gate_builtin (b := .append) (xs := #[.tmp 36, .tmp 41]) rfl ?_); (try (refine gate_guard (by rfl) ?_; dsimp only)); at_builtin; refine Kd.R_append (Kd.int .i64) (w0 := w) w.heap.size rfl (.tmp 36) (.tmp 41) 24 3 (.int .i64 0) 8 rfl Tryd.underlying24 info3 rfl (by decide) (by omega) u6 x6_2 t240 [.int .i64 t240] (fun k_ => (w.heap.size ≤ k_)) (fun _ => False) rfl rfl ?aP (fun _ hk => hk.elim) ?aF ?aO ?aB ?aS ?aL ?_; (case aP => exact rfl); (case aB => exact bw_); (case aF => exact (fun k_ hk => (Nat.le_trans (below_size bw_) hk))); (case aO => exact (rr_ HO_6.out)); (case aS => exact (below_size bw_)); (case aL => have := LMc19.out; omega); intro v242 w24 ho hb hg hat; rw [← Ny241.out] at ho; have n0_ := Aside0.mk (Kd.V_afterv (ok := (fun k_ => (P0_ k_ ∨ w.heap.size ≤ k_))) (by (with_reducible repeat (first | apply Kd.V_alloc | apply Kd.V_drewN | apply Kd.V_drew)); exact HO_0.out) hg hat); have n1_ := Aside0.mk (Kd.V_afterv (ok := (fun k_ => (P0_ k_ ∨ w.heap.size ≤ k_))) (by (with_reducible repeat (first | apply Kd.V_alloc | apply Kd.V_drewN | apply Kd.V_drew)); exact HO239.out) hg hat); have n2_ := Aside0.mk (hb); have n3_ := Aside0.mk (ho); clear HO_0; clear HO239; clear HB; clear HO_6; have HO_0 := n0_; have HO239 := n1_; have HB := n2_; have HO243 := n3_; clear n0_ n1_ n2_ n3_; clear ho hb hg hat; have q25 : ((rd l1 x32_2) : Int) ≤ ((x0_2.length : Int) : Int) := of_decide_eq_true (by first | (with_reducible assumption) | assumption); obtain ⟨i025, hi025, _, hsz25, _⟩ := info_parts info3; have hroom25 : x0_2.length ≤ co23 := (Kd.V_reads' HO_0.out).2.1; have hC25 : Kd.F (Kd.int .i64) _ _ Ao23 x0_2.length x0_2 := (Kd.V_at (base := w.heap.size) HO_0.out).2.2; have q025 : (0 : Int) ≤ ((rd l1 x32_2) : Int) := of_decide_eq_true (by first | (with_reducible assumption) | assumption); have hcut25 := cut_from (P := Tryd.prog) 24 3 .i64 Tryd.underlying24 hi025 1 hsz25 Ao23 x0_2.length co23 (rd l1 x32_2) q025 q25; have hr25 := Kd.F_cut (m := ((rd l1 x32_2) : Int).toNat) (c := co23) hC25 (by omega) hroom25; obtain ⟨A25, hA25⟩ : ∃ A1, A1 = (if co23 = ((rd l1 x32_2) : Int).toNat then Ao23 else (Ao23 : Option Addr).map (·.add (((rd l1 x32_2) : Int).toNat * 1))) := ⟨_, rfl⟩; obtain ⟨c25, hc25⟩ : ∃ c1, c1 = co23 - ((rd l1 x32_2) : Int).toNat := ⟨_, rfl⟩; have hy25 : y244.length = x0_2.length - ((rd l1 x32_2) : Int).toNat := (by rw [Ny244.out, List.length_drop] <;> omega); rw [show (x0_2).drop ((rd l1 x32_2) : Int).toNat = y244 from Ny244.out.symm] at hr25; replace hr25 : Kd.F (Kd.int .i64) _ _ A25 y244.length y244 := (by rw [hA25]; exact hr25); rw [← hy25, ← hA25, ← hc25] at hcut25; have HO248 := Aside0.mk (show Kd.V (Kd.int .i64) 3 _ w.heap.size _ (.slice A25 y244.length c25) y244 from Kd.V_mk (by rw [hy25, hc25]; exact Nat.sub_le_sub_right hroom25 _) hr25); have HC248 := Aside0.mk (show y244.length ≤ c25 from by rw [hy25, hc25]; exact Nat.sub_le_sub_right hroom25 _); clear hr25 hC25 hroom25 hi025 hsz25 hc25; have KY25 := Aside0.mk hy25; have KA25 := Aside0.mk hA25; clear hy25 hA25; replace q25 := eq_true q25))
            go_roundg k2
            case measure => have := HJ2.out; have := HK2.out; omega
            case rel => exact ⟨(y244), (y241), (wrap64 (x32_2 + 1)), rs_, H', ⟨by have := HJ2.out; have := HK2.out; omega⟩, ⟨by (with_reducible repeat (first | apply Kd.V_alloc | apply Kd.V_drewN | apply Kd.V_drew)); exact HO248.out⟩, ⟨rr_ HO243.out⟩, ⟨bw_⟩⟩
           ·rw [if_neg c19] at H
            exact absurd H (by simp)
          ·rw [if_neg c17] at H
           exact absurd H (by simp)
         ·rw [if_neg c16] at H
          exact absurd H (by simp)
        ·rw [if_neg c15] at H
         exact absurd H (by simp)
       ·rw [if_neg c14] at H
        exact absurd H (by simp)
      ·rw [if_neg c13] at H
       have c13b0 : decide (x32_2 < (l1.length : Int)) = false := decide_eq_false c13
       clear c13
       simp only [Option.some.injEq, Prod.mk.injEq] at H
       obtain ⟨rfl, rfl⟩ := H
       go_wp2
       go_ret2
       exact ⟨_, by first | rfl | (simp [errW_none, errW_some] <;> rfl) | (simp [*, errW_none, errW_some] <;> rfl), by (with_reducible repeat (first | apply Kd.R_alloc | apply Kd.R_drewN | apply Kd.R_drew)); exact HO_6.out, bw_⟩

/-! ### impl_RaggedOf: function 48 -/
mutual
def impl_RaggedOf.j0 : Nat → Int → List Int → Bool → Option (Int × Bool)
 | 0, _, _, _ => none
 | k + 1, x1, x8, x31 => if x31 = true then (some (0, false)) else (if 0 ≤ (wrap64 ((x8.length : Int) - 1)) then (if (wrap64 ((x8.length : Int) - 1)) ≤ (x8.length : Int) then ((some (x8.take ((wrap64 ((x8.length : Int) - 1)) : Int).toNat : List Int)).bind fun y255 => (impl_RaggedOf.l0 k x1 0 y255 (y255.length : Int) 0)) else (none)) else (none))
def impl_RaggedOf.l0 : Nat → Int → Int → List Int → Int → Int → Option (Int × Bool)
 | 0, _, _, _, _, _ => none
 | k + 1, x1, x10, x36, x37, x38 => if x38 < x37 then (if 0 ≤ x38 then (if x38 < (x36.length : Int) then (impl_RaggedOf.l0 k x1 (wrap64 (x10 + (wrap64 ((wrap64 (x1 - (rd x36 x38))) * (wrap64 (x1 - (rd x36 x38))))))) x36 x37 (wrap64 (x38 + 1))) else (none)) else (none)) else (some (x10, true))
end
def impl_RaggedOf.f (k : Nat) (l0 : List Int) (a1 : Int) (l2 : List Int) : Option (Int × Bool) := (impl_widths.f k l0 l2).bind fun bt249 => (if bt249.2 = true then ((impl_within.f a1 1 80).bind fun t253 => (if t253 = true then ((slices_Max_int_int.f bt249.1).bind fun t254 => (impl_RaggedOf.j0 k a1 bt249.1 (decide (t254 > a1)))) else (impl_RaggedOf.j0 k a1 bt249.1 true))) else (impl_RaggedOf.j0 k a1 bt249.1 true))
set_option maxHeartbeats 8000000 in
set_option maxRecDepth 100000 in
theorem impl_RaggedOf.calls (k : Nat) (A0 : Option Addr) (c0 : Nat) (l0 : List Int) (a1 : Int) (A2 : Option Addr) (c2 : Nat) (l2 : List Int) (r1 : Int) (r2 : Bool) (w : World) (hr0 : Kd.C (Kd.int .i64) w A0 l0.length l0) (hc0 : l0.length ≤ c0) (hr2 : Kd.C (Kd.int .i64) w A2 l2.length l2) (hc2 : l2.length ≤ c2) (h : impl_RaggedOf.f k l0 a1 l2 = some (r1, r2)) :
  Calls Tryd.prog 48 #[.slice A0 l0.length c0, .int .i64 a1, .slice A2 l2.length c2] w fun e w' => e = .returned (.tuple #[.int .i64 r1, .bool r2]) ∧ Below w.heap.size w w' := by
 have HR0 := Aside0.mk hr0
 have HC0 := Aside0.mk hc0
 clear hr0 hc0
 have HR2 := Aside0.mk hr2
 have HC2 := Aside0.mk hc2
 clear hr2 hc2
 have HB := Aside0.mk (Below.refl w.heap.size w)
 have H : ((impl_widths.f k l0 l2).bind fun bt249 => (if bt249.2 = true then ((impl_within.f a1 1 80).bind fun t253 => (if t253 = true then ((slices_Max_int_int.f bt249.1).bind fun t254 => (impl_RaggedOf.j0 k a1 bt249.1 (decide (t254 > a1)))) else (impl_RaggedOf.j0 k a1 bt249.1 true))) else (impl_RaggedOf.j0 k a1 bt249.1 true))) = some (r1, r2) := h
 clear h
 replace H := Option.bind_eq_some_iff.mp H
 obtain ⟨⟨t249, t252⟩, A40, H⟩ := H
 replace H : (if t252 = true then ((impl_within.f a1 1 80).bind fun t253 => (if t253 = true then ((slices_Max_int_int.f t249).bind fun t254 => (impl_RaggedOf.j0 k a1 t249 (decide (t254 > a1)))) else (impl_RaggedOf.j0 k a1 t249 true))) else (impl_RaggedOf.j0 k a1 t249 true)) = some (r1, r2) := H
 have A4 := Aside0.mk A40
 clear A40
 have HC5 := Aside0.mk H
 clear H
 go_enter Tryd.func48, Tryd.ntmps48
 go_upto_region 2 with (first | ((with_reducible refine gate_callee (f := 130) rfl ?_); refine goesL_ (some 16) rfl rfl Tryd.func130 (by kernel_rfl) rfl #[.slice A0 l0.length c0, .slice A2 l2.length c2] rfl (by (try simp only [List.map_toArray, List.map_cons, List.map_nil]); first | done | rfl | (simp only [List.length_drop, List.length_take]; rfl)) ?_; (with_reducible refine (impl_widths.calls k (fun k_ => k_ < w.heap.size) _ _ l0 _ _ l2 t249 t252 _ ?side1 ?side2 ?side3 A4.out).mono ?_); (case side1 => exact Kd.V_mk HC0.out (Kd.F_below (Kd.C_F (Kd.heap_int .i64) HR0.out) bw_)); (case side2 => exact cr_ HR2.out); (case side3 => exact HC2.out); rintro e w6 ⟨v250, rfl, ho0, hb⟩; refine ⟨_, rfl, ?_⟩; have n0_ := Aside0.mk (Kd.R_lower (Kd.R_mono (ok' := fun k_ => True) ho0 (fun _ hk_ => trivial)) (below_size bw_)); have n1_ := Aside0.mk (below_step bw_ hb); clear HB; have HO251 := n0_; have HB := n1_; clear n0_ n1_; (try clear hb); (try clear hb2); (try clear hk); (try clear hi); (try clear ho0)))
 (try simp only [Act.put, List.setIfInBounds_toArray, List.set_cons_zero, List.set_cons_succ])
 go_cut [31] (fun v31 wc => ∃ (kq : Nat) (x31_4 : Bool), v31 = .bool x31_4 ∧ Aside0 (impl_RaggedOf.j0 kq a1 t249 x31_4 = some (r1, r2)) ∧ Aside0 (kq ≤ k) ∧ Aside0 (Kd.R (Kd.int .i64) 3 wc w.heap.size (fun _ => True) v250 t249) ∧ Aside0 (Below w.heap.size w wc))
 case first =>
  have H := HC5.out
  clear HC5
  by_cases c7 : t252 = true
  ·subst c7
   have H1 : ((impl_within.f a1 1 80).bind fun t253 => (if t253 = true then ((slices_Max_int_int.f t249).bind fun t254 => (impl_RaggedOf.j0 k a1 t249 (decide (t254 > a1)))) else (impl_RaggedOf.j0 k a1 t249 true))) = some (r1, r2) := by rw [if_pos rfl] at H; exact H
   clear H
   have H := H1
   clear H1
   replace H := Option.bind_eq_some_iff.mp H
   obtain ⟨t253, A80, H⟩ := H
   replace H : (if t253 = true then ((slices_Max_int_int.f t249).bind fun t254 => (impl_RaggedOf.j0 k a1 t249 (decide (t254 > a1)))) else (impl_RaggedOf.j0 k a1 t249 true)) = some (r1, r2) := H
   have A8 := Aside0.mk A80
   clear A80
   by_cases c9 : t253 = true
   ·subst c9
    have H1 : ((slices_Max_int_int.f t249).bind fun t254 => (impl_RaggedOf.j0 k a1 t249 (decide (t254 > a1)))) = some (r1, r2) := by rw [if_pos rfl] at H; exact H
    clear H
    have H := H1
    clear H1
    replace H := Option.bind_eq_some_iff.mp H
    obtain ⟨t254, A100, H⟩ := H
    replace H : (impl_RaggedOf.j0 k a1 t249 (decide (t254 > a1))) = some (r1, r2) := H
    have A10 := Aside0.mk A100
    clear A100
    have H' := Aside0.mk H
    clear H
    go_wp2_with (first | (go_at_call 90; (with_reducible refine (impl_within.calls a1 1 80 true _ A8.out).mono ?_); rintro e w' ⟨rfl, ⟨nd, rfl⟩⟩; obtain ⟨Ao11, co11, eo11⟩ := Kd.R_slice HO251.out; subst eo11) | (go_at_call 91; (with_reducible refine (slices_Max_int_int.calls _ _ t249 t254 _ ?side1 ?side2 A10.out).mono ?_); (case side1 => exact cr_ (Kd.R_reads' HO251.out).2.2); (case side2 => exact (Kd.R_reads' HO251.out).2.1); rintro e w' ⟨rfl, ⟨nd, rfl⟩⟩))
    go_meet
    case rel => exact ⟨_, (decide (t254 > a1)), rs_, H', ⟨by first | omega | exact Nat.le_refl _⟩, ⟨rr_ HO251.out⟩, ⟨bw_⟩⟩
   ·replace c9 := Bool.eq_false_iff.mpr c9
    subst c9
    have H1 : (impl_RaggedOf.j0 k a1 t249 true) = some (r1, r2) := by rw [if_neg (show ¬ (false = true) by decide)] at H; exact H
    clear H
    have H := H1
    clear H1
    have H' := Aside0.mk H
    clear H
    go_wp2_with (first | (go_at_call 90; (with_reducible refine (impl_within.calls a1 1 80 false _ A8.out).mono ?_); rintro e w' ⟨rfl, ⟨nd, rfl⟩⟩))
    go_meet
    case rel => exact ⟨_, (true), rs_, H', ⟨by first | omega | exact Nat.le_refl _⟩, ⟨rr_ HO251.out⟩, ⟨bw_⟩⟩
  ·replace c7 := Bool.eq_false_iff.mpr c7
   subst c7
   have H1 : (impl_RaggedOf.j0 k a1 t249 true) = some (r1, r2) := by rw [if_neg (show ¬ (false = true) by decide)] at H; exact H
   clear H
   have H := H1
   clear H1
   have H' := Aside0.mk H
   clear H
   go_wp2
   go_meet
   case rel => exact ⟨_, (true), rs_, H', ⟨by first | omega | exact Nat.le_refl _⟩, ⟨rr_ HO251.out⟩, ⟨bw_⟩⟩
 case rest =>
  clear HC5
  (try clear c1); (try clear c2); (try clear p2); (try clear c4); (try clear c7); (try clear c9)
  obtain ⟨kq, x31_4, rfl, HA, HJ4, HO_8, HB⟩ := hcut
  cases kq with
  | zero => exact absurd HA.out (by simp [impl_RaggedOf.j0])
  | succ kj4 =>
   have H := HA.out
   clear HA
   simp only [impl_RaggedOf.j0] at H
   by_cases c12 : x31_4 = true
   ·subst c12
    have H1 : (some (0, false)) = some (r1, r2) := by rw [if_pos rfl] at H; exact H
    clear H
    have H := H1
    clear H1
    simp only [Option.some.injEq, Prod.mk.injEq] at H
    obtain ⟨rfl, rfl⟩ := H
    go_wp2
    go_ret2
    exact ⟨by first | rfl | (simp [errW_none, errW_some] <;> rfl) | (simp [*, errW_none, errW_some] <;> rfl), bw_⟩
   ·replace c12 := Bool.eq_false_iff.mpr c12
    subst c12
    have H1 : (if 0 ≤ (wrap64 ((t249.length : Int) - 1)) then (if (wrap64 ((t249.length : Int) - 1)) ≤ (t249.length : Int) then ((some (t249.take ((wrap64 ((t249.length : Int) - 1)) : Int).toNat : List Int)).bind fun y255 => (impl_RaggedOf.l0 kj4 a1 0 y255 (y255.length : Int) 0)) else (none)) else (none)) = some (r1, r2) := by rw [if_neg (show ¬ (false = true) by decide)] at H; exact H
    clear H
    have H := H1
    clear H1
    obtain ⟨ji13, hji13⟩ : ∃ j_ : Int, (wrap64 ((t249.length : Int) - 1)) = j_ := ⟨_, rfl⟩
    replace H : (if 0 ≤ (ji13) then (if (ji13) ≤ (t249.length : Int) then ((some (t249.take ((ji13) : Int).toNat : List Int)).bind fun y255 => (impl_RaggedOf.l0 kj4 a1 0 y255 (y255.length : Int) 0)) else (none)) else (none)) = some (r1, r2) := by first | (rw [hji13] at H; exact H) | (simp only [hji13] at H ⊢; exact H)
    have hji13w : (IntKind.i64.wrap ((t249.length : Int) - 1)) = ji13 := (i64_w _).trans hji13
    by_cases c14 : 0 ≤ (ji13)
    ·rw [if_pos c14] at H
     have c14b0 := eq_true c14
     have c14b1 : decide (0 ≤ (ji13)) = true := decide_eq_true c14
     clear c14
     by_cases c15 : (ji13) ≤ (t249.length : Int)
     ·rw [if_pos c15] at H
      have c15b0 := eq_true c15
      have c15b1 : decide ((ji13) ≤ (t249.length : Int)) = true := decide_eq_true c15
      clear c15
      obtain ⟨y255, hy255⟩ : ∃ y_ : List Int, y_ = (t249.take ((ji13) : Int).toNat) := ⟨_, rfl⟩
      replace H : (impl_RaggedOf.l0 kj4 a1 0 y255 (y255.length : Int) 0) = some (r1, r2) := by first | (rw [hy255]; with_reducible exact H) | (have H2_ := (Option.bind_some _ _).symm.trans H; rw [hy255]; with_reducible exact H2_) | (have H2_ := (Option.bind_some _ _).symm.trans H; with_reducible exact H2_) | with_reducible exact H | (rw [hy255]; exact H) | exact H
      have Ny255 := Aside0.mk hy255
      clear hy255
      have H' := Aside0.mk H
      clear H
      obtain ⟨Ao16, co16, eo16⟩ := Kd.R_slice HO_8.out
      subst eo16
      have q17 : ((ji13) : Int) ≤ ((t249.length : Int) : Int) := of_decide_eq_true (by first | (with_reducible assumption) | assumption)
      obtain ⟨i017, hi017, _, hsz17, _⟩ := info_parts info3
      have hroom17 : t249.length ≤ co16 := (Kd.R_reads' HO_8.out).2.1
      have hC17 : Kd.C (Kd.int .i64) _ Ao16 t249.length t249 := (Kd.R_reads' HO_8.out).2.2
      have hcut17 := cut_to (P := Tryd.prog) 24 3 .i64 Tryd.underlying24 hi017 Ao16 t249.length co16 (ji13) (of_decide_eq_true (by first | (with_reducible assumption) | assumption)) q17 hroom17
      have hr17 := Kd.C_take (m := ((ji13) : Int).toNat) hC17 (by omega)
      have hy17 : y255.length = ((ji13) : Int).toNat := (by rw [Ny255.out, List.length_take]; omega)
      rw [← Ny255.out] at hr17
      rw [← hy17] at hcut17
      have HR258 := Aside0.mk hr17
      have HC258 := Aside0.mk (show y255.length ≤ co16 from by omega)
      clear hr17 hC17 hroom17 hi017 hsz17
      have KY17 := Aside0.mk hy17
      clear hy17
      have KL17 := Aside0.mk (show ((ji13) : Int).toNat ≤ t249.length from by omega)
      replace q17 := eq_true q17
      go_wp2
      go_loopg [10, 38] kj4 (fun kq v10 v38 w' => ∃ (x10_2 : Int) (x38_2 : Int), v10 = .int .i64 x10_2 ∧ v38 = .int .i64 x38_2 ∧ Aside0 (impl_RaggedOf.l0 kq a1 x10_2 y255 (y255.length : Int) x38_2 = some (r1, r2)) ∧ Aside0 (kq ≤ kj4) ∧ Aside0 (Kd.C (Kd.int .i64) w' Ao16 y255.length y255) ∧ Aside0 (Below w.heap.size w w'))
      case atStart => exact ⟨(0), (0), rs_, rs_, H', ⟨Nat.le_refl _⟩, ⟨by repeat (first | (with_reducible exact HR258.out) | (with_reducible refine Kd.C_alloc ?_ _) | (with_reducible refine Kd.C_drewN ?_ _) | (with_reducible refine Kd.C_drew ?_) | exact HR258.out)⟩, ⟨bw_⟩⟩
      case round =>
       clear H'
       (try clear c1); (try clear q1); (try clear c2); (try clear p2); (try clear c4); (try clear p6); (try clear c7); (try clear c9); (try clear c12); (try clear c13); (try clear c14); (try clear c14b0); (try clear c14b1); (try clear c15); (try clear c15b0); (try clear c15b1); (try clear q17)
       obtain ⟨x10_2, x38_2, rfl, rfl, HA, HK2, HR258, HB⟩ := hrel
       cases gk with
       | zero => exact absurd HA.out (by simp [impl_RaggedOf.l0])
       | succ k2 =>
        have H := HA.out
        clear HA
        simp only [impl_RaggedOf.l0] at H
        by_cases c18 : x38_2 < (y255.length : Int)
        ·rw [if_pos c18] at H
         have c18b0 : decide (x38_2 < (y255.length : Int)) = true := decide_eq_true c18
         clear c18
         by_cases c19 : 0 ≤ x38_2
         ·rw [if_pos c19] at H
          have c19b0 : decide (0 ≤ x38_2) = true := decide_eq_true c19
          clear c19
          by_cases c20 : x38_2 < (y255.length : Int)
          ·rw [if_pos c20] at H
           have c20b0 : decide (x38_2 < (y255.length : Int)) = true := decide_eq_true c20
           clear c20
           have H' := Aside0.mk H
           clear H
           have p259 : 0 ≤ (x38_2 : Int) := of_decide_eq_true (by first | (with_reducible assumption) | assumption)
           have q259 : x38_2 < (y255.length : Int) := of_decide_eq_true (by first | (with_reducible assumption) | assumption)
           obtain ⟨ad259, e259, hx259_0⟩ := Kd.at_int HR258.out x38_2 p259 q259
           cases e259
           replace p259 := eq_true p259
           replace q259 := eq_true q259
           go_wp2
           go_roundg k2
           case measure => have := HJ4.out; have := HK2.out; omega
           case rel => exact ⟨(wrap64 (x10_2 + (wrap64 ((wrap64 (a1 - (rd y255 x38_2))) * (wrap64 (a1 - (rd y255 x38_2))))))), (wrap64 (x38_2 + 1)), rs_, rs_, H', ⟨by have := HJ4.out; have := HK2.out; omega⟩, ⟨by repeat (first | (with_reducible exact HR258.out) | (with_reducible refine Kd.C_alloc ?_ _) | (with_reducible refine Kd.C_drewN ?_ _) | (with_reducible refine Kd.C_drew ?_) | exact HR258.out)⟩, ⟨bw_⟩⟩
          ·rw [if_neg c20] at H
           exact absurd H (by simp)
         ·rw [if_neg c19] at H
          exact absurd H (by simp)
        ·rw [if_neg c18] at H
         have c18b0 : decide (x38_2 < (y255.length : Int)) = false := decide_eq_false c18
         clear c18
         simp only [Option.some.injEq, Prod.mk.injEq] at H
         obtain ⟨rfl, rfl⟩ := H
         go_wp2
         go_ret2
         exact ⟨by first | rfl | (simp [errW_none, errW_some] <;> rfl) | (simp only [← hji13]; first | rfl | (simp [errW_none, errW_some] <;> rfl)) | (simp [*, errW_none, errW_some] <;> rfl), bw_⟩
     ·rw [if_neg c15] at H
      exact absurd H (by simp)
    ·rw [if_neg c14] at H
     exact absurd H (by simp)

/-! ### impl_WidthsUsed: function 49 -/
def impl_WidthsUsed.f (k : Nat) (l0 : List Int) (l1 : List Int) : Option (List Int × Bool) := (impl_widths.f k l0 l1).bind fun bt260 => (some (bt260.1, bt260.2))
set_option maxHeartbeats 8000000 in
set_option maxRecDepth 100000 in
theorem impl_WidthsUsed.calls (k : Nat) (A0 : Option Addr) (c0 : Nat) (l0 : List Int) (A1 : Option Addr) (c1 : Nat) (l1 : List Int) (r1 : List Int) (r2 : Bool) (w : World) (hr0 : Kd.C (Kd.int .i64) w A0 l0.length l0) (hc0 : l0.length ≤ c0) (hr1 : Kd.C (Kd.int .i64) w A1 l1.length l1) (hc1 : l1.length ≤ c1) (h : impl_WidthsUsed.f k l0 l1 = some (r1, r2)) :
  Calls Tryd.prog 49 #[.slice A0 l0.length c0, .slice A1 l1.length c1] w fun e w' => ∃ v0_ : Value, e = .returned (.tuple #[v0_, .bool r2]) ∧ Kd.R (Kd.int .i64) 3 w' w.heap.size (fun _ => True) v0_ r1 ∧ Below w.heap.size w w' := by
 have HR0 := Aside0.mk hr0
 have HC0 := Aside0.mk hc0
 clear hr0 hc0
 have HR1 := Aside0.mk hr1
 have HC1 := Aside0.mk hc1
 clear hr1 hc1
 have HB := Aside0.mk (Below.refl w.heap.size w)
 have H : ((impl_widths.f k l0 l1).bind fun bt260 => (some (bt260.1, bt260.2))) = some (r1, r2) := h
 clear h
 replace H := Option.bind_eq_some_iff.mp H
 obtain ⟨⟨t260, t263⟩, A30, H⟩ := H
 replace H : (some (t260, t263)) = some (r1, r2) := H
 have A3 := Aside0.mk A30
 clear A30
 simp only [Option.some.injEq, Prod.mk.injEq] at H
 obtain ⟨rfl, rfl⟩ := H
 go_enter Tryd.func49, Tryd.ntmps49
 go_wp2_with (first | ((with_reducible refine gate_callee (f := 130) rfl ?_); refine goesL_ (some 8) rfl rfl Tryd.func130 (by kernel_rfl) rfl #[.slice A0 l0.length c0, .slice A1 l1.length c1] rfl (by (try simp only [List.map_toArray, List.map_cons, List.map_nil]); first | done | rfl | (simp only [List.length_drop, List.length_take]; rfl)) ?_; (with_reducible refine (impl_widths.calls k (fun k_ => k_ < w.heap.size) _ _ l0 _ _ l1 t260 t263 _ ?side1 ?side2 ?side3 A3.out).mono ?_); (case side1 => exact Kd.V_mk HC0.out (Kd.F_below (Kd.C_F (Kd.heap_int .i64) HR0.out) bw_)); (case side2 => exact cr_ HR1.out); (case side3 => exact HC1.out); rintro e w4 ⟨v261, rfl, ho0, hb⟩; refine ⟨_, rfl, ?_⟩; have n0_ := Aside0.mk (Kd.R_lower (Kd.R_mono (ok' := fun k_ => True) ho0 (fun _ hk_ => trivial)) (below_size bw_)); have n1_ := Aside0.mk (below_step bw_ hb); clear HB; have HO262 := n0_; have HB := n1_; clear n0_ n1_; (try clear hb); (try clear hb2); (try clear hk); (try clear hi); (try clear ho0)))
 go_ret2
 exact ⟨_, by first | rfl | (simp [errW_none, errW_some] <;> rfl) | (simp [*, errW_none, errW_some] <;> rfl), by (with_reducible repeat (first | apply Kd.R_alloc | apply Kd.R_drewN | apply Kd.R_drew)); exact HO262.out, bw_⟩

/-! ### impl_LeastWidth: function 50 -/
mutual
def impl_LeastWidth.j0 : Nat → List Int → Int → Bool → Option (Int × Bool)
 | 0, _, _, _ => none
 | k + 1, x0, x1, x14 => if x14 = true then (some (0, false)) else ((slices_Max_int_int.f x0).bind fun t266 => (impl_LeastWidth.l0 k x0 x1 t266))
def impl_LeastWidth.l0 : Nat → List Int → Int → Int → Option (Int × Bool)
 | 0, _, _, _ => none
 | k + 1, x0, x1, x6 => if x6 ≤ 80 then ((impl_filled.f k x0 x6).bind fun t267 => (if (t267.length : Int) ≤ x1 then (some (x6, true)) else (impl_LeastWidth.l0 k x0 x1 (wrap64 (x6 + 1))))) else (some (0, false))
end
def impl_LeastWidth.f (k : Nat) (l0 : List Int) (a1 : Int) : Option (Int × Bool) := (impl_AreWords.f k l0).bind fun t264 => (if t264 = true then ((impl_within.f a1 1 30).bind fun t265 => (impl_LeastWidth.j0 k l0 a1 (!t265))) else (impl_LeastWidth.j0 k l0 a1 true))
set_option maxHeartbeats 8000000 in
set_option maxRecDepth 100000 in
theorem impl_LeastWidth.calls (k : Nat) (A0 : Option Addr) (c0 : Nat) (l0 : List Int) (a1 : Int) (r1 : Int) (r2 : Bool) (w : World) (hr0 : Kd.C (Kd.int .i64) w A0 l0.length l0) (hc0 : l0.length ≤ c0) (h : impl_LeastWidth.f k l0 a1 = some (r1, r2)) :
  Calls Tryd.prog 50 #[.slice A0 l0.length c0, .int .i64 a1] w fun e w' => e = .returned (.tuple #[.int .i64 r1, .bool r2]) ∧ Below w.heap.size w w' := by
 have HR0 := Aside0.mk hr0
 have HC0 := Aside0.mk hc0
 clear hr0 hc0
 have HB := Aside0.mk (Below.refl w.heap.size w)
 have H : ((impl_AreWords.f k l0).bind fun t264 => (if t264 = true then ((impl_within.f a1 1 30).bind fun t265 => (impl_LeastWidth.j0 k l0 a1 (!t265))) else (impl_LeastWidth.j0 k l0 a1 true))) = some (r1, r2) := h
 clear h
 have HC3 := Aside0.mk H
 clear H
 go_enter Tryd.func50, Tryd.ntmps50
 go_upto_region 1 with (fail)
 go_cut [14] (fun v14 wc => ∃ (kq : Nat) (x14_2 : Bool), v14 = .bool x14_2 ∧ Aside0 (impl_LeastWidth.j0 kq l0 a1 x14_2 = some (r1, r2)) ∧ Aside0 (kq ≤ k) ∧ Aside0 (Below w.heap.size w wc))
 case first =>
  have H := HC3.out
  clear HC3
  replace H := Option.bind_eq_some_iff.mp H
  obtain ⟨t264, A40, H⟩ := H
  replace H : (if t264 = true then ((impl_within.f a1 1 30).bind fun t265 => (impl_LeastWidth.j0 k l0 a1 (!t265))) else (impl_LeastWidth.j0 k l0 a1 true)) = some (r1, r2) := H
  have A4 := Aside0.mk A40
  clear A40
  by_cases c5 : t264 = true
  ·subst c5
   have H1 : ((impl_within.f a1 1 30).bind fun t265 => (impl_LeastWidth.j0 k l0 a1 (!t265))) = some (r1, r2) := by rw [if_pos rfl] at H; exact H
   clear H
   have H := H1
   clear H1
   replace H := Option.bind_eq_some_iff.mp H
   obtain ⟨t265, A60, H⟩ := H
   replace H : (impl_LeastWidth.j0 k l0 a1 (!t265)) = some (r1, r2) := H
   have A6 := Aside0.mk A60
   clear A60
   have H' := Aside0.mk H
   clear H
   go_wp2_with (first | ((with_reducible refine gate_callee (f := 46) rfl ?_); refine goesL_ (some 8) rfl rfl Tryd.func46 (by kernel_rfl) rfl #[.slice A0 l0.length c0] rfl (by (try simp only [List.map_toArray, List.map_cons, List.map_nil]); first | done | rfl | (simp only [List.length_drop, List.length_take]; rfl)) ?_; (with_reducible refine (impl_AreWords.calls k _ _ l0 true _ ?side1 ?side2 A4.out).mono ?_); (case side1 => exact cr_ (Kd.C_below HR0.out HB.out)); (case side2 => exact HC0.out); rintro e w' ⟨rfl, ⟨nd, rfl⟩⟩; refine ⟨_, rfl, ?_⟩) | (go_at_call 90; (with_reducible refine (impl_within.calls a1 1 30 t265 _ A6.out).mono ?_); rintro e w' ⟨rfl, ⟨nd, rfl⟩⟩))
   go_meet
   case rel => exact ⟨_, (!t265), rs_, H', ⟨by first | omega | exact Nat.le_refl _⟩, ⟨bw_⟩⟩
  ·replace c5 := Bool.eq_false_iff.mpr c5
   subst c5
   have H1 : (impl_LeastWidth.j0 k l0 a1 true) = some (r1, r2) := by rw [if_neg (show ¬ (false = true) by decide)] at H; exact H
   clear H
   have H := H1
   clear H1
   have H' := Aside0.mk H
   clear H
   go_wp2_with (first | ((with_reducible refine gate_callee (f := 46) rfl ?_); refine goesL_ (some 8) rfl rfl Tryd.func46 (by kernel_rfl) rfl #[.slice A0 l0.length c0] rfl (by (try simp only [List.map_toArray, List.map_cons, List.map_nil]); first | done | rfl | (simp only [List.length_drop, List.length_take]; rfl)) ?_; (with_reducible refine (impl_AreWords.calls k _ _ l0 false _ ?side1 ?side2 A4.out).mono ?_); (case side1 => exact cr_ (Kd.C_below HR0.out HB.out)); (case side2 => exact HC0.out); rintro e w' ⟨rfl, ⟨nd, rfl⟩⟩; refine ⟨_, rfl, ?_⟩))
   go_meet
   case rel => exact ⟨_, (true), rs_, H', ⟨by first | omega | exact Nat.le_refl _⟩, ⟨bw_⟩⟩
 case rest =>
  clear HC3
  (try clear p2); (try clear c4); (try clear c5)
  obtain ⟨kq, x14_2, rfl, HA, HJ2, HB⟩ := hcut
  cases kq with
  | zero => exact absurd HA.out (by simp [impl_LeastWidth.j0])
  | succ kj2 =>
   have H := HA.out
   clear HA
   simp only [impl_LeastWidth.j0] at H
   by_cases c7 : x14_2 = true
   ·subst c7
    have H1 : (some (0, false)) = some (r1, r2) := by rw [if_pos rfl] at H; exact H
    clear H
    have H := H1
    clear H1
    simp only [Option.some.injEq, Prod.mk.injEq] at H
    obtain ⟨rfl, rfl⟩ := H
    go_wp2
    go_ret2
    exact ⟨by first | rfl | (simp [errW_none, errW_some] <;> rfl) | (simp [*, errW_none, errW_some] <;> rfl), bw_⟩
   ·replace c7 := Bool.eq_false_iff.mpr c7
    subst c7
    have H1 : ((slices_Max_int_int.f l0).bind fun t266 => (impl_LeastWidth.l0 kj2 l0 a1 t266)) = some (r1, r2) := by rw [if_neg (show ¬ (false = true) by decide)] at H; exact H
    clear H
    have H := H1
    clear H1
    replace H := Option.bind_eq_some_iff.mp H
    obtain ⟨t266, A80, H⟩ := H
    replace H : (impl_LeastWidth.l0 kj2 l0 a1 t266) = some (r1, r2) := H
    have A8 := Aside0.mk A80
    clear A80
    have H' := Aside0.mk H
    clear H
    go_wp2_with (first | ((with_reducible refine gate_callee (f := 91) rfl ?_); refine goesL_ (some 16) rfl rfl Tryd.func91 (by kernel_rfl) rfl #[.slice A0 l0.length c0] rfl (by (try simp only [List.map_toArray, List.map_cons, List.map_nil]); first | done | rfl | (simp only [List.length_drop, List.length_take]; rfl)) ?_; (with_reducible refine (slices_Max_int_int.calls _ _ l0 t266 _ ?side1 ?side2 A8.out).mono ?_); (case side1 => exact cr_ (Kd.C_below HR0.out HB.out)); (case side2 => exact HC0.out); rintro e w' ⟨rfl, ⟨nd, rfl⟩⟩; refine ⟨_, rfl, ?_⟩))
    go_loopg [6] kj2 (fun kq v6 w' => ∃ (x6_2 : Int), v6 = .int .i64 x6_2 ∧ Aside0 (impl_LeastWidth.l0 kq l0 a1 x6_2 = some (r1, r2)) ∧ Aside0 (kq ≤ kj2) ∧ Aside0 (Below w.heap.size w w'))
    case atStart => exact ⟨(t266), rs_, H', ⟨Nat.le_refl _⟩, ⟨bw_⟩⟩
    case round =>
     clear H'
     (try clear p2); (try clear c4); (try clear c5); (try clear c7)
     obtain ⟨x6_2, rfl, HA, HK2, HB⟩ := hrel
     cases gk with
     | zero => exact absurd HA.out (by simp [impl_LeastWidth.l0])
     | succ k2 =>
      have H := HA.out
      clear HA
      simp only [impl_LeastWidth.l0] at H
      by_cases c9 : x6_2 ≤ 80
      ·rw [if_pos c9] at H
       have c9b0 : decide (x6_2 ≤ 80) = true := decide_eq_true c9
       clear c9
       replace H := Option.bind_eq_some_iff.mp H
       obtain ⟨t267, A100, H⟩ := H
       replace H : (if (t267.length : Int) ≤ a1 then (some (x6_2, true)) else (impl_LeastWidth.l0 k2 l0 a1 (wrap64 (x6_2 + 1)))) = some (r1, r2) := H
       have A10 := Aside0.mk A100
       clear A100
       by_cases c11 : (t267.length : Int) ≤ a1
       ·rw [if_pos c11] at H
        have c11b0 : decide ((t267.length : Int) ≤ a1) = true := decide_eq_true c11
        clear c11
        simp only [Option.some.injEq, Prod.mk.injEq] at H
        obtain ⟨rfl, rfl⟩ := H
        go_wp2_with (first | ((with_reducible refine gate_callee (f := 118) rfl ?_); refine goesL_ (some 23) rfl rfl Tryd.func118 (by kernel_rfl) rfl #[.slice A0 l0.length c0, .int .i64 x6_2] rfl (by (try simp only [List.map_toArray, List.map_cons, List.map_nil]); first | done | rfl | (simp only [List.length_drop, List.length_take]; rfl)) ?_; (with_reducible refine (impl_filled.calls k2 (fun k_ => k_ < w.heap.size) _ _ l0 x6_2 t267 _ ?side1 A10.out).mono ?_); (case side1 => exact Kd.V_mk HC0.out (Kd.F_below (Kd.C_F (Kd.heap_int .i64) HR0.out) bw_)); rintro e w12 ⟨v268, rfl, ho0, hb⟩; refine ⟨_, rfl, ?_⟩; have n0_ := Aside0.mk (Kd.R_lower (Kd.R_mono (ok' := fun k_ => True) ho0 (fun _ hk_ => trivial)) (below_size bw_)); have n1_ := Aside0.mk (below_step bw_ hb); clear HB; have HO269 := n0_; have HB := n1_; clear n0_ n1_; (try clear hb); (try clear hb2); (try clear hk); (try clear hi); (try clear ho0); obtain ⟨Ao13, co13, eo13⟩ := Kd.R_slice HO269.out; subst eo13))
        go_ret2
        exact ⟨by first | rfl | (simp [errW_none, errW_some] <;> rfl) | (simp [*, errW_none, errW_some] <;> rfl), bw_⟩
       ·rw [if_neg c11] at H
        have c11b0 : decide ((t267.length : Int) ≤ a1) = false := decide_eq_false c11
        clear c11
        have H' := Aside0.mk H
        clear H
        go_wp2_with (first | ((with_reducible refine gate_callee (f := 118) rfl ?_); refine goesL_ (some 23) rfl rfl Tryd.func118 (by kernel_rfl) rfl #[.slice A0 l0.length c0, .int .i64 x6_2] rfl (by (try simp only [List.map_toArray, List.map_cons, List.map_nil]); first | done | rfl | (simp only [List.length_drop, List.length_take]; rfl)) ?_; (with_reducible refine (impl_filled.calls k2 (fun k_ => k_ < w.heap.size) _ _ l0 x6_2 t267 _ ?side1 A10.out).mono ?_); (case side1 => exact Kd.V_mk HC0.out (Kd.F_below (Kd.C_F (Kd.heap_int .i64) HR0.out) bw_)); rintro e w14 ⟨v268, rfl, ho0, hb⟩; refine ⟨_, rfl, ?_⟩; have n0_ := Aside0.mk (Kd.R_lower (Kd.R_mono (ok' := fun k_ => True) ho0 (fun _ hk_ => trivial)) (below_size bw_)); have n1_ := Aside0.mk (below_step bw_ hb); clear HB; have HO269 := n0_; have HB := n1_; clear n0_ n1_; (try clear hb); (try clear hb2); (try clear hk); (try clear hi); (try clear ho0); obtain ⟨Ao15, co15, eo15⟩ := Kd.R_slice HO269.out; subst eo15))
        go_roundg k2
        case measure => have := HJ2.out; have := HK2.out; omega
        case rel => exact ⟨(wrap64 (x6_2 + 1)), rs_, H', ⟨by have := HJ2.out; have := HK2.out; omega⟩, ⟨bw_⟩⟩
      ·rw [if_neg c9] at H
       have c9b0 : decide (x6_2 ≤ 80) = false := decide_eq_false c9
       clear c9
       simp only [Option.some.injEq, Prod.mk.injEq] at H
       obtain ⟨rfl, rfl⟩ := H
       go_wp2
       go_ret2
       exact ⟨by first | rfl | (simp [errW_none, errW_some] <;> rfl) | (simp [*, errW_none, errW_some] <;> rfl), bw_⟩

end Go.Proofs.YtpedlkhfeoeogaaDoor.PFnLinesSet
