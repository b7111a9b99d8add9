-- Printed by a program of this repository (wip/xprint.py), over contracts of its own for what the kit's print does not take. Lean checks it.
import Derived.Test.YtpedlkhfeoeogaaDoorPFnVolumesSplitx0
import Derived.Test.YtpedlkhfeoeogaaDoorPFnVolumesSplitx1
import Derived.Test.YtpedlkhfeoeogaaDoorPFnVolumesSplitx2
import Derived.Test.YtpedlkhfeoeogaaDoorPFnVolumesSplitx3
import Derived.Test.YtpedlkhfeoeogaaDoorPFnVolumesSplitx4
import Derived.Test.YtpedlkhfeoeogaaDoorPFnVolumesSplitx5
import Derived.Test.YtpedlkhfeoeogaaDoorPFnVolumesSplitx6
import Derived.Test.YtpedlkhfeoeogaaDoorPFnVolumesSplitx7
import Derived.Test.YtpedlkhfeoeogaaDoorPFnVolumesSplitx8
import Derived.Test.YtpedlkhfeoeogaaDoorPFnVolumesSplitx9
import Derived.Test.YtpedlkhfeoeogaaDoorPFnVolumesSplitx10
import Derived.Test.YtpedlkhfeoeogaaDoorPFnVolumesSplitx22
namespace Go.Proofs.YtpedlkhfeoeogaaDoor.PFnVolumesSplit
open Go.RowKit Go.Proofs.YtpedlkhfeoeogaaDoorW.PrintWords Go.Proofs.YtpedlkhfeoeogaaDoorW.PrintLast Go.Proofs.YtpedlkhfeoeogaaDoorW.PrintMore
attribute [local go_sem] max2_int min2_int max_two min_two max_three min_three max_four min_four   -- for this text's walks alone
set_option linter.unusedVariables false
set_option linter.unusedSimpArgs false

set_option maxHeartbeats 400000000 in
set_option maxRecDepth 100000 in
theorem laws_FnVolumesSplit.calls (k : Nat) (A0 : Option Addr) (c0 : Nat) (l0 : List Int) (A1 : Option Addr) (c1 : Nat) (l1 : List Int) (r : Bool) (w : World) (hr0 : Kd.C (Kd.int .u8) w A0 l0.length l0) (hc0 : l0.length ≤ c0) (hr1 : Kd.C (Kd.int .u8) w A1 l1.length l1) (hc1 : l1.length ≤ c1) (hT : TabB w) (hr_ : Aside0 (r = true)) (h : laws_FnVolumesSplit.f k l0 l1 = some r) :
  Calls Tryd.prog 3 #[.slice A0 l0.length c0, .slice A1 l1.length c1] w fun e w' => e = .returned (.bool r) ∧ Below w.heap.size w w' := by
 have HR0 := Aside0.mk hr0
 have HC0 := Aside0.mk hc0
 clear hr0 hc0
 have HR1 := Aside0.mk hr1
 have HC1 := Aside0.mk hc1
 clear hr1 hc1
 have HB := Aside0.mk (Below.refl w.heap.size w)
 have HT := Aside0.mk hT
 clear hT
 have H : ((laws_big.f l0 l1).bind fun t396 => (if t396 = true then (some true) else ((spec_DrawFirstVolumes.f k l0).bind fun bt397 => ((impl_FirstVolumes.f k bt397.1 bt397.2).bind fun bt401 => ((spec_FirstVolumes.f k bt397.1 bt397.2).bind fun bt405 => ((impl_LeastVolume.f k bt397.1 bt397.2).bind fun bt409 => ((spec_LeastVolume.f k bt397.1 bt397.2).bind fun bt411 => (if (bt401.2 != bt405.2) = true then (laws_FnVolumesSplit.j0 k l1 bt397.1 bt397.2 bt401.1 bt401.2 bt409.1 true) else ((laws_xSame.f k bt401.1 bt405.1).bind fun t413 => (if t413 = true then (if (bt409.2 != bt411.2) = true then (laws_FnVolumesSplit.j0 k l1 bt397.1 bt397.2 bt401.1 bt401.2 bt409.1 true) else (if bt409.1 = bt411.1 then (laws_FnVolumesSplit.j0 k l1 bt397.1 bt397.2 bt401.1 bt401.2 bt409.1 (bt409.2 != bt401.2)) else (laws_FnVolumesSplit.j0 k l1 bt397.1 bt397.2 bt401.1 bt401.2 bt409.1 true))) else (laws_FnVolumesSplit.j0 k l1 bt397.1 bt397.2 bt401.1 bt401.2 bt409.1 true))))))))))) = some r := h
 clear h
 replace H := Option.bind_eq_some_iff.mp H
 obtain ⟨t396, A30, H⟩ := H
 (try dsimp only at H)
 have A3 := Aside0.mk A30
 clear A30
 by_cases c4 : t396 = true
 ·subst c4
  have H1 : (some true) = some r := by rw [if_pos rfl] at H; exact H
  clear H
  have H := H1
  clear H1
  obtain rfl := Option.some.inj H
  simp only [Option.some.injEq, Prod.mk.injEq] at H
  obtain ⟨rfl⟩ := H
  go_enter Tryd.func3, Tryd.ntmps3
  go_wp2_with (first | ((with_reducible refine gate_callee (f := 6) rfl ?_); refine goesL_ (some 77) rfl rfl Tryd.func6 (by kernel_rfl) rfl #[.slice A0 l0.length c0, .slice A1 l1.length c1] rfl (by (try simp only [List.map_toArray, List.map_cons, List.map_nil]); first | done | rfl | (simp only [List.length_drop, List.length_take]; rfl)) ?_; (with_reducible refine (laws_big.calls _ _ l0 _ _ l1 true _ ?side1 ?side2 ?side3 ?side4 A3.out).mono ?_); (case side1 => exact cr_ HR0.out); (case side2 => exact HC0.out); (case side3 => exact cr_ HR1.out); (case side4 => exact HC1.out); rintro e w' ⟨rfl, ⟨nd, rfl⟩⟩; refine ⟨_, rfl, ?_⟩))
  go_ret
  exact ⟨by first | rfl | (simp [errW_none, errW_some] <;> rfl) | (simp [*, errW_none, errW_some] <;> rfl), bw_⟩
 ·replace c4 := Bool.eq_false_iff.mpr c4
  subst c4
  have H1 : ((spec_DrawFirstVolumes.f k l0).bind fun bt397 => ((impl_FirstVolumes.f k bt397.1 bt397.2).bind fun bt401 => ((spec_FirstVolumes.f k bt397.1 bt397.2).bind fun bt405 => ((impl_LeastVolume.f k bt397.1 bt397.2).bind fun bt409 => ((spec_LeastVolume.f k bt397.1 bt397.2).bind fun bt411 => (if (bt401.2 != bt405.2) = true then (laws_FnVolumesSplit.j0 k l1 bt397.1 bt397.2 bt401.1 bt401.2 bt409.1 true) else ((laws_xSame.f k bt401.1 bt405.1).bind fun t413 => (if t413 = true then (if (bt409.2 != bt411.2) = true then (laws_FnVolumesSplit.j0 k l1 bt397.1 bt397.2 bt401.1 bt401.2 bt409.1 true) else (if bt409.1 = bt411.1 then (laws_FnVolumesSplit.j0 k l1 bt397.1 bt397.2 bt401.1 bt401.2 bt409.1 (bt409.2 != bt401.2)) else (laws_FnVolumesSplit.j0 k l1 bt397.1 bt397.2 bt401.1 bt401.2 bt409.1 true))) else (laws_FnVolumesSplit.j0 k l1 bt397.1 bt397.2 bt401.1 bt401.2 bt409.1 true))))))))) = some r := by rw [if_neg (show ¬ (false = true) by decide)] at H; exact H
  clear H
  have H := H1
  clear H1
  replace H := Option.bind_eq_some_iff.mp H
  obtain ⟨⟨t397, t398⟩, A50, H⟩ := H
  (try dsimp only at H)
  have A5 := Aside0.mk A50
  clear A50
  replace H := Option.bind_eq_some_iff.mp H
  obtain ⟨⟨t401, t404⟩, A60, H⟩ := H
  (try dsimp only at H)
  have A6 := Aside0.mk A60
  clear A60
  replace H := Option.bind_eq_some_iff.mp H
  obtain ⟨⟨t405, t408⟩, A70, H⟩ := H
  (try dsimp only at H)
  have A7 := Aside0.mk A70
  clear A70
  replace H := Option.bind_eq_some_iff.mp H
  obtain ⟨⟨t409, t410⟩, A80, H⟩ := H
  (try dsimp only at H)
  have A8 := Aside0.mk A80
  clear A80
  replace H := Option.bind_eq_some_iff.mp H
  obtain ⟨⟨t411, t412⟩, A90, H⟩ := H
  (try dsimp only at H)
  have A9 := Aside0.mk A90
  clear A90
  have HC10 := Aside0.mk H
  clear H
  go_enter Tryd.func3, Tryd.ntmps3
  go_upto_region 8 with (first | ((with_reducible refine gate_callee (f := 6) rfl ?_); refine goesL_ (some 77) rfl rfl Tryd.func6 (by kernel_rfl) rfl #[.slice A0 l0.length c0, .slice A1 l1.length c1] rfl (by (try simp only [List.map_toArray, List.map_cons, List.map_nil]); first | done | rfl | (simp only [List.length_drop, List.length_take]; rfl)) ?_; (with_reducible refine (laws_big.calls _ _ l0 _ _ l1 false _ ?side1 ?side2 ?side3 ?side4 A3.out).mono ?_); (case side1 => exact cr_ HR0.out); (case side2 => exact HC0.out); (case side3 => exact cr_ HR1.out); (case side4 => exact HC1.out); rintro e w' ⟨rfl, ⟨nd, rfl⟩⟩; refine ⟨_, rfl, ?_⟩) | ((with_reducible refine gate_callee (f := 7) rfl ?_); refine goesL_ (some 80) rfl rfl Tryd.func7 (by kernel_rfl) rfl #[.slice A0 l0.length c0] rfl (by (try simp only [List.map_toArray, List.map_cons, List.map_nil]); first | done | rfl | (simp only [List.length_drop, List.length_take]; rfl)) ?_; (with_reducible refine (spec_DrawFirstVolumes.calls k _ _ l0 t397 t398 _ ?side1 ?side2 A5.out).mono ?_); (case side1 => exact cr_ HR0.out); (case side2 => exact HC0.out); rintro e w11 ⟨v399, rfl, ho0, hb⟩; refine ⟨_, rfl, ?_⟩; have n0_ := Aside0.mk (Kd.R_lower ho0 (below_size bw_)); have n1_ := Aside0.mk (below_step bw_ hb); clear HB; have HO400 := n0_; have HB := n1_; clear n0_ n1_; (try clear hb); (try clear hb2); (try clear hk); (try clear hi); (try clear ho0); obtain ⟨Ao12, co12, eo12⟩ := Kd.R_slice HO400.out; subst eo12) | ((with_reducible refine gate_callee (f := 8) rfl ?_); refine goesL_ (some 86) rfl rfl Tryd.func8 (by kernel_rfl) rfl #[.slice Ao12 t397.length co12, .int .i64 t398] rfl (by (try simp only [List.map_toArray, List.map_cons, List.map_nil]); first | done | rfl | (simp only [List.length_drop, List.length_take]; rfl)) ?_; (with_reducible refine (impl_FirstVolumes.calls k (fun k_ => some k_ = (.slice Ao12 t397.length co12 : Value).ownBlock) _ _ t397 t398 t401 t404 _ ?side1 A6.out).mono ?_); (case side1 => exact Kd.R_V (Kd.R_tight rfl (HO400.out))); rintro e w13 ⟨v402, rfl, ho0, hb⟩; refine ⟨_, rfl, ?_⟩; have n0_ := Aside0.mk (Kd.R_elder' (rr_ HO400.out) (Kd.R_base ho0) hb); have n1_ := Aside0.mk (Kd.R_lower (Kd.R_new' (Kd.R_mono (ok' := fun k_ => True) ho0 (fun _ hk_ => trivial)) (Kd.R_lt (rr_ HO400.out))) (below_size bw_)); have n2_ := Aside0.mk (below_step bw_ hb); clear HO400; clear HB; have HO400 := n0_; have HO403 := n1_; have HB := n2_; clear n0_ n1_ n2_; (try clear hb); (try clear hb2); (try clear hk); (try clear hi); (try clear ho0)) | ((with_reducible refine gate_callee (f := 9) rfl ?_); refine goesL_ (some 92) rfl rfl Tryd.func9 (by kernel_rfl) rfl #[.slice Ao12 t397.length co12, .int .i64 t398] rfl (by (try simp only [List.map_toArray, List.map_cons, List.map_nil]); first | done | rfl | (simp only [List.length_drop, List.length_take]; rfl)) ?_; (with_reducible refine (spec_FirstVolumes.calls k (fun k_ => some k_ = (.slice Ao12 t397.length co12 : Value).ownBlock) _ _ t397 t398 t405 t408 _ ?side1 A7.out).mono ?_); (case side1 => exact Kd.R_V (Kd.R_tight rfl (HO400.out))); rintro e w14 ⟨v406, rfl, ho0, hb⟩; refine ⟨_, rfl, ?_⟩; have n0_ := Aside0.mk (Kd.R_elder' (rr_ HO400.out) (Kd.R_base ho0) hb); have n1_ := Aside0.mk (Kd.R_elder' (rr_ HO403.out) (Kd.R_base ho0) hb); have n2_ := Aside0.mk (Kd.R_lower (Kd.R_new' (Kd.R_new' (Kd.R_mono (ok' := fun k_ => True) ho0 (fun _ hk_ => trivial)) (Kd.R_lt (rr_ HO400.out))) (Kd.R_lt (rr_ HO403.out))) (below_size bw_)); have n3_ := Aside0.mk (below_step bw_ hb); clear HO400; clear HO403; clear HB; have HO400 := n0_; have HO403 := n1_; have HO407 := n2_; have HB := n3_; clear n0_ n1_ n2_ n3_; (try clear hb); (try clear hb2); (try clear hk); (try clear hi); (try clear ho0)) | ((with_reducible refine gate_callee (f := 10) rfl ?_); refine goesL_ (some 98) rfl rfl Tryd.func10 (by kernel_rfl) rfl #[.slice Ao12 t397.length co12, .int .i64 t398] rfl (by (try simp only [List.map_toArray, List.map_cons, List.map_nil]); first | done | rfl | (simp only [List.length_drop, List.length_take]; rfl)) ?_; (with_reducible refine (impl_LeastVolume.calls k _ _ t397 t398 t409 t410 _ ?side1 ?side2 A8.out).mono ?_); (case side1 => exact cr_ (Kd.R_reads' HO400.out).2.2); (case side2 => exact (Kd.R_reads' HO400.out).2.1); rintro e w15 ⟨rfl, hb⟩; refine ⟨_, rfl, ?_⟩; have n0_ := Aside0.mk (Kd.R_below (rr_ HO400.out) hb); have n1_ := Aside0.mk (Kd.R_below (rr_ HO403.out) hb); have n2_ := Aside0.mk (Kd.R_below (rr_ HO407.out) hb); have n3_ := Aside0.mk (below_step bw_ hb); clear HO400; clear HO403; clear HO407; clear HB; have HO400 := n0_; have HO403 := n1_; have HO407 := n2_; have HB := n3_; clear n0_ n1_ n2_ n3_; (try clear hb); (try clear hb2); (try clear hk); (try clear hi)) | ((with_reducible refine gate_callee (f := 11) rfl ?_); refine goesL_ (some 104) rfl rfl Tryd.func11 (by kernel_rfl) rfl #[.slice Ao12 t397.length co12, .int .i64 t398] rfl (by (try simp only [List.map_toArray, List.map_cons, List.map_nil]); first | done | rfl | (simp only [List.length_drop, List.length_take]; rfl)) ?_; (with_reducible refine (spec_LeastVolume.calls k _ _ t397 t398 t411 t412 _ ?side1 ?side2 A9.out).mono ?_); (case side1 => exact cr_ (Kd.R_reads' HO400.out).2.2); (case side2 => exact (Kd.R_reads' HO400.out).2.1); rintro e w' ⟨rfl, ⟨nd, rfl⟩⟩; refine ⟨_, rfl, ?_⟩))
  (try simp only [Act.put, List.setIfInBounds_toArray, List.set_cons_zero, List.set_cons_succ])
  go_cut [130] from 107 to 129 (fun v130 wc => ∃ (kq : Nat) (x130_9 : Bool), v130 = .bool x130_9 ∧ Aside0 (laws_FnVolumesSplit.j0 kq l1 t397 t398 t401 t404 t409 x130_9 = some r) ∧ Aside0 (kq ≤ k) ∧ Aside0 (Kd.R (Kd.int .i64) 3 wc w.heap.size (fun k_ => some k_ ≠ (v402 : Value).ownBlock) (.slice Ao12 t397.length co12) t397) ∧ Aside0 (Kd.R (Kd.int .i64) 3 wc w.heap.size (fun k_ => some k_ ≠ ((.slice Ao12 t397.length co12) : Value).ownBlock) v402 t401) ∧ Aside0 (Below w.heap.size w wc))
  case first => as_aux_lemma =>
   have H := HC10.out
   clear HC10
   by_cases c16 : (t404 != t408) = true
   ·rw [if_pos c16] at H
    have c16b0 : (t404 != t408) = true := c16
    (try (have c16b1 : decide (t404 = t408) = false := by simpa using c16))
    (try (have c16b2 : (t404 == t408) = false := by simpa using c16))
    (try (have c16b3 : ¬ (t404 = t408) := by simpa using c16))
    clear c16
    (first | rw [c16b0] | skip)
    exact (laws_FnVolumesSplit.j0_no H hr_.out).elim
   ·rw [if_neg c16] at H
    have c16b0 : (t404 != t408) = false := by simpa using c16
    (try (have c16b1 : decide (t404 = t408) = true := by simpa using c16))
    (try (have c16b2 : (t404 == t408) = true := by simpa using c16))
    clear c16
    (first | rw [c16b0] | skip)
    replace H := Option.bind_eq_some_iff.mp H
    obtain ⟨t413, A170, H⟩ := H
    (try dsimp only at H)
    have A17 := Aside0.mk A170
    clear A170
    by_cases c18 : t413 = true
    ·subst c18
     have H1 : (if (t410 != t412) = true then (laws_FnVolumesSplit.j0 k l1 t397 t398 t401 t404 t409 true) else (if t409 = t411 then (laws_FnVolumesSplit.j0 k l1 t397 t398 t401 t404 t409 (t410 != t404)) else (laws_FnVolumesSplit.j0 k l1 t397 t398 t401 t404 t409 true))) = some r := by rw [if_pos rfl] at H; exact H
     clear H
     have H := H1
     clear H1
     by_cases c19 : (t410 != t412) = true
     ·rw [if_pos c19] at H
      have c19b0 : (t410 != t412) = true := c19
      (try (have c19b1 : decide (t410 = t412) = false := by simpa using c19))
      (try (have c19b2 : (t410 == t412) = false := by simpa using c19))
      (try (have c19b3 : ¬ (t410 = t412) := by simpa using c19))
      clear c19
      exact (laws_FnVolumesSplit.j0_no H hr_.out).elim
     ·rw [if_neg c19] at H
      have c19b0 : (t410 != t412) = false := by simpa using c19
      (try (have c19b1 : decide (t410 = t412) = true := by simpa using c19))
      (try (have c19b2 : (t410 == t412) = true := by simpa using c19))
      clear c19
      by_cases c22 : t409 = t411
      ·rw [if_pos c22] at H
       have c22b0 : (t409 == t411) = true := beq_iff_eq.mpr c22
       have c22b1 : (t409 != t411) = false := bne_eq_false_iff_eq.mpr c22
       clear c22
       have H' := Aside0.mk H
       clear H
       obtain ⟨Ao23, co23, eo23⟩ := Kd.R_slice HO403.out
       subst eo23
       obtain ⟨Ao24, co24, eo24⟩ := Kd.R_slice HO407.out
       subst eo24
       go_wp2_with (first | (go_at_call 12; (with_reducible refine (laws_xSame.calls k _ _ t401 _ _ t405 true _ ?side1 ?side2 ?side3 ?side4 A17.out).mono ?_); (case side1 => exact cr_ (Kd.R_reads' HO403.out).2.2); (case side2 => exact (Kd.R_reads' HO403.out).2.1); (case side3 => exact cr_ (Kd.R_reads' HO407.out).2.2); (case side4 => exact (Kd.R_reads' HO407.out).2.1); rintro e w' ⟨rfl, ⟨nd, rfl⟩⟩))
       go_meet
       case rel => exact ⟨_, ((t410 != t404)), rs_, H', ⟨by first | omega | exact Nat.le_refl _⟩, ⟨by (with_reducible repeat (first | apply Kd.R_alloc | apply Kd.R_drewN | apply Kd.R_drew)); exact Kd.R_mono HO400.out (fun _ hk => hk.1.2)⟩, ⟨by (with_reducible repeat (first | apply Kd.R_alloc | apply Kd.R_drewN | apply Kd.R_drew)); exact Kd.R_mono HO403.out (fun _ hk => hk.1.2)⟩, ⟨bw_⟩⟩
      ·rw [if_neg c22] at H
       have c22b0 : (t409 == t411) = false := beq_eq_false_iff_ne.mpr c22
       have c22b1 : (t409 != t411) = true := bne_iff_ne.mpr c22
       exact (laws_FnVolumesSplit.j0_no H hr_.out).elim
    ·replace c18 := Bool.eq_false_iff.mpr c18
     subst c18
     have H1 : (laws_FnVolumesSplit.j0 k l1 t397 t398 t401 t404 t409 true) = some r := by rw [if_neg (show ¬ (false = true) by decide)] at H; exact H
     clear H
     have H := H1
     clear H1
     exact (laws_FnVolumesSplit.j0_no H hr_.out).elim
  case rest => as_aux_lemma =>
   clear HC10
   (try clear c1); (try clear c2); (try clear p2); (try clear c3); (try clear c4); (try clear c6); (try clear c7); (try clear c8); (try clear c9); (try clear c10); (try clear c11); (try clear c16); (try clear c16b0); (try clear c16b1); (try clear c16b2); (try clear c18); (try clear c19); (try clear c19b0); (try clear c19b1); (try clear c19b2); (try clear c22); (try clear c22b0); (try clear c22b1)
   obtain ⟨kq, x130_9, rfl, HA, HJ9, HO_5, HO_7, HB⟩ := hcut
   cases kq with
   | zero => exact absurd HA.out (by simp [laws_FnVolumesSplit.j0])
   | succ kj9 =>
    have H := HA.out
    clear HA
    simp only [laws_FnVolumesSplit.j0] at H
    by_cases c29 : x130_9 = true
    ·subst c29
     have H1 : (some false) = some r := by rw [if_pos rfl] at H; exact H
     clear H
     have H := H1
     clear H1
     obtain rfl := Option.some.inj H
     exact absurd hr_.out (by decide)
    ·replace c29 := Bool.eq_false_iff.mpr c29
     subst c29
     have H1 : (if t404 = true then (if (t401.length : Int) = t398 then ((laws_xSum.f kj9 t401).bind fun t414 => (laws_FnVolumesSplit.j1 kj9 l1 t397 t398 t401 t409 (t414 != (t397.length : Int)))) else (laws_FnVolumesSplit.j1 kj9 l1 t397 t398 t401 t409 true)) else (laws_FnVolumesSplit.j5 kj9 l1)) = some r := by rw [if_neg (show ¬ (false = true) by decide)] at H; exact H
     clear H
     have H := H1
     clear H1
     have HC30 := Aside0.mk H
     clear H
     go_upto_if 131 with (fail)
     go_cut [15, 16, 18, 19, 20, 21, 22, 23] from 132 to 214 (fun v15 v16 v18 v19 v20 v21 v22 v23 wc => ∃ (kq : Nat), Aside0 (laws_FnVolumesSplit.j5 kq l1 = some r) ∧ Aside0 (kq ≤ kj9) ∧ Aside0 (Below w.heap.size w wc))
     case first => as_aux_lemma =>
      have H := HC30.out
      clear HC30
      by_cases c31 : t404 = true
      ·subst c31
       have H1 : (if (t401.length : Int) = t398 then ((laws_xSum.f kj9 t401).bind fun t414 => (laws_FnVolumesSplit.j1 kj9 l1 t397 t398 t401 t409 (t414 != (t397.length : Int)))) else (laws_FnVolumesSplit.j1 kj9 l1 t397 t398 t401 t409 true)) = some r := by rw [if_pos rfl] at H; exact H
       clear H
       have H := H1
       clear H1
       have HC32 := Aside0.mk H
       clear H
       go_upto_region 11 with (fail)
       go_cut [142] from 132 to 141 (fun v142 wc => ∃ (kq : Nat) (x142_31 : Bool), v142 = .bool x142_31 ∧ Aside0 (laws_FnVolumesSplit.j1 kq l1 t397 t398 t401 t409 x142_31 = some r) ∧ Aside0 (kq ≤ kj9) ∧ Aside0 (Kd.R (Kd.int .i64) 3 wc w.heap.size (fun k_ => some k_ ≠ (v402 : Value).ownBlock) (.slice Ao12 t397.length co12) t397) ∧ Aside0 (Kd.R (Kd.int .i64) 3 wc w.heap.size (fun k_ => some k_ ≠ ((.slice Ao12 t397.length co12) : Value).ownBlock) v402 t401) ∧ Aside0 (Below w.heap.size w wc))
       case first => as_aux_lemma =>
        have H := HC32.out
        clear HC32
        by_cases c33 : (t401.length : Int) = t398
        ·rw [if_pos c33] at H
         have c33b0 : ((t401.length : Int) == t398) = true := beq_iff_eq.mpr c33
         have c33b1 : ((t401.length : Int) != t398) = false := bne_eq_false_iff_eq.mpr c33
         clear c33
         (first | rw [c33b0] | skip)
         replace H := Option.bind_eq_some_iff.mp H
         obtain ⟨t414, A340, H⟩ := H
         (try dsimp only at H)
         have A34 := Aside0.mk A340
         clear A340
         have H' := Aside0.mk H
         clear H
         obtain ⟨Ao35, co35, eo35⟩ := Kd.R_slice HO_7.out
         subst eo35
         go_wp2_with (first | (go_at_call 13; (with_reducible refine (laws_xSum.calls kj9 _ _ t401 t414 _ ?side1 ?side2 A34.out).mono ?_); (case side1 => exact cr_ (Kd.R_reads' HO_7.out).2.2); (case side2 => exact (Kd.R_reads' HO_7.out).2.1); rintro e w' ⟨rfl, ⟨nd, rfl⟩⟩))
         go_meet
         case rel => exact ⟨_, ((t414 != (t397.length : Int))), rs_, H', ⟨by have := HJ9.out; first | omega | exact Nat.le_refl _⟩, ⟨rr_ HO_5.out⟩, ⟨rr_ HO_7.out⟩, ⟨bw_⟩⟩
        ·rw [if_neg c33] at H
         have c33b0 : ((t401.length : Int) == t398) = false := beq_eq_false_iff_ne.mpr c33
         have c33b1 : ((t401.length : Int) != t398) = true := bne_iff_ne.mpr c33
         (first | rw [c33b0] | skip)
         exact (laws_FnVolumesSplit.j1_no H hr_.out).elim
       case rest => as_aux_lemma =>
        clear HC32
        (try clear c1); (try clear c2); (try clear p2); (try clear c3); (try clear c4); (try clear c6); (try clear c7); (try clear c8); (try clear c9); (try clear c10); (try clear c11); (try clear c16); (try clear c16b0); (try clear c16b1); (try clear c16b2); (try clear c18); (try clear c19); (try clear c19b0); (try clear c19b1); (try clear c19b2); (try clear c22); (try clear c22b0); (try clear c22b1); (try clear c29); (try clear c31); (try clear c33); (try clear c33b0); (try clear c33b1)
        obtain ⟨kq, x142_31, rfl, HA, HJ31, HO_5, HO_7, HB⟩ := hcut
        cases kq with
        | zero => exact absurd HA.out (by simp [laws_FnVolumesSplit.j1])
        | succ kj31 =>
         have H := HA.out
         clear HA
         simp only [laws_FnVolumesSplit.j1] at H
         by_cases c37 : x142_31 = true
         ·subst c37
          have H1 : (some false) = some r := by rw [if_pos rfl] at H; exact H
          clear H
          have H := H1
          clear H1
          obtain rfl := Option.some.inj H
          exact absurd hr_.out (by decide)
         ·replace c37 := Bool.eq_false_iff.mpr c37
          subst c37
          have H1 : (laws_FnVolumesSplit.l0 kj31 l1 t397 t398 t409 0 0 t401 (t401.length : Int) 0) = some r := by rw [if_neg (show ¬ (false = true) by decide)] at H; exact H
          clear H
          have H := H1
          clear H1
          have H' := Aside0.mk H
          clear H
          obtain ⟨Ao38, co38, eo38⟩ := Kd.R_slice HO_7.out
          subst eo38
          go_wp2
          go_loopg [15, 16, 145] kj31 (fun kq v15 v16 v145 w' => ∃ (x15_3 : Int) (x16_3 : Int) (x145_3 : Int), v15 = .int .i64 x15_3 ∧ v16 = .int .i64 x16_3 ∧ v145 = .int .i64 x145_3 ∧ Aside0 (laws_FnVolumesSplit.l0 kq l1 t397 t398 t409 x15_3 x16_3 t401 (t401.length : Int) x145_3 = some r) ∧ Aside0 (kq ≤ kj31) ∧ Aside0 (Kd.R (Kd.int .i64) 3 w' w.heap.size (fun k_ => some k_ ≠ ((.slice Ao38 t401.length co38) : Value).ownBlock) (.slice Ao12 t397.length co12) t397) ∧ Aside0 (Kd.R (Kd.int .i64) 3 w' w.heap.size (fun k_ => some k_ ≠ ((.slice Ao12 t397.length co12) : Value).ownBlock) (.slice Ao38 t401.length co38) t401) ∧ Aside0 (Below w.heap.size w w'))
          case atStart => exact ⟨(0), (0), (0), rs_, rs_, rs_, H', ⟨Nat.le_refl _⟩, ⟨rr_ HO_5.out⟩, ⟨rr_ HO_7.out⟩, ⟨bw_⟩⟩
          case round =>
           clear H'
           (try clear c1); (try clear c2); (try clear p2); (try clear c3); (try clear c4); (try clear c6); (try clear c7); (try clear c8); (try clear c9); (try clear c10); (try clear c11); (try clear c16); (try clear c16b0); (try clear c16b1); (try clear c16b2); (try clear c18); (try clear c19); (try clear c19b0); (try clear c19b1); (try clear c19b2); (try clear c22); (try clear c22b0); (try clear c22b1); (try clear c29); (try clear c31); (try clear c33); (try clear c33b0); (try clear c33b1); (try clear c37)
           obtain ⟨x15_3, x16_3, x145_3, rfl, rfl, rfl, HA, HK3, HO_5, HO_143, HB⟩ := hrel
           cases gk with
           | zero => exact absurd HA.out (by simp [laws_FnVolumesSplit.l0])
           | succ k3 =>
            have H := HA.out
            clear HA
            simp only [laws_FnVolumesSplit.l0] at H
            by_cases c39 : x145_3 < (t401.length : Int)
            ·rw [if_pos c39] at H
             have c39b0 : decide (x145_3 < (t401.length : Int)) = true := decide_eq_true c39
             clear c39
             by_cases c40 : 0 ≤ x145_3
             ·rw [if_pos c40] at H
              have c40b0 : decide (0 ≤ x145_3) = true := decide_eq_true c40
              clear c40
              by_cases c41 : x145_3 < (t401.length : Int)
              ·rw [if_pos c41] at H
               have c41b0 : decide (x145_3 < (t401.length : Int)) = true := decide_eq_true c41
               clear c41
               have HC42 := Aside0.mk H
               clear H
               have p415 : 0 ≤ (x145_3 : Int) := of_decide_eq_true (by first | (with_reducible assumption) | assumption)
               have q415 : x145_3 < (t401.length : Int) := of_decide_eq_true (by first | (with_reducible assumption) | assumption)
               obtain ⟨ad415, e415, hx415_0⟩ := Kd.at_int (Kd.R_reads' HO_143.out).2.2 x145_3 p415 q415
               cases e415
               replace p415 := eq_true p415
               replace q415 := eq_true q415
               go_upto_region 17 with (fail)
               go_cut [158] from 149 to 157 (fun v158 wc => ∃ (kq : Nat) (x158_41 : Bool), v158 = .bool x158_41 ∧ Aside0 (laws_FnVolumesSplit.j3 kq l1 t397 t398 t409 x15_3 x16_3 (rd t401 x145_3) t401 (t401.length : Int) x145_3 x158_41 = some r) ∧ Aside0 (kq ≤ k3) ∧ Aside0 (Kd.R (Kd.int .i64) 3 wc w.heap.size (fun k_ => some k_ ≠ ((.slice (some ad415) t401.length co38) : Value).ownBlock) (.slice Ao12 t397.length co12) t397) ∧ Aside0 (Kd.R (Kd.int .i64) 3 wc w.heap.size (fun k_ => some k_ ≠ ((.slice Ao12 t397.length co12) : Value).ownBlock) (.slice (some ad415) t401.length co38) t401) ∧ Aside0 (Below w.heap.size w wc))
               case first => as_aux_lemma =>
                have H := HC42.out
                clear HC42
                by_cases c43 : (rd t401 x145_3) < 1
                ·rw [if_pos c43] at H
                 have c43b0 : decide ((rd t401 x145_3) < 1) = true := decide_eq_true c43
                 clear c43
                 (first | rw [c43b0] | skip)
                 exact (laws_FnVolumesSplit.j3_no H hr_.out).elim
                ·rw [if_neg c43] at H
                 have c43b0 : decide ((rd t401 x145_3) < 1) = false := decide_eq_false c43
                 clear c43
                 (first | rw [c43b0] | skip)
                 have H' := Aside0.mk H
                 clear H
                 go_wp2
                 go_meet
                 case rel => exact ⟨_, (decide ((wrap64 (x15_3 + (rd t401 x145_3))) > (t397.length : Int))), rs_, H', ⟨by have := HJ9.out; have := HJ31.out; have := HK3.out; first | omega | exact Nat.le_refl _⟩, ⟨rr_ HO_5.out⟩, ⟨rr_ HO_143.out⟩, ⟨bw_⟩⟩
               case rest => as_aux_lemma =>
                clear HC42
                (try clear c1); (try clear c2); (try clear p2); (try clear c3); (try clear c4); (try clear p4); (try clear q4); (try clear hx4); (try clear c6); (try clear p6); (try clear c7); (try clear c8); (try clear c9); (try clear c10); (try clear c11); (try clear c16); (try clear c16b0); (try clear c16b1); (try clear c16b2); (try clear c18); (try clear c19); (try clear c19b0); (try clear c19b1); (try clear c19b2); (try clear c22); (try clear c22b0); (try clear c22b1); (try clear c29); (try clear c31); (try clear c33); (try clear c33b0); (try clear c33b1); (try clear c37); (try clear c39); (try clear c39b0); (try clear c40); (try clear c40b0); (try clear c41); (try clear c41b0); (try clear p41); (try clear q41); (try clear hx41); (try clear c43); (try clear c43b0); (try clear hx415_0); (try clear p415); (try clear q415)
                obtain ⟨kq, x158_41, rfl, HA, HJ41, HO_5, HO_143, HB⟩ := hcut
                cases kq with
                | zero => exact absurd HA.out (by simp [laws_FnVolumesSplit.j3])
                | succ kj41 =>
                 have H := HA.out
                 clear HA
                 simp only [laws_FnVolumesSplit.j3] at H
                 by_cases c44 : x158_41 = true
                 ·subst c44
                  have H1 : (some false) = some r := by rw [if_pos rfl] at H; exact H
                  clear H
                  have H := H1
                  clear H1
                  obtain rfl := Option.some.inj H
                  exact absurd hr_.out (by decide)
                 ·replace c44 := Bool.eq_false_iff.mpr c44
                  subst c44
                  have H1 : (if 0 ≤ x15_3 then (if x15_3 ≤ (wrap64 (x15_3 + (rd t401 x145_3))) then (if (wrap64 (x15_3 + (rd t401 x145_3))) ≤ (t397.length : Int) then ((laws_xSum.f kj41 ((t397.take ((wrap64 (x15_3 + (rd t401 x145_3))) : Int).toNat).drop (x15_3 : Int).toNat)).bind fun t420 => (if t420 > x16_3 then (laws_FnVolumesSplit.l0 kj41 l1 t397 t398 t409 (wrap64 (x15_3 + (rd t401 x145_3))) t420 t401 (t401.length : Int) (wrap64 (x145_3 + 1))) else (laws_FnVolumesSplit.l0 kj41 l1 t397 t398 t409 (wrap64 (x15_3 + (rd t401 x145_3))) x16_3 t401 (t401.length : Int) (wrap64 (x145_3 + 1))))) else (none)) else (none)) else (none)) = some r := by rw [if_neg (show ¬ (false = true) by decide)] at H; exact H
                  clear H
                  have H := H1
                  clear H1
                  by_cases c45 : 0 ≤ x15_3
                  ·rw [if_pos c45] at H
                   have c45b0 := eq_true c45
                   have c45b1 : decide (0 ≤ x15_3) = true := decide_eq_true c45
                   clear c45
                   by_cases c46 : x15_3 ≤ (wrap64 (x15_3 + (rd t401 x145_3)))
                   ·rw [if_pos c46] at H
                    have c46b0 := eq_true c46
                    have c46b1 : decide (x15_3 ≤ (wrap64 (x15_3 + (rd t401 x145_3)))) = true := decide_eq_true c46
                    by_cases c47 : (wrap64 (x15_3 + (rd t401 x145_3))) ≤ (t397.length : Int)
                    ·rw [if_pos c47] at H
                     have c47b0 := eq_true c47
                     have c47b1 : decide ((wrap64 (x15_3 + (rd t401 x145_3))) ≤ (t397.length : Int)) = true := decide_eq_true c47
                     obtain ⟨y416, hy416⟩ : ∃ y_ : List Int, y_ = ((t397.take ((wrap64 (x15_3 + (rd t401 x145_3))) : Int).toNat).drop (x15_3 : Int).toNat) := ⟨_, rfl⟩
                     replace H : ((laws_xSum.f kj41 y416).bind fun t420 => (if t420 > x16_3 then (laws_FnVolumesSplit.l0 kj41 l1 t397 t398 t409 (wrap64 (x15_3 + (rd t401 x145_3))) t420 t401 (t401.length : Int) (wrap64 (x145_3 + 1))) else (laws_FnVolumesSplit.l0 kj41 l1 t397 t398 t409 (wrap64 (x15_3 + (rd t401 x145_3))) x16_3 t401 (t401.length : Int) (wrap64 (x145_3 + 1))))) = some r := by first | (rw [hy416]; with_reducible exact H) | (have H2_ := (Option.bind_some _ _).symm.trans H; rw [hy416]; with_reducible exact H2_) | (have H2_ := (Option.bind_some _ _).symm.trans H; with_reducible exact H2_) | with_reducible exact H | (rw [hy416]; exact H) | exact H
                     have Ny416 := Aside0.mk hy416
                     clear hy416
                     replace H := Option.bind_eq_some_iff.mp H
                     obtain ⟨t420, A480, H⟩ := H
                     (try dsimp only at H)
                     have A48 := Aside0.mk A480
                     clear A480
                     by_cases c49 : t420 > x16_3
                     ·rw [if_pos c49] at H
                      have c49b0 : decide (x16_3 < t420) = true := decide_eq_true c49
                      clear c49
                      have H' := Aside0.mk H
                      clear H
                      have q50 : ((wrap64 (x15_3 + (rd t401 x145_3))) : Int) ≤ ((t397.length : Int) : Int) := of_decide_eq_true (by first | (with_reducible assumption) | assumption)
                      obtain ⟨i050, hi050, _, hsz50, _⟩ := info_parts info3
                      have hroom50 : t397.length ≤ co12 := (Kd.R_reads' HO_5.out).2.1
                      have hC50 : Kd.C (Kd.int .i64) _ Ao12 t397.length t397 := (Kd.R_reads' HO_5.out).2.2
                      have ql50 : (x15_3 : Int) ≤ ((wrap64 (x15_3 + (rd t401 x145_3))) : Int) := of_decide_eq_true (by first | (with_reducible assumption) | assumption)
                      have q050 : (0 : Int) ≤ (x15_3 : Int) := of_decide_eq_true (by first | (with_reducible assumption) | assumption)
                      have hcut50 := cut_mid (P := Tryd.prog) 24 3 .i64 .i64 Tryd.underlying24 hi050 1 hsz50 Ao12 t397.length co12 x15_3 (wrap64 (x15_3 + (rd t401 x145_3))) q050 ql50 q50 hroom50
                      have hr50 := Kd.C_mid (lo := (x15_3 : Int).toNat) (hi := ((wrap64 (x15_3 + (rd t401 x145_3))) : Int).toNat) (c := co12) hC50 (by omega) (by omega) hroom50
                      obtain ⟨A50, hA50⟩ : ∃ A1, A1 = (if co12 = (x15_3 : Int).toNat then Ao12 else (Ao12 : Option Addr).map (·.add ((x15_3 : Int).toNat * 1))) := ⟨_, rfl⟩
                      obtain ⟨c50, hc50⟩ : ∃ c1, c1 = co12 - (x15_3 : Int).toNat := ⟨_, rfl⟩
                      have hy50 : y416.length = ((wrap64 (x15_3 + (rd t401 x145_3))) : Int).toNat - (x15_3 : Int).toNat := (by rw [Ny416.out, List.length_drop, List.length_take] <;> omega)
                      rw [show ((t397).take ((wrap64 (x15_3 + (rd t401 x145_3))) : Int).toNat).drop (x15_3 : Int).toNat = y416 from Ny416.out.symm] at hr50
                      replace hr50 : Kd.C (Kd.int .i64) _ A50 y416.length y416 := (by rw [hA50]; exact hr50)
                      rw [← hy50, ← hA50, ← hc50] at hcut50
                      have HR419 := Aside0.mk hr50
                      have HC419 := Aside0.mk (show y416.length ≤ c50 from by rw [hy50, hc50]; exact Nat.sub_le_sub_right (Nat.le_trans (by omega) hroom50) _)
                      clear hr50 hC50 hroom50 hi050 hsz50 hc50
                      have KY50 := Aside0.mk hy50
                      have KA50 := Aside0.mk hA50
                      clear hy50 hA50
                      have KL50 := Aside0.mk (show ((wrap64 (x15_3 + (rd t401 x145_3))) : Int).toNat ≤ t397.length from by omega)
                      have KM50 := Aside0.mk (show (x15_3 : Int).toNat ≤ ((wrap64 (x15_3 + (rd t401 x145_3))) : Int).toNat from by omega)
                      replace q50 := eq_true q50
                      go_wp2_with (first | ((with_reducible refine gate_callee (f := 13) rfl ?_); refine goesL_ (some 165) rfl rfl Tryd.func13 (by kernel_rfl) rfl #[.slice A50 y416.length c50] rfl (by (try simp only [List.map_toArray, List.map_cons, List.map_nil]); first | done | rfl | (simp only [List.length_drop, List.length_take]; rfl)) ?_; (with_reducible refine (laws_xSum.calls kj41 _ _ y416 t420 _ ?side1 ?side2 A48.out).mono ?_); (case side1 => repeat (first | exact (by repeat (first | (with_reducible exact HR419.out) | (with_reducible refine Kd.C_alloc ?_ _) | (with_reducible refine Kd.C_drewN ?_ _) | (with_reducible refine Kd.C_drew ?_) | exact HR419.out)) | (with_reducible refine Kd.C_alloc ?_ _) | (with_reducible refine Kd.C_drewN ?_ _) | (with_reducible refine Kd.C_drew ?_))); (case side2 => exact HC419.out); rintro e w' ⟨rfl, ⟨nd, rfl⟩⟩; refine ⟨_, rfl, ?_⟩))
                      go_roundg kj41
                      case measure => have := HJ9.out; have := HJ31.out; have := HK3.out; have := HJ41.out; omega
                      case rel => exact ⟨(wrap64 (x15_3 + (rd t401 x145_3))), (t420), (wrap64 (x145_3 + 1)), rs_, rs_, rs_, H', ⟨by have := HJ9.out; have := HJ31.out; have := HK3.out; have := HJ41.out; omega⟩, ⟨rr_ HO_5.out⟩, ⟨rr_ HO_143.out⟩, ⟨bw_⟩⟩
                     ·rw [if_neg c49] at H
                      have c49b0 : decide (x16_3 < t420) = false := decide_eq_false c49
                      clear c49
                      have H' := Aside0.mk H
                      clear H
                      have q51 : ((wrap64 (x15_3 + (rd t401 x145_3))) : Int) ≤ ((t397.length : Int) : Int) := of_decide_eq_true (by first | (with_reducible assumption) | assumption)
                      obtain ⟨i051, hi051, _, hsz51, _⟩ := info_parts info3
                      have hroom51 : t397.length ≤ co12 := (Kd.R_reads' HO_5.out).2.1
                      have hC51 : Kd.C (Kd.int .i64) _ Ao12 t397.length t397 := (Kd.R_reads' HO_5.out).2.2
                      have ql51 : (x15_3 : Int) ≤ ((wrap64 (x15_3 + (rd t401 x145_3))) : Int) := of_decide_eq_true (by first | (with_reducible assumption) | assumption)
                      have q051 : (0 : Int) ≤ (x15_3 : Int) := of_decide_eq_true (by first | (with_reducible assumption) | assumption)
                      have hcut51 := cut_mid (P := Tryd.prog) 24 3 .i64 .i64 Tryd.underlying24 hi051 1 hsz51 Ao12 t397.length co12 x15_3 (wrap64 (x15_3 + (rd t401 x145_3))) q051 ql51 q51 hroom51
                      have hr51 := Kd.C_mid (lo := (x15_3 : Int).toNat) (hi := ((wrap64 (x15_3 + (rd t401 x145_3))) : Int).toNat) (c := co12) hC51 (by omega) (by omega) hroom51
                      obtain ⟨A51, hA51⟩ : ∃ A1, A1 = (if co12 = (x15_3 : Int).toNat then Ao12 else (Ao12 : Option Addr).map (·.add ((x15_3 : Int).toNat * 1))) := ⟨_, rfl⟩
                      obtain ⟨c51, hc51⟩ : ∃ c1, c1 = co12 - (x15_3 : Int).toNat := ⟨_, rfl⟩
                      have hy51 : y416.length = ((wrap64 (x15_3 + (rd t401 x145_3))) : Int).toNat - (x15_3 : Int).toNat := (by rw [Ny416.out, List.length_drop, List.length_take] <;> omega)
                      rw [show ((t397).take ((wrap64 (x15_3 + (rd t401 x145_3))) : Int).toNat).drop (x15_3 : Int).toNat = y416 from Ny416.out.symm] at hr51
                      replace hr51 : Kd.C (Kd.int .i64) _ A51 y416.length y416 := (by rw [hA51]; exact hr51)
                      rw [← hy51, ← hA51, ← hc51] at hcut51
                      have HR419 := Aside0.mk hr51
                      have HC419 := Aside0.mk (show y416.length ≤ c51 from by rw [hy51, hc51]; exact Nat.sub_le_sub_right (Nat.le_trans (by omega) hroom51) _)
                      clear hr51 hC51 hroom51 hi051 hsz51 hc51
                      have KY51 := Aside0.mk hy51
                      have KA51 := Aside0.mk hA51
                      clear hy51 hA51
                      have KL51 := Aside0.mk (show ((wrap64 (x15_3 + (rd t401 x145_3))) : Int).toNat ≤ t397.length from by omega)
                      have KM51 := Aside0.mk (show (x15_3 : Int).toNat ≤ ((wrap64 (x15_3 + (rd t401 x145_3))) : Int).toNat from by omega)
                      replace q51 := eq_true q51
                      go_wp2_with (first | ((with_reducible refine gate_callee (f := 13) rfl ?_); refine goesL_ (some 165) rfl rfl Tryd.func13 (by kernel_rfl) rfl #[.slice A51 y416.length c51] rfl (by (try simp only [List.map_toArray, List.map_cons, List.map_nil]); first | done | rfl | (simp only [List.length_drop, List.length_take]; rfl)) ?_; (with_reducible refine (laws_xSum.calls kj41 _ _ y416 t420 _ ?side1 ?side2 A48.out).mono ?_); (case side1 => repeat (first | exact (by repeat (first | (with_reducible exact HR419.out) | (with_reducible refine Kd.C_alloc ?_ _) | (with_reducible refine Kd.C_drewN ?_ _) | (with_reducible refine Kd.C_drew ?_) | exact HR419.out)) | (with_reducible refine Kd.C_alloc ?_ _) | (with_reducible refine Kd.C_drewN ?_ _) | (with_reducible refine Kd.C_drew ?_))); (case side2 => exact HC419.out); rintro e w' ⟨rfl, ⟨nd, rfl⟩⟩; refine ⟨_, rfl, ?_⟩))
                      go_roundg kj41
                      case measure => have := HJ9.out; have := HJ31.out; have := HK3.out; have := HJ41.out; omega
                      case rel => exact ⟨(wrap64 (x15_3 + (rd t401 x145_3))), (x16_3), (wrap64 (x145_3 + 1)), rs_, rs_, rs_, H', ⟨by have := HJ9.out; have := HJ31.out; have := HK3.out; have := HJ41.out; omega⟩, ⟨rr_ HO_5.out⟩, ⟨rr_ HO_143.out⟩, ⟨bw_⟩⟩
                    ·rw [if_neg c47] at H
                     exact absurd H (by simp)
                   ·rw [if_neg c46] at H
                    exact absurd H (by simp)
                  ·rw [if_neg c45] at H
                   exact absurd H (by simp)
              ·rw [if_neg c41] at H
               exact absurd H (by simp)
             ·rw [if_neg c40] at H
              exact absurd H (by simp)
            ·rw [if_neg c39] at H
             have c39b0 : decide (x145_3 < (t401.length : Int)) = false := decide_eq_false c39
             clear c39
             replace H := Option.bind_eq_some_iff.mp H
             obtain ⟨⟨t421, t422⟩, A520, H⟩ := H
             (try dsimp only at H)
             have A52 := Aside0.mk A520
             clear A520
             have HC53 := Aside0.mk H
             clear H
             go_upto_region 25 with (first | ((with_reducible refine gate_callee (f := 14) rfl ?_); refine goesL_ (some 177) rfl rfl Tryd.func14 (by kernel_rfl) rfl #[.slice Ao12 t397.length co12, .int .i64 t409] rfl (by (try simp only [List.map_toArray, List.map_cons, List.map_nil]); first | done | rfl | (simp only [List.length_drop, List.length_take]; rfl)) ?_; (with_reducible refine (impl_FewestVolumes.calls k3 _ _ t397 t409 t421 t422 _ ?side1 ?side2 A52.out).mono ?_); (case side1 => exact cr_ (Kd.R_reads' HO_5.out).2.2); (case side2 => exact (Kd.R_reads' HO_5.out).2.1); rintro e w' ⟨rfl, ⟨nd, rfl⟩⟩; refine ⟨_, rfl, ?_⟩))
             (try simp only [Act.put, List.setIfInBounds_toArray, List.set_cons_zero, List.set_cons_succ])
             go_cut [199] from 180 to 198 (fun v199 wc => ∃ (kq : Nat) (x199_52 : Bool), v199 = .bool x199_52 ∧ Aside0 (laws_FnVolumesSplit.j4 kq l1 t397 t398 t409 x199_52 = some r) ∧ Aside0 (kq ≤ k3) ∧ Aside0 (Kd.R (Kd.int .i64) 3 wc w.heap.size (fun _ => True) (.slice Ao12 t397.length co12) t397) ∧ Aside0 (Below w.heap.size w wc))
             case first => as_aux_lemma =>
              have H := HC53.out
              clear HC53
              by_cases c54 : x16_3 = t409
              ·rw [if_pos c54] at H
               have c54b0 : (x16_3 == t409) = true := beq_iff_eq.mpr c54
               have c54b1 : (x16_3 != t409) = false := bne_eq_false_iff_eq.mpr c54
               clear c54
               (first | rw [c54b0] | skip)
               by_cases c55 : t422 = true
               ·subst c55
                have H1 : (if t421 > t398 then (laws_FnVolumesSplit.j4 k3 l1 t397 t398 t409 true) else ((laws_xSum.f k3 t397).bind fun t423 => (laws_FnVolumesSplit.j4 k3 l1 t397 t398 t409 (decide ((wrap64 (t409 * t398)) < t423))))) = some r := by rw [if_pos rfl] at H; exact H
                clear H
                have H := H1
                clear H1
                by_cases c56 : t421 > t398
                ·rw [if_pos c56] at H
                 have c56b0 : decide (t398 < t421) = true := decide_eq_true c56
                 clear c56
                 exact (laws_FnVolumesSplit.j4_no H hr_.out).elim
                ·rw [if_neg c56] at H
                 have c56b0 : decide (t398 < t421) = false := decide_eq_false c56
                 clear c56
                 replace H := Option.bind_eq_some_iff.mp H
                 obtain ⟨t423, A570, H⟩ := H
                 (try dsimp only at H)
                 have A57 := Aside0.mk A570
                 clear A570
                 have H' := Aside0.mk H
                 clear H
                 go_wp2_with (first | (go_at_call 13; (with_reducible refine (laws_xSum.calls k3 _ _ t397 t423 _ ?side1 ?side2 A57.out).mono ?_); (case side1 => exact cr_ (Kd.R_reads' HO_5.out).2.2); (case side2 => exact (Kd.R_reads' HO_5.out).2.1); rintro e w' ⟨rfl, ⟨nd, rfl⟩⟩))
                 go_meet
                 case rel => exact ⟨_, (decide ((wrap64 (t409 * t398)) < t423)), rs_, H', ⟨by have := HJ9.out; have := HJ31.out; have := HK3.out; first | omega | exact Nat.le_refl _⟩, ⟨by (with_reducible repeat (first | apply Kd.R_alloc | apply Kd.R_drewN | apply Kd.R_drew)); exact Kd.R_mono HO_5.out (fun _ hk => trivial)⟩, ⟨bw_⟩⟩
               ·replace c55 := Bool.eq_false_iff.mpr c55
                subst c55
                have H1 : (laws_FnVolumesSplit.j4 k3 l1 t397 t398 t409 true) = some r := by rw [if_neg (show ¬ (false = true) by decide)] at H; exact H
                clear H
                have H := H1
                clear H1
                exact (laws_FnVolumesSplit.j4_no H hr_.out).elim
              ·rw [if_neg c54] at H
               have c54b0 : (x16_3 == t409) = false := beq_eq_false_iff_ne.mpr c54
               have c54b1 : (x16_3 != t409) = true := bne_iff_ne.mpr c54
               (first | rw [c54b0] | skip)
               exact (laws_FnVolumesSplit.j4_no H hr_.out).elim
             case rest => as_aux_lemma =>
              clear HC53
              (try clear c1); (try clear c2); (try clear p2); (try clear c3); (try clear c4); (try clear p4); (try clear q4); (try clear hx4); (try clear c5); (try clear q5); (try clear c6); (try clear p6); (try clear c7); (try clear c8); (try clear c9); (try clear c10); (try clear c11); (try clear c13); (try clear c14); (try clear c16); (try clear c16b0); (try clear c16b1); (try clear c16b2); (try clear c18); (try clear c19); (try clear c19b0); (try clear c19b1); (try clear c19b2); (try clear c22); (try clear c22b0); (try clear c22b1); (try clear c29); (try clear c31); (try clear c33); (try clear c33b0); (try clear c33b1); (try clear c37); (try clear c39); (try clear c39b0); (try clear c40); (try clear c40b0); (try clear c41); (try clear c41b0); (try clear p41); (try clear q41); (try clear hx41); (try clear c43); (try clear c43b0); (try clear c44); (try clear c45); (try clear c45b0); (try clear c45b1); (try clear c46); (try clear c46b0); (try clear c46b1); (try clear c47); (try clear c47b0); (try clear c47b1); (try clear c49); (try clear c49b0); (try clear c50); (try clear q50); (try clear c51); (try clear q51); (try clear c54); (try clear c54b0); (try clear c54b1); (try clear c55); (try clear c56); (try clear c56b0); (try clear hx415_0); (try clear p415); (try clear q050); (try clear q051); (try clear q415)
              obtain ⟨kq, x199_52, rfl, HA, HJ52, HO_5, HB⟩ := hcut
              cases kq with
              | zero => exact absurd HA.out (by simp [laws_FnVolumesSplit.j4])
              | succ kj52 =>
               have H := HA.out
               clear HA
               simp only [laws_FnVolumesSplit.j4] at H
               by_cases c58 : x199_52 = true
               ·subst c58
                have H1 : (some false) = some r := by rw [if_pos rfl] at H; exact H
                clear H
                have H := H1
                clear H1
                obtain rfl := Option.some.inj H
                exact absurd hr_.out (by decide)
               ·replace c58 := Bool.eq_false_iff.mpr c58
                subst c58
                have H1 : (if t409 > 1 then ((impl_FewestVolumes.f kj52 t397 (wrap64 (t409 - 1))).bind fun bt424 => (if bt424.2 = true then (if bt424.1 ≤ t398 then (some false) else (laws_FnVolumesSplit.j5 kj52 l1)) else (laws_FnVolumesSplit.j5 kj52 l1))) else (laws_FnVolumesSplit.j5 kj52 l1)) = some r := by rw [if_neg (show ¬ (false = true) by decide)] at H; exact H
                clear H
                have H := H1
                clear H1
                by_cases c59 : t409 > 1
                ·rw [if_pos c59] at H
                 have c59b0 : decide (1 < t409) = true := decide_eq_true c59
                 clear c59
                 replace H := Option.bind_eq_some_iff.mp H
                 obtain ⟨⟨t424, t425⟩, A600, H⟩ := H
                 (try dsimp only at H)
                 have A60 := Aside0.mk A600
                 clear A600
                 by_cases c61 : t425 = true
                 ·subst c61
                  have H1 : (if t424 ≤ t398 then (some false) else (laws_FnVolumesSplit.j5 kj52 l1)) = some r := by rw [if_pos rfl] at H; exact H
                  clear H
                  have H := H1
                  clear H1
                  by_cases c62 : t424 ≤ t398
                  ·rw [if_pos c62] at H
                   have c62b0 : decide (t424 ≤ t398) = true := decide_eq_true c62
                   clear c62
                   obtain rfl := Option.some.inj H
                   exact absurd hr_.out (by decide)
                  ·rw [if_neg c62] at H
                   have c62b0 : decide (t424 ≤ t398) = false := decide_eq_false c62
                   clear c62
                   have H' := Aside0.mk H
                   clear H
                   go_wp2_with (first | ((with_reducible refine gate_callee (f := 14) rfl ?_); refine goesL_ (some 206) rfl rfl Tryd.func14 (by kernel_rfl) rfl #[.slice Ao12 t397.length co12, .int .i64 (wrap64 (t409 - 1))] rfl (by (try simp only [List.map_toArray, List.map_cons, List.map_nil]); first | done | rfl | (simp only [List.length_drop, List.length_take]; rfl)) ?_; (with_reducible refine (impl_FewestVolumes.calls kj52 _ _ t397 (wrap64 (t409 - 1)) t424 true _ ?side1 ?side2 A60.out).mono ?_); (case side1 => exact cr_ (Kd.R_reads' HO_5.out).2.2); (case side2 => exact (Kd.R_reads' HO_5.out).2.1); rintro e w' ⟨rfl, ⟨nd, rfl⟩⟩; refine ⟨_, rfl, ?_⟩))
                   go_meet
                   case rel => exact ⟨_, H', ⟨by have := HJ9.out; have := HJ31.out; have := HK3.out; have := HJ52.out; first | omega | exact Nat.le_refl _⟩, ⟨bw_⟩⟩
                 ·replace c61 := Bool.eq_false_iff.mpr c61
                  subst c61
                  have H1 : (laws_FnVolumesSplit.j5 kj52 l1) = some r := by rw [if_neg (show ¬ (false = true) by decide)] at H; exact H
                  clear H
                  have H := H1
                  clear H1
                  have H' := Aside0.mk H
                  clear H
                  go_wp2_with (first | ((with_reducible refine gate_callee (f := 14) rfl ?_); refine goesL_ (some 206) rfl rfl Tryd.func14 (by kernel_rfl) rfl #[.slice Ao12 t397.length co12, .int .i64 (wrap64 (t409 - 1))] rfl (by (try simp only [List.map_toArray, List.map_cons, List.map_nil]); first | done | rfl | (simp only [List.length_drop, List.length_take]; rfl)) ?_; (with_reducible refine (impl_FewestVolumes.calls kj52 _ _ t397 (wrap64 (t409 - 1)) t424 false _ ?side1 ?side2 A60.out).mono ?_); (case side1 => exact cr_ (Kd.R_reads' HO_5.out).2.2); (case side2 => exact (Kd.R_reads' HO_5.out).2.1); rintro e w' ⟨rfl, ⟨nd, rfl⟩⟩; refine ⟨_, rfl, ?_⟩))
                  go_meet
                  case rel => exact ⟨_, H', ⟨by have := HJ9.out; have := HJ31.out; have := HK3.out; have := HJ52.out; first | omega | exact Nat.le_refl _⟩, ⟨bw_⟩⟩
                ·rw [if_neg c59] at H
                 have c59b0 : decide (1 < t409) = false := decide_eq_false c59
                 clear c59
                 have H' := Aside0.mk H
                 clear H
                 go_wp2
                 go_meet
                 case rel => exact ⟨_, H', ⟨by have := HJ9.out; have := HJ31.out; have := HK3.out; have := HJ52.out; first | omega | exact Nat.le_refl _⟩, ⟨bw_⟩⟩
      ·replace c31 := Bool.eq_false_iff.mpr c31
       subst c31
       have H1 : (laws_FnVolumesSplit.j5 kj9 l1) = some r := by rw [if_neg (show ¬ (false = true) by decide)] at H; exact H
       clear H
       have H := H1
       clear H1
       have H' := Aside0.mk H
       clear H
       go_wp2
       go_meet
       case rel => exact ⟨_, H', ⟨by have := HJ9.out; first | omega | exact Nat.le_refl _⟩, ⟨bw_⟩⟩
     case rest => as_aux_lemma =>
      clear HC30
      (try clear c1); (try clear c2); (try clear p2); (try clear c3); (try clear c4); (try clear p4); (try clear q4); (try clear hx4); (try clear c5); (try clear q5); (try clear c6); (try clear p6); (try clear c7); (try clear c8); (try clear c9); (try clear c10); (try clear c11); (try clear c13); (try clear c14); (try clear c16); (try clear c16b0); (try clear c16b1); (try clear c16b2); (try clear c18); (try clear c19); (try clear c19b0); (try clear c19b1); (try clear c19b2); (try clear c22); (try clear c22b0); (try clear c22b1); (try clear c29); (try clear c31); (try clear c33); (try clear c33b0); (try clear c33b1); (try clear c37); (try clear c39); (try clear c39b0); (try clear c40); (try clear c40b0); (try clear c41); (try clear c41b0); (try clear p41); (try clear q41); (try clear hx41); (try clear c43); (try clear c43b0); (try clear c44); (try clear c45); (try clear c45b0); (try clear c45b1); (try clear c46); (try clear c46b0); (try clear c46b1); (try clear c47); (try clear c47b0); (try clear c47b1); (try clear c49); (try clear c49b0); (try clear c50); (try clear q50); (try clear c51); (try clear q51); (try clear c54); (try clear c54b0); (try clear c54b1); (try clear c55); (try clear c56); (try clear c56b0); (try clear c58); (try clear c59); (try clear c59b0); (try clear c61); (try clear c62); (try clear c62b0); (try clear hx415_0); (try clear p415); (try clear q050); (try clear q051); (try clear q415)
      obtain ⟨kq, HA, HJ29, HB⟩ := hcut
      cases kq with
      | zero => exact absurd HA.out (by simp [laws_FnVolumesSplit.j5])
      | succ kj29 =>
       have H := HA.out
       clear HA
       simp only [laws_FnVolumesSplit.j5] at H
       replace H := Option.bind_eq_some_iff.mp H
       obtain ⟨⟨t426, t427⟩, A630, H⟩ := H
       (try dsimp only at H)
       have A63 := Aside0.mk A630
       clear A630
       replace H := Option.bind_eq_some_iff.mp H
       obtain ⟨⟨t430, t431⟩, A640, H⟩ := H
       (try dsimp only at H)
       have A64 := Aside0.mk A640
       clear A640
       replace H := Option.bind_eq_some_iff.mp H
       obtain ⟨⟨t432, t433⟩, A650, H⟩ := H
       (try dsimp only at H)
       have A65 := Aside0.mk A650
       clear A650
       replace H := Option.bind_eq_some_iff.mp H
       obtain ⟨⟨t434, t435, t436⟩, A660, H⟩ := H
       (try dsimp only at H)
       have A66 := Aside0.mk A660
       clear A660
       replace H := Option.bind_eq_some_iff.mp H
       obtain ⟨⟨t437, t438⟩, A670, H⟩ := H
       (try dsimp only at H)
       have A67 := Aside0.mk A670
       clear A670
       replace H := Option.bind_eq_some_iff.mp H
       obtain ⟨⟨t439, t440⟩, A680, H⟩ := H
       (try dsimp only at H)
       have A68 := Aside0.mk A680
       clear A680
       replace H := Option.bind_eq_some_iff.mp H
       obtain ⟨⟨t441, t442, t443, t444⟩, A690, H⟩ := H
       (try dsimp only at H)
       have A69 := Aside0.mk A690
       clear A690
       replace H := Option.bind_eq_some_iff.mp H
       obtain ⟨⟨t449, t450⟩, A700, H⟩ := H
       (try dsimp only at H)
       have A70 := Aside0.mk A700
       clear A700
       replace H := Option.bind_eq_some_iff.mp H
       obtain ⟨⟨t453, t454⟩, A710, H⟩ := H
       (try dsimp only at H)
       have A71 := Aside0.mk A710
       clear A710
       replace H := Option.bind_eq_some_iff.mp H
       obtain ⟨t457, A720, H⟩ := H
       (try dsimp only at H)
       have A72 := Aside0.mk A720
       clear A720
       replace H := Option.bind_eq_some_iff.mp H
       obtain ⟨⟨t458, t459⟩, A730, H⟩ := H
       (try dsimp only at H)
       have A73 := Aside0.mk A730
       clear A730
       replace H := Option.bind_eq_some_iff.mp H
       obtain ⟨⟨t460, t461⟩, A740, H⟩ := H
       (try dsimp only at H)
       have A74 := Aside0.mk A740
       clear A740
       replace H := Option.bind_eq_some_iff.mp H
       obtain ⟨⟨t462, t463, t464⟩, A750, H⟩ := H
       (try dsimp only at H)
       have A75 := Aside0.mk A750
       clear A750
       replace H := Option.bind_eq_some_iff.mp H
       obtain ⟨⟨t465, t466, t467⟩, A760, H⟩ := H
       (try dsimp only at H)
       have A76 := Aside0.mk A760
       clear A760
       replace H := Option.bind_eq_some_iff.mp H
       obtain ⟨t468, A770, H⟩ := H
       (try dsimp only at H)
       have A77 := Aside0.mk A770
       clear A770
       replace H := Option.bind_eq_some_iff.mp H
       obtain ⟨⟨t469, t470⟩, A780, H⟩ := H
       (try dsimp only at H)
       have A78 := Aside0.mk A780
       clear A780
       replace H := Option.bind_eq_some_iff.mp H
       obtain ⟨⟨t471, t472⟩, A790, H⟩ := H
       (try dsimp only at H)
       have A79 := Aside0.mk A790
       clear A790
       have HC80 := Aside0.mk H
       clear H
       go_upto_region 48 with (first | ((with_reducible refine gate_callee (f := 15) rfl ?_); refine goesL_ (some 217) rfl rfl Tryd.func15 (by kernel_rfl) rfl #[.slice A1 l1.length c1] rfl (by (try simp only [List.map_toArray, List.map_cons, List.map_nil]); first | done | rfl | (simp only [List.length_drop, List.length_take]; rfl)) ?_; (with_reducible refine (spec_DrawFewestVolumes.calls kj29 _ _ l1 t426 t427 _ ?side1 ?side2 A63.out).mono ?_); (case side1 => exact cr_ (Kd.C_below HR1.out HB.out)); (case side2 => exact HC1.out); rintro e w81 ⟨v428, rfl, ho0, hb⟩; refine ⟨_, rfl, ?_⟩; have n0_ := Aside0.mk (Kd.R_lower ho0 (below_size bw_)); have n1_ := Aside0.mk (below_step bw_ hb); clear HB; have HO429 := n0_; have HB := n1_; clear n0_ n1_; (try clear hb); (try clear hb2); (try clear hk); (try clear hi); (try clear ho0); obtain ⟨Ao82, co82, eo82⟩ := Kd.R_slice HO429.out; subst eo82) | ((with_reducible refine gate_callee (f := 14) rfl ?_); refine goesL_ (some 223) rfl rfl Tryd.func14 (by kernel_rfl) rfl #[.slice Ao82 t426.length co82, .int .i64 t427] rfl (by (try simp only [List.map_toArray, List.map_cons, List.map_nil]); first | done | rfl | (simp only [List.length_drop, List.length_take]; rfl)) ?_; (with_reducible refine (impl_FewestVolumes.calls kj29 _ _ t426 t427 t430 t431 _ ?side1 ?side2 A64.out).mono ?_); (case side1 => exact cr_ (Kd.R_reads' HO429.out).2.2); (case side2 => exact (Kd.R_reads' HO429.out).2.1); rintro e w' ⟨rfl, ⟨nd, rfl⟩⟩; refine ⟨_, rfl, ?_⟩) | ((with_reducible refine gate_callee (f := 16) rfl ?_); refine goesL_ (some 229) rfl rfl Tryd.func16 (by kernel_rfl) rfl #[.slice Ao82 t426.length co82, .int .i64 t427] rfl (by (try simp only [List.map_toArray, List.map_cons, List.map_nil]); first | done | rfl | (simp only [List.length_drop, List.length_take]; rfl)) ?_; (with_reducible refine (spec_FewestVolumes.calls kj29 _ _ t426 t427 t432 t433 _ ?side1 ?side2 A65.out).mono ?_); (case side1 => exact cr_ (Kd.R_reads' HO429.out).2.2); (case side2 => exact (Kd.R_reads' HO429.out).2.1); rintro e w' ⟨rfl, ⟨nd, rfl⟩⟩; refine ⟨_, rfl, ?_⟩) | ((with_reducible refine gate_callee (f := 17) rfl ?_); refine goesL_ (some 234) rfl rfl Tryd.func17 (by kernel_rfl) rfl #[.slice A1 l1.length c1] rfl (by (try simp only [List.map_toArray, List.map_cons, List.map_nil]); first | done | rfl | (simp only [List.length_drop, List.length_take]; rfl)) ?_; (with_reducible refine (spec_DrawContentsLine.calls _ _ l1 t434 t435 t436 _ ?side1 ?side2 A66.out).mono ?_); (case side1 => exact cr_ (Kd.C_below HR1.out bw_)); (case side2 => exact HC1.out); rintro e w83 ⟨rfl, hb⟩; refine ⟨_, rfl, ?_⟩; have n0_ := Aside0.mk (Kd.R_below (rr_ HO429.out) hb); have n1_ := Aside0.mk (below_step bw_ hb); clear HO429; clear HB; have HO429 := n0_; have HB := n1_; clear n0_ n1_; (try clear hb); (try clear hb2); (try clear hk); (try clear hi)) | ((with_reducible refine gate_callee (f := 18) rfl ?_); refine goesL_ (some 242) rfl rfl Tryd.func18 (by kernel_rfl) rfl #[.string t434, .int .i64 t435, .int .i64 t436] rfl (by (try simp only [List.map_toArray, List.map_cons, List.map_nil]); first | done | rfl | (simp only [List.length_drop, List.length_take]; rfl)) ?_; (with_reducible refine (impl_ContentsLine.calls kj29 t434 t435 t436 t437 t438 _ ?side1 A67.out).mono ?_); (case side1 => exact TabB.below HT.out bw_); rintro e w84 ⟨rfl, hb⟩; refine ⟨_, rfl, ?_⟩; have n0_ := Aside0.mk (Kd.R_below (rr_ HO429.out) hb); have n1_ := Aside0.mk (below_step bw_ hb); clear HO429; clear HB; have HO429 := n0_; have HB := n1_; clear n0_ n1_; (try clear hb); (try clear hb2); (try clear hk); (try clear hi)) | ((with_reducible refine gate_callee (f := 19) rfl ?_); refine goesL_ (some 249) rfl rfl Tryd.func19 (by kernel_rfl) rfl #[.string t434, .int .i64 t435, .int .i64 t436] rfl (by (try simp only [List.map_toArray, List.map_cons, List.map_nil]); first | done | rfl | (simp only [List.length_drop, List.length_take]; rfl)) ?_; (with_reducible refine (spec_ContentsLine.calls kj29 t434 t435 t436 t439 t440 _ A68.out).mono ?_); rintro e w85 ⟨rfl, hb⟩; refine ⟨_, rfl, ?_⟩; have n0_ := Aside0.mk (Kd.R_below (rr_ HO429.out) hb); have n1_ := Aside0.mk (below_step bw_ hb); clear HO429; clear HB; have HO429 := n0_; have HB := n1_; clear n0_ n1_; (try clear hb); (try clear hb2); (try clear hk); (try clear hi)) | ((with_reducible refine gate_callee (f := 20) rfl ?_); refine goesL_ (some 254) rfl rfl Tryd.func20 (by kernel_rfl) rfl #[.slice A1 l1.length c1] rfl (by (try simp only [List.map_toArray, List.map_cons, List.map_nil]); first | done | rfl | (simp only [List.length_drop, List.length_take]; rfl)) ?_; (with_reducible refine (spec_DrawContentsOf.calls kj29 _ _ l1 t441 t442 t443 t444 _ ?side1 ?side2 A69.out).mono ?_); (case side1 => exact cr_ (Kd.C_below HR1.out HB.out)); (case side2 => exact HC1.out); rintro e w86 ⟨v445, v447, rfl, ho0, ho1, hb⟩; refine ⟨_, rfl, ?_⟩; have n0_ := Aside0.mk (Kd.R_elder' (rr_ HO429.out) (Kd.R_base ho1) hb); have n1_ := Aside0.mk (Kd.R_lower ho0 (below_size bw_)); have n2_ := Aside0.mk (Kd.R_lower (Kd.R_new' ho1 (Kd.R_lt (rr_ HO429.out))) (below_size bw_)); have n3_ := Aside0.mk (below_step bw_ hb); clear HO429; clear HB; have HO429 := n0_; have HO446 := n1_; have HO448 := n2_; have HB := n3_; clear n0_ n1_ n2_ n3_; (try clear hb); (try clear hb2); (try clear hk); (try clear hi); (try clear ho0); (try clear ho1); obtain ⟨Ao87, co87, eo87⟩ := Kd.R_slice HO446.out; subst eo87; obtain ⟨Ao88, co88, eo88⟩ := Kd.R_slice HO448.out; subst eo88) | ((with_reducible refine gate_callee (f := 21) rfl ?_); refine goesL_ (some 264) rfl rfl Tryd.func21 (by kernel_rfl) rfl #[.slice Ao87 t441.length co87, .slice Ao88 t442.length co88, .bool t443, .int .i64 t444] rfl (by (try simp only [List.map_toArray, List.map_cons, List.map_nil]); first | done | rfl | (simp only [List.length_drop, List.length_take]; rfl)) ?_; (with_reducible refine (impl_ContentsOf.calls kj29 _ _ t441 _ _ t442 t443 t444 t449 t450 _ ?side1 ?side2 ?side3 ?side4 ?side5 A70.out).mono ?_); (case side1 => exact cr_ (Kd.R_reads' HO446.out).2.2); (case side2 => exact (Kd.R_reads' HO446.out).2.1); (case side3 => exact cr_ (Kd.R_reads' HO448.out).2.2); (case side4 => exact (Kd.R_reads' HO448.out).2.1); (case side5 => exact TabB.below HT.out bw_); rintro e w89 ⟨v451, rfl, ho0, hb⟩; refine ⟨_, rfl, ?_⟩; have n0_ := Aside0.mk (Kd.R_below (rr_ HO429.out) hb); have n1_ := Aside0.mk (Kd.R_elder' (rr_ HO446.out) (Kd.R_base ho0) hb); have n2_ := Aside0.mk (Kd.R_below (rr_ HO448.out) hb); have n3_ := Aside0.mk (Kd.R_lower (Kd.R_new' ho0 (Kd.R_lt (rr_ HO446.out))) (below_size bw_)); have n4_ := Aside0.mk (below_step bw_ hb); clear HO429; clear HO446; clear HO448; clear HB; have HO429 := n0_; have HO446 := n1_; have HO448 := n2_; have HO452 := n3_; have HB := n4_; clear n0_ n1_ n2_ n3_ n4_; (try clear hb); (try clear hb2); (try clear hk); (try clear hi); (try clear ho0)) | ((with_reducible refine gate_callee (f := 22) rfl ?_); refine goesL_ (some 272) rfl rfl Tryd.func22 (by kernel_rfl) rfl #[.slice Ao87 t441.length co87, .slice Ao88 t442.length co88, .bool t443, .int .i64 t444] rfl (by (try simp only [List.map_toArray, List.map_cons, List.map_nil]); first | done | rfl | (simp only [List.length_drop, List.length_take]; rfl)) ?_; (with_reducible refine (spec_ContentsOf.calls kj29 _ _ t441 _ _ t442 t443 t444 t453 t454 _ ?side1 ?side2 ?side3 ?side4 A71.out).mono ?_); (case side1 => exact cr_ (Kd.R_reads' HO446.out).2.2); (case side2 => exact (Kd.R_reads' HO446.out).2.1); (case side3 => exact cr_ (Kd.R_reads' HO448.out).2.2); (case side4 => exact (Kd.R_reads' HO448.out).2.1); rintro e w90 ⟨v455, rfl, ho0, hb⟩; refine ⟨_, rfl, ?_⟩; have n0_ := Aside0.mk (Kd.R_below (rr_ HO429.out) hb); have n1_ := Aside0.mk (Kd.R_elder' (rr_ HO446.out) (Kd.R_base ho0) hb); have n2_ := Aside0.mk (Kd.R_below (rr_ HO448.out) hb); have n3_ := Aside0.mk (Kd.R_elder' (rr_ HO452.out) (Kd.R_base ho0) hb); have n4_ := Aside0.mk (Kd.R_lower (Kd.R_new' (Kd.R_new' ho0 (Kd.R_lt (rr_ HO446.out))) (Kd.R_lt (rr_ HO452.out))) (below_size bw_)); have n5_ := Aside0.mk (below_step bw_ hb); clear HO429; clear HO446; clear HO448; clear HO452; clear HB; have HO429 := n0_; have HO446 := n1_; have HO448 := n2_; have HO452 := n3_; have HO456 := n4_; have HB := n5_; clear n0_ n1_ n2_ n3_ n4_ n5_; (try clear hb); (try clear hb2); (try clear hk); (try clear hi); (try clear ho0)) | ((with_reducible refine gate_callee (f := 23) rfl ?_); refine goesL_ (some 276) rfl rfl Tryd.func23 (by kernel_rfl) rfl #[.slice A1 l1.length c1] rfl (by (try simp only [List.map_toArray, List.map_cons, List.map_nil]); first | done | rfl | (simp only [List.length_drop, List.length_take]; rfl)) ?_; (with_reducible refine (spec_DrawRomanOf.calls _ _ l1 t457 _ ?side1 ?side2 A72.out).mono ?_); (case side1 => exact cr_ (Kd.C_below HR1.out HB.out)); (case side2 => exact HC1.out); rintro e w91 ⟨rfl, hb⟩; refine ⟨_, rfl, ?_⟩; have n0_ := Aside0.mk (Kd.R_below (rr_ HO429.out) hb); have n1_ := Aside0.mk (Kd.R_below (rr_ HO446.out) hb); have n2_ := Aside0.mk (Kd.R_below (rr_ HO448.out) hb); have n3_ := Aside0.mk (Kd.R_below (rr_ HO452.out) hb); have n4_ := Aside0.mk (Kd.R_below (rr_ HO456.out) hb); have n5_ := Aside0.mk (below_step bw_ hb); clear HO429; clear HO446; clear HO448; clear HO452; clear HO456; clear HB; have HO429 := n0_; have HO446 := n1_; have HO448 := n2_; have HO452 := n3_; have HO456 := n4_; have HB := n5_; clear n0_ n1_ n2_ n3_ n4_ n5_; (try clear hb); (try clear hb2); (try clear hk); (try clear hi)) | ((with_reducible refine gate_callee (f := 24) rfl ?_); refine goesL_ (some 279) rfl rfl Tryd.func24 (by kernel_rfl) rfl #[.int .i64 t457] rfl (by (try simp only [List.map_toArray, List.map_cons, List.map_nil]); first | done | rfl | (simp only [List.length_drop, List.length_take]; rfl)) ?_; (with_reducible refine (impl_RomanOf.calls t457 t458 t459 _ A73.out).mono ?_); rintro e w92 ⟨rfl, hb⟩; refine ⟨_, rfl, ?_⟩; have n0_ := Aside0.mk (Kd.R_below (rr_ HO429.out) hb); have n1_ := Aside0.mk (Kd.R_below (rr_ HO446.out) hb); have n2_ := Aside0.mk (Kd.R_below (rr_ HO448.out) hb); have n3_ := Aside0.mk (Kd.R_below (rr_ HO452.out) hb); have n4_ := Aside0.mk (Kd.R_below (rr_ HO456.out) hb); have n5_ := Aside0.mk (below_step bw_ hb); clear HO429; clear HO446; clear HO448; clear HO452; clear HO456; clear HB; have HO429 := n0_; have HO446 := n1_; have HO448 := n2_; have HO452 := n3_; have HO456 := n4_; have HB := n5_; clear n0_ n1_ n2_ n3_ n4_ n5_; (try clear hb); (try clear hb2); (try clear hk); (try clear hi)) | ((with_reducible refine gate_callee (f := 25) rfl ?_); refine goesL_ (some 284) rfl rfl Tryd.func25 (by kernel_rfl) rfl #[.int .i64 t457] rfl (by (try simp only [List.map_toArray, List.map_cons, List.map_nil]); first | done | rfl | (simp only [List.length_drop, List.length_take]; rfl)) ?_; (with_reducible refine (spec_RomanOf.calls kj29 t457 t460 t461 _ A74.out).mono ?_); rintro e w' ⟨rfl, ⟨nd, rfl⟩⟩; refine ⟨_, rfl, ?_⟩) | ((with_reducible refine gate_callee (f := 26) rfl ?_); refine goesL_ (some 289) rfl rfl Tryd.func26 (by kernel_rfl) rfl #[.int .i64 t457] rfl (by (try simp only [List.map_toArray, List.map_cons, List.map_nil]); first | done | rfl | (simp only [List.length_drop, List.length_take]; rfl)) ?_; (with_reducible refine (impl_LongestRoman.calls kj29 t457 t462 t463 t464 _ A75.out).mono ?_); rintro e w93 ⟨rfl, hb⟩; refine ⟨_, rfl, ?_⟩; have n0_ := Aside0.mk (Kd.R_below (rr_ HO429.out) hb); have n1_ := Aside0.mk (Kd.R_below (rr_ HO446.out) hb); have n2_ := Aside0.mk (Kd.R_below (rr_ HO448.out) hb); have n3_ := Aside0.mk (Kd.R_below (rr_ HO452.out) hb); have n4_ := Aside0.mk (Kd.R_below (rr_ HO456.out) hb); have n5_ := Aside0.mk (below_step bw_ hb); clear HO429; clear HO446; clear HO448; clear HO452; clear HO456; clear HB; have HO429 := n0_; have HO446 := n1_; have HO448 := n2_; have HO452 := n3_; have HO456 := n4_; have HB := n5_; clear n0_ n1_ n2_ n3_ n4_ n5_; (try clear hb); (try clear hb2); (try clear hk); (try clear hi)) | ((with_reducible refine gate_callee (f := 27) rfl ?_); refine goesL_ (some 295) rfl rfl Tryd.func27 (by kernel_rfl) rfl #[.int .i64 t457] rfl (by (try simp only [List.map_toArray, List.map_cons, List.map_nil]); first | done | rfl | (simp only [List.length_drop, List.length_take]; rfl)) ?_; (with_reducible refine (spec_LongestRoman.calls kj29 t457 t465 t466 t467 _ A76.out).mono ?_); rintro e w' ⟨rfl, ⟨nd, rfl⟩⟩; refine ⟨_, rfl, ?_⟩) | ((with_reducible refine gate_callee (f := 28) rfl ?_); refine goesL_ (some 300) rfl rfl Tryd.func28 (by kernel_rfl) rfl #[.slice A1 l1.length c1] rfl (by (try simp only [List.map_toArray, List.map_cons, List.map_nil]); first | done | rfl | (simp only [List.length_drop, List.length_take]; rfl)) ?_; (with_reducible refine (spec_DrawNumberOfRoman.calls kj29 _ _ l1 t468 _ ?side1 ?side2 A77.out).mono ?_); (case side1 => exact cr_ (Kd.C_below HR1.out bw_)); (case side2 => exact HC1.out); rintro e w94 ⟨rfl, hb⟩; refine ⟨_, rfl, ?_⟩; have n0_ := Aside0.mk (Kd.R_below (rr_ HO429.out) hb); have n1_ := Aside0.mk (Kd.R_below (rr_ HO446.out) hb); have n2_ := Aside0.mk (Kd.R_below (rr_ HO448.out) hb); have n3_ := Aside0.mk (Kd.R_below (rr_ HO452.out) hb); have n4_ := Aside0.mk (Kd.R_below (rr_ HO456.out) hb); have n5_ := Aside0.mk (below_step bw_ hb); clear HO429; clear HO446; clear HO448; clear HO452; clear HO456; clear HB; have HO429 := n0_; have HO446 := n1_; have HO448 := n2_; have HO452 := n3_; have HO456 := n4_; have HB := n5_; clear n0_ n1_ n2_ n3_ n4_ n5_; (try clear hb); (try clear hb2); (try clear hk); (try clear hi)) | ((with_reducible refine gate_callee (f := 29) rfl ?_); refine goesL_ (some 303) rfl rfl Tryd.func29 (by kernel_rfl) rfl #[.string t468] rfl (by (try simp only [List.map_toArray, List.map_cons, List.map_nil]); first | done | rfl | (simp only [List.length_drop, List.length_take]; rfl)) ?_; (with_reducible refine (impl_NumberOfRoman.calls kj29 t468 t469 t470 _ A78.out).mono ?_); rintro e w95 ⟨rfl, hb⟩; refine ⟨_, rfl, ?_⟩; have n0_ := Aside0.mk (Kd.R_below (rr_ HO429.out) hb); have n1_ := Aside0.mk (Kd.R_below (rr_ HO446.out) hb); have n2_ := Aside0.mk (Kd.R_below (rr_ HO448.out) hb); have n3_ := Aside0.mk (Kd.R_below (rr_ HO452.out) hb); have n4_ := Aside0.mk (Kd.R_below (rr_ HO456.out) hb); have n5_ := Aside0.mk (below_step bw_ hb); clear HO429; clear HO446; clear HO448; clear HO452; clear HO456; clear HB; have HO429 := n0_; have HO446 := n1_; have HO448 := n2_; have HO452 := n3_; have HO456 := n4_; have HB := n5_; clear n0_ n1_ n2_ n3_ n4_ n5_; (try clear hb); (try clear hb2); (try clear hk); (try clear hi)) | ((with_reducible refine gate_callee (f := 30) rfl ?_); refine goesL_ (some 308) rfl rfl Tryd.func30 (by kernel_rfl) rfl #[.string t468] rfl (by (try simp only [List.map_toArray, List.map_cons, List.map_nil]); first | done | rfl | (simp only [List.length_drop, List.length_take]; rfl)) ?_; (with_reducible refine (spec_NumberOfRoman.calls kj29 t468 t471 t472 _ A79.out).mono ?_); rintro e w' ⟨rfl, ⟨nd, rfl⟩⟩; refine ⟨_, rfl, ?_⟩))
       (try simp only [Act.put, List.setIfInBounds_toArray, List.set_cons_zero, List.set_cons_succ])
       go_cut [379] from 311 to 378 (fun v379 wc => ∃ (kq : Nat) (x379_79 : Bool), v379 = .bool x379_79 ∧ Aside0 (laws_FnVolumesSplit.j6 kq t426 t427 t430 t431 t434 t436 t437 t438 t441 t442 t443 t444 t449 t450 t457 t458 t459 t462 t463 t468 t469 t470 x379_79 = some r) ∧ Aside0 (kq ≤ kj29) ∧ Aside0 (Kd.R (Kd.int .i64) 3 wc w.heap.size (fun k_ => some k_ ≠ ((.slice Ao88 t442.length co88) : Value).ownBlock) (.slice Ao82 t426.length co82) t426) ∧ Aside0 (Kd.R Kd.string 9 wc w.heap.size (fun k_ => some k_ ≠ (v451 : Value).ownBlock) (.slice Ao87 t441.length co87) t441) ∧ Aside0 (Kd.R (Kd.int .i64) 3 wc w.heap.size (fun k_ => some k_ ≠ ((.slice Ao82 t426.length co82) : Value).ownBlock) (.slice Ao88 t442.length co88) t442) ∧ Aside0 (Kd.R Kd.string 9 wc w.heap.size (fun k_ => some k_ ≠ ((.slice Ao87 t441.length co87) : Value).ownBlock) v451 t449) ∧ Aside0 (Below w.heap.size w wc))
       case first => as_aux_lemma =>
        have H := HC80.out
        clear HC80
        by_cases c96 : (t431 != t433) = true
        ·rw [if_pos c96] at H
         have c96b0 : (t431 != t433) = true := c96
         (try (have c96b1 : decide (t431 = t433) = false := by simpa using c96))
         (try (have c96b2 : (t431 == t433) = false := by simpa using c96))
         (try (have c96b3 : ¬ (t431 = t433) := by simpa using c96))
         clear c96
         (first | rw [c96b0] | skip)
         exact (laws_FnVolumesSplit.j6_no H hr_.out).elim
        ·rw [if_neg c96] at H
         have c96b0 : (t431 != t433) = false := by simpa using c96
         (try (have c96b1 : decide (t431 = t433) = true := by simpa using c96))
         (try (have c96b2 : (t431 == t433) = true := by simpa using c96))
         clear c96
         (first | rw [c96b0] | skip)
         by_cases c97 : t430 = t432
         ·rw [if_pos c97] at H
          have c97b0 : (t430 == t432) = true := beq_iff_eq.mpr c97
          have c97b1 : (t430 != t432) = false := bne_eq_false_iff_eq.mpr c97
          clear c97
          by_cases c98 : (t438 != t440) = true
          ·rw [if_pos c98] at H
           have c98b0 : (t438 != t440) = true := c98
           (try (have c98b1 : decide (t438 = t440) = false := by simpa using c98))
           (try (have c98b2 : (t438 == t440) = false := by simpa using c98))
           (try (have c98b3 : ¬ (t438 = t440) := by simpa using c98))
           clear c98
           exact (laws_FnVolumesSplit.j6_no H hr_.out).elim
          ·rw [if_neg c98] at H
           have c98b0 : (t438 != t440) = false := by simpa using c98
           (try (have c98b1 : decide (t438 = t440) = true := by simpa using c98))
           (try (have c98b2 : (t438 == t440) = true := by simpa using c98))
           clear c98
           by_cases c99 : t437.toList = t439.toList
           ·rw [if_pos c99] at H
            have c99b0 : (t437.toList == t439.toList) = true := beq_iff_eq.mpr c99
            have c99b1 : (t437.toList != t439.toList) = false := bne_eq_false_iff_eq.mpr c99
            clear c99
            by_cases c100 : (t450 != t454) = true
            ·rw [if_pos c100] at H
             have c100b0 : (t450 != t454) = true := c100
             (try (have c100b1 : decide (t450 = t454) = false := by simpa using c100))
             (try (have c100b2 : (t450 == t454) = false := by simpa using c100))
             (try (have c100b3 : ¬ (t450 = t454) := by simpa using c100))
             clear c100
             exact (laws_FnVolumesSplit.j6_no H hr_.out).elim
            ·rw [if_neg c100] at H
             have c100b0 : (t450 != t454) = false := by simpa using c100
             (try (have c100b1 : decide (t450 = t454) = true := by simpa using c100))
             (try (have c100b2 : (t450 == t454) = true := by simpa using c100))
             clear c100
             replace H := Option.bind_eq_some_iff.mp H
             obtain ⟨t473, A1010, H⟩ := H
             (try dsimp only at H)
             have A101 := Aside0.mk A1010
             clear A1010
             by_cases c102 : t473 = true
             ·subst c102
              have H1 : (if (t459 != t461) = true then (laws_FnVolumesSplit.j6 kj29 t426 t427 t430 t431 t434 t436 t437 t438 t441 t442 t443 t444 t449 t450 t457 t458 t459 t462 t463 t468 t469 t470 true) else (if t458.toList = t460.toList then (if (t464 != t467) = true then (laws_FnVolumesSplit.j6 kj29 t426 t427 t430 t431 t434 t436 t437 t438 t441 t442 t443 t444 t449 t450 t457 t458 t459 t462 t463 t468 t469 t470 true) else (if t462 = t465 then (if t463 = t466 then (if (t470 != t472) = true then (laws_FnVolumesSplit.j6 kj29 t426 t427 t430 t431 t434 t436 t437 t438 t441 t442 t443 t444 t449 t450 t457 t458 t459 t462 t463 t468 t469 t470 true) else (if t469 = t471 then (laws_FnVolumesSplit.j6 kj29 t426 t427 t430 t431 t434 t436 t437 t438 t441 t442 t443 t444 t449 t450 t457 t458 t459 t462 t463 t468 t469 t470 (t464 != t459)) else (laws_FnVolumesSplit.j6 kj29 t426 t427 t430 t431 t434 t436 t437 t438 t441 t442 t443 t444 t449 t450 t457 t458 t459 t462 t463 t468 t469 t470 true))) else (laws_FnVolumesSplit.j6 kj29 t426 t427 t430 t431 t434 t436 t437 t438 t441 t442 t443 t444 t449 t450 t457 t458 t459 t462 t463 t468 t469 t470 true)) else (laws_FnVolumesSplit.j6 kj29 t426 t427 t430 t431 t434 t436 t437 t438 t441 t442 t443 t444 t449 t450 t457 t458 t459 t462 t463 t468 t469 t470 true))) else (laws_FnVolumesSplit.j6 kj29 t426 t427 t430 t431 t434 t436 t437 t438 t441 t442 t443 t444 t449 t450 t457 t458 t459 t462 t463 t468 t469 t470 true))) = some r := by rw [if_pos rfl] at H; exact H
              clear H
              have H := H1
              clear H1
              by_cases c103 : (t459 != t461) = true
              ·rw [if_pos c103] at H
               have c103b0 : (t459 != t461) = true := c103
               (try (have c103b1 : decide (t459 = t461) = false := by simpa using c103))
               (try (have c103b2 : (t459 == t461) = false := by simpa using c103))
               (try (have c103b3 : ¬ (t459 = t461) := by simpa using c103))
               clear c103
               exact (laws_FnVolumesSplit.j6_no H hr_.out).elim
              ·rw [if_neg c103] at H
               have c103b0 : (t459 != t461) = false := by simpa using c103
               (try (have c103b1 : decide (t459 = t461) = true := by simpa using c103))
               (try (have c103b2 : (t459 == t461) = true := by simpa using c103))
               clear c103
               by_cases c106 : t458.toList = t460.toList
               ·rw [if_pos c106] at H
                have c106b0 : (t458.toList == t460.toList) = true := beq_iff_eq.mpr c106
                have c106b1 : (t458.toList != t460.toList) = false := bne_eq_false_iff_eq.mpr c106
                clear c106
                by_cases c107 : (t464 != t467) = true
                ·rw [if_pos c107] at H
                 have c107b0 : (t464 != t467) = true := c107
                 (try (have c107b1 : decide (t464 = t467) = false := by simpa using c107))
                 (try (have c107b2 : (t464 == t467) = false := by simpa using c107))
                 (try (have c107b3 : ¬ (t464 = t467) := by simpa using c107))
                 clear c107
                 exact (laws_FnVolumesSplit.j6_no H hr_.out).elim
                ·rw [if_neg c107] at H
                 have c107b0 : (t464 != t467) = false := by simpa using c107
                 (try (have c107b1 : decide (t464 = t467) = true := by simpa using c107))
                 (try (have c107b2 : (t464 == t467) = true := by simpa using c107))
                 clear c107
                 by_cases c110 : t462 = t465
                 ·rw [if_pos c110] at H
                  have c110b0 : (t462 == t465) = true := beq_iff_eq.mpr c110
                  have c110b1 : (t462 != t465) = false := bne_eq_false_iff_eq.mpr c110
                  clear c110
                  by_cases c111 : t463 = t466
                  ·rw [if_pos c111] at H
                   have c111b0 : (t463 == t466) = true := beq_iff_eq.mpr c111
                   have c111b1 : (t463 != t466) = false := bne_eq_false_iff_eq.mpr c111
                   clear c111
                   by_cases c112 : (t470 != t472) = true
                   ·rw [if_pos c112] at H
                    have c112b0 : (t470 != t472) = true := c112
                    (try (have c112b1 : decide (t470 = t472) = false := by simpa using c112))
                    (try (have c112b2 : (t470 == t472) = false := by simpa using c112))
                    (try (have c112b3 : ¬ (t470 = t472) := by simpa using c112))
                    clear c112
                    exact (laws_FnVolumesSplit.j6_no H hr_.out).elim
                   ·rw [if_neg c112] at H
                    have c112b0 : (t470 != t472) = false := by simpa using c112
                    (try (have c112b1 : decide (t470 = t472) = true := by simpa using c112))
                    (try (have c112b2 : (t470 == t472) = true := by simpa using c112))
                    clear c112
                    by_cases c115 : t469 = t471
                    ·rw [if_pos c115] at H
                     have c115b0 : (t469 == t471) = true := beq_iff_eq.mpr c115
                     have c115b1 : (t469 != t471) = false := bne_eq_false_iff_eq.mpr c115
                     clear c115
                     have H' := Aside0.mk H
                     clear H
                     obtain ⟨Ao116, co116, eo116⟩ := Kd.R_slice HO452.out
                     subst eo116
                     obtain ⟨Ao117, co117, eo117⟩ := Kd.R_slice HO456.out
                     subst eo117
                     go_wp2_with (first | (go_at_call 31; (with_reducible refine (laws_xTexts.calls kj29 _ _ t449 _ _ t453 true _ ?side1 ?side2 ?side3 ?side4 A101.out).mono ?_); (case side1 => exact cr_ (Kd.R_reads' HO452.out).2.2); (case side2 => exact (Kd.R_reads' HO452.out).2.1); (case side3 => exact cr_ (Kd.R_reads' HO456.out).2.2); (case side4 => exact (Kd.R_reads' HO456.out).2.1); rintro e w' ⟨rfl, ⟨nd, rfl⟩⟩))
                     go_meet
                     case rel => exact ⟨_, ((t464 != t459)), rs_, H', ⟨by have := HJ9.out; have := HJ29.out; first | omega | exact Nat.le_refl _⟩, ⟨by (with_reducible repeat (first | apply Kd.R_alloc | apply Kd.R_drewN | apply Kd.R_drew)); exact Kd.R_mono HO429.out (fun _ hk => hk.2)⟩, ⟨by (with_reducible repeat (first | apply Kd.R_alloc | apply Kd.R_drewN | apply Kd.R_drew)); exact Kd.R_mono HO446.out (fun _ hk => hk.1.2)⟩, ⟨by (with_reducible repeat (first | apply Kd.R_alloc | apply Kd.R_drewN | apply Kd.R_drew)); exact Kd.R_mono HO448.out (fun _ hk => hk.2)⟩, ⟨by (with_reducible repeat (first | apply Kd.R_alloc | apply Kd.R_drewN | apply Kd.R_drew)); exact Kd.R_mono HO452.out (fun _ hk => hk.1.2)⟩, ⟨bw_⟩⟩
                    ·rw [if_neg c115] at H
                     have c115b0 : (t469 == t471) = false := beq_eq_false_iff_ne.mpr c115
                     have c115b1 : (t469 != t471) = true := bne_iff_ne.mpr c115
                     exact (laws_FnVolumesSplit.j6_no H hr_.out).elim
                  ·rw [if_neg c111] at H
                   have c111b0 : (t463 == t466) = false := beq_eq_false_iff_ne.mpr c111
                   have c111b1 : (t463 != t466) = true := bne_iff_ne.mpr c111
                   exact (laws_FnVolumesSplit.j6_no H hr_.out).elim
                 ·rw [if_neg c110] at H
                  have c110b0 : (t462 == t465) = false := beq_eq_false_iff_ne.mpr c110
                  have c110b1 : (t462 != t465) = true := bne_iff_ne.mpr c110
                  exact (laws_FnVolumesSplit.j6_no H hr_.out).elim
               ·rw [if_neg c106] at H
                have c106b0 : (t458.toList == t460.toList) = false := beq_eq_false_iff_ne.mpr c106
                have c106b1 : (t458.toList != t460.toList) = true := bne_iff_ne.mpr c106
                exact (laws_FnVolumesSplit.j6_no H hr_.out).elim
             ·replace c102 := Bool.eq_false_iff.mpr c102
              subst c102
              have H1 : (laws_FnVolumesSplit.j6 kj29 t426 t427 t430 t431 t434 t436 t437 t438 t441 t442 t443 t444 t449 t450 t457 t458 t459 t462 t463 t468 t469 t470 true) = some r := by rw [if_neg (show ¬ (false = true) by decide)] at H; exact H
              clear H
              have H := H1
              clear H1
              exact (laws_FnVolumesSplit.j6_no H hr_.out).elim
           ·rw [if_neg c99] at H
            have c99b0 : (t437.toList == t439.toList) = false := beq_eq_false_iff_ne.mpr c99
            have c99b1 : (t437.toList != t439.toList) = true := bne_iff_ne.mpr c99
            exact (laws_FnVolumesSplit.j6_no H hr_.out).elim
         ·rw [if_neg c97] at H
          have c97b0 : (t430 == t432) = false := beq_eq_false_iff_ne.mpr c97
          have c97b1 : (t430 != t432) = true := bne_iff_ne.mpr c97
          exact (laws_FnVolumesSplit.j6_no H hr_.out).elim
       case rest => as_aux_lemma =>
        clear HC80
        (try clear c1); (try clear c2); (try clear p2); (try clear c3); (try clear c4); (try clear p4); (try clear q4); (try clear hx4); (try clear c5); (try clear q5); (try clear c6); (try clear p6); (try clear c7); (try clear c8); (try clear c9); (try clear c10); (try clear c11); (try clear c13); (try clear c14); (try clear c15); (try clear c16); (try clear c16b0); (try clear c16b1); (try clear c16b2); (try clear c17); (try clear c18); (try clear c19); (try clear c19b0); (try clear c19b1); (try clear c19b2); (try clear c20); (try clear c21); (try clear c22); (try clear c22b0); (try clear c22b1); (try clear c23); (try clear c24); (try clear c25); (try clear c26); (try clear c27); (try clear c28); (try clear c29); (try clear c30); (try clear c31); (try clear c33); (try clear c33b0); (try clear c33b1); (try clear c37); (try clear c39); (try clear c39b0); (try clear c40); (try clear c40b0); (try clear c41); (try clear c41b0); (try clear p41); (try clear q41); (try clear hx41); (try clear c43); (try clear c43b0); (try clear c44); (try clear c45); (try clear c45b0); (try clear c45b1); (try clear c46); (try clear c46b0); (try clear c46b1); (try clear c47); (try clear c47b0); (try clear c47b1); (try clear c49); (try clear c49b0); (try clear c50); (try clear q50); (try clear c51); (try clear q51); (try clear c54); (try clear c54b0); (try clear c54b1); (try clear c55); (try clear c56); (try clear c56b0); (try clear c58); (try clear c59); (try clear c59b0); (try clear c61); (try clear c62); (try clear c62b0); (try clear p64); (try clear c96); (try clear c96b0); (try clear c96b1); (try clear c96b2); (try clear c97); (try clear c97b0); (try clear c97b1); (try clear c98); (try clear c98b0); (try clear c98b1); (try clear c98b2); (try clear c99); (try clear c99b0); (try clear c99b1); (try clear c100); (try clear c100b0); (try clear c100b1); (try clear c100b2); (try clear c102); (try clear c103); (try clear c103b0); (try clear c103b1); (try clear c103b2); (try clear c106); (try clear c106b0); (try clear c106b1); (try clear c107); (try clear c107b0); (try clear c107b1); (try clear c107b2); (try clear c110); (try clear c110b0); (try clear c110b1); (try clear c111); (try clear c111b0); (try clear c111b1); (try clear c112); (try clear c112b0); (try clear c112b1); (try clear c112b2); (try clear c115); (try clear c115b0); (try clear c115b1); (try clear hx415_0); (try clear p415); (try clear q050); (try clear q051); (try clear q415)
        obtain ⟨kq, x379_79, rfl, HA, HJ79, HO_24, HO_37, HO_38, HO_41, HB⟩ := hcut
        cases kq with
        | zero => exact absurd HA.out (by simp [laws_FnVolumesSplit.j6])
        | succ kj79 =>
         have H := HA.out
         clear HA
         simp only [laws_FnVolumesSplit.j6] at H
         by_cases c128 : x379_79 = true
         ·subst c128
          have H1 : (some false) = some r := by rw [if_pos rfl] at H; exact H
          clear H
          have H := H1
          clear H1
          obtain rfl := Option.some.inj H
          exact absurd hr_.out (by decide)
         ·replace c128 := Bool.eq_false_iff.mpr c128
          subst c128
          have H1 : (if t431 = true then (if t430 < 1 then (laws_FnVolumesSplit.j7 kj79 t426 t427 t430 t434 t436 t437 t438 t441 t442 t443 t444 t449 t450 t457 t458 t459 t462 t463 t468 t469 t470 true) else (if t430 > (t426.length : Int) then (laws_FnVolumesSplit.j7 kj79 t426 t427 t430 t434 t436 t437 t438 t441 t442 t443 t444 t449 t450 t457 t458 t459 t462 t463 t468 t469 t470 true) else ((laws_xSum.f kj79 t426).bind fun t474 => (laws_FnVolumesSplit.j7 kj79 t426 t427 t430 t434 t436 t437 t438 t441 t442 t443 t444 t449 t450 t457 t458 t459 t462 t463 t468 t469 t470 (decide ((wrap64 (t430 * t427)) < t474)))))) else (laws_FnVolumesSplit.j8 kj79 t434 t436 t437 t438 t441 t442 t443 t444 t449 t450 t457 t458 t459 t462 t463 t468 t469 t470)) = some r := by rw [if_neg (show ¬ (false = true) by decide)] at H; exact H
          clear H
          have H := H1
          clear H1
          have HC129 := Aside0.mk H
          clear H
          go_upto_if 380 with (fail)
          go_cut [61, 62] from 381 to 411 (fun v61 v62 wc => ∃ (kq : Nat), Aside0 (laws_FnVolumesSplit.j8 kq t434 t436 t437 t438 t441 t442 t443 t444 t449 t450 t457 t458 t459 t462 t463 t468 t469 t470 = some r) ∧ Aside0 (kq ≤ kj79) ∧ Aside0 (Kd.R Kd.string 9 wc w.heap.size (fun k_ => some k_ ≠ (v451 : Value).ownBlock) (.slice Ao87 t441.length co87) t441) ∧ Aside0 (Kd.R (Kd.int .i64) 3 wc w.heap.size (fun _ => True) (.slice Ao88 t442.length co88) t442) ∧ Aside0 (Kd.R Kd.string 9 wc w.heap.size (fun k_ => some k_ ≠ ((.slice Ao87 t441.length co87) : Value).ownBlock) v451 t449) ∧ Aside0 (Below w.heap.size w wc))
          case first => as_aux_lemma =>
           have H := HC129.out
           clear HC129
           by_cases c130 : t431 = true
           ·subst c130
            have H1 : (if t430 < 1 then (laws_FnVolumesSplit.j7 kj79 t426 t427 t430 t434 t436 t437 t438 t441 t442 t443 t444 t449 t450 t457 t458 t459 t462 t463 t468 t469 t470 true) else (if t430 > (t426.length : Int) then (laws_FnVolumesSplit.j7 kj79 t426 t427 t430 t434 t436 t437 t438 t441 t442 t443 t444 t449 t450 t457 t458 t459 t462 t463 t468 t469 t470 true) else ((laws_xSum.f kj79 t426).bind fun t474 => (laws_FnVolumesSplit.j7 kj79 t426 t427 t430 t434 t436 t437 t438 t441 t442 t443 t444 t449 t450 t457 t458 t459 t462 t463 t468 t469 t470 (decide ((wrap64 (t430 * t427)) < t474)))))) = some r := by rw [if_pos rfl] at H; exact H
            clear H
            have H := H1
            clear H1
            have HC131 := Aside0.mk H
            clear H
            go_upto_region 51 with (fail)
            go_cut [396] from 381 to 395 (fun v396 wc => ∃ (kq : Nat) (x396_130 : Bool), v396 = .bool x396_130 ∧ Aside0 (laws_FnVolumesSplit.j7 kq t426 t427 t430 t434 t436 t437 t438 t441 t442 t443 t444 t449 t450 t457 t458 t459 t462 t463 t468 t469 t470 x396_130 = some r) ∧ Aside0 (kq ≤ kj79) ∧ Aside0 (Kd.R (Kd.int .i64) 3 wc w.heap.size (fun k_ => some k_ ≠ ((.slice Ao88 t442.length co88) : Value).ownBlock) (.slice Ao82 t426.length co82) t426) ∧ Aside0 (Kd.R Kd.string 9 wc w.heap.size (fun k_ => some k_ ≠ (v451 : Value).ownBlock) (.slice Ao87 t441.length co87) t441) ∧ Aside0 (Kd.R (Kd.int .i64) 3 wc w.heap.size (fun k_ => some k_ ≠ ((.slice Ao82 t426.length co82) : Value).ownBlock) (.slice Ao88 t442.length co88) t442) ∧ Aside0 (Kd.R Kd.string 9 wc w.heap.size (fun k_ => some k_ ≠ ((.slice Ao87 t441.length co87) : Value).ownBlock) v451 t449) ∧ Aside0 (Below w.heap.size w wc))
            case first => as_aux_lemma =>
             have H := HC131.out
             clear HC131
             by_cases c132 : t430 < 1
             ·rw [if_pos c132] at H
              have c132b0 : decide (t430 < 1) = true := decide_eq_true c132
              clear c132
              (first | rw [c132b0] | skip)
              exact (laws_FnVolumesSplit.j7_no H hr_.out).elim
             ·rw [if_neg c132] at H
              have c132b0 : decide (t430 < 1) = false := decide_eq_false c132
              clear c132
              (first | rw [c132b0] | skip)
              by_cases c133 : t430 > (t426.length : Int)
              ·rw [if_pos c133] at H
               have c133b0 : decide ((t426.length : Int) < t430) = true := decide_eq_true c133
               clear c133
               exact (laws_FnVolumesSplit.j7_no H hr_.out).elim
              ·rw [if_neg c133] at H
               have c133b0 : decide ((t426.length : Int) < t430) = false := decide_eq_false c133
               clear c133
               replace H := Option.bind_eq_some_iff.mp H
               obtain ⟨t474, A1340, H⟩ := H
               (try dsimp only at H)
               have A134 := Aside0.mk A1340
               clear A1340
               have H' := Aside0.mk H
               clear H
               go_wp2_with (first | (go_at_call 13; (with_reducible refine (laws_xSum.calls kj79 _ _ t426 t474 _ ?side1 ?side2 A134.out).mono ?_); (case side1 => exact cr_ (Kd.R_reads' HO_24.out).2.2); (case side2 => exact (Kd.R_reads' HO_24.out).2.1); rintro e w' ⟨rfl, ⟨nd, rfl⟩⟩))
               go_meet
               case rel => exact ⟨_, (decide ((wrap64 (t430 * t427)) < t474)), rs_, H', ⟨by have := HJ9.out; have := HJ29.out; have := HJ79.out; first | omega | exact Nat.le_refl _⟩, ⟨rr_ HO_24.out⟩, ⟨rr_ HO_37.out⟩, ⟨rr_ HO_38.out⟩, ⟨rr_ HO_41.out⟩, ⟨bw_⟩⟩
            case rest => as_aux_lemma =>
             clear HC131
             (try clear c1); (try clear c2); (try clear p2); (try clear c3); (try clear c4); (try clear p4); (try clear q4); (try clear hx4); (try clear c5); (try clear q5); (try clear c6); (try clear p6); (try clear c7); (try clear c8); (try clear c9); (try clear c10); (try clear c11); (try clear c12); (try clear c13); (try clear c14); (try clear c15); (try clear c16); (try clear c16b0); (try clear c16b1); (try clear c16b2); (try clear c17); (try clear c18); (try clear c19); (try clear c19b0); (try clear c19b1); (try clear c19b2); (try clear c20); (try clear c21); (try clear c22); (try clear c22b0); (try clear c22b1); (try clear c23); (try clear c24); (try clear c25); (try clear c26); (try clear c27); (try clear c28); (try clear c29); (try clear c30); (try clear c31); (try clear c33); (try clear c33b0); (try clear c33b1); (try clear c37); (try clear c39); (try clear c39b0); (try clear c40); (try clear c40b0); (try clear c41); (try clear c41b0); (try clear p41); (try clear q41); (try clear hx41); (try clear c43); (try clear c43b0); (try clear c44); (try clear c45); (try clear c45b0); (try clear c45b1); (try clear c46); (try clear c46b0); (try clear c46b1); (try clear c47); (try clear c47b0); (try clear c47b1); (try clear c49); (try clear c49b0); (try clear c50); (try clear q50); (try clear c51); (try clear q51); (try clear c54); (try clear c54b0); (try clear c54b1); (try clear c55); (try clear c56); (try clear c56b0); (try clear c58); (try clear c59); (try clear c59b0); (try clear c61); (try clear c62); (try clear c62b0); (try clear p64); (try clear c96); (try clear c96b0); (try clear c96b1); (try clear c96b2); (try clear c97); (try clear c97b0); (try clear c97b1); (try clear c98); (try clear c98b0); (try clear c98b1); (try clear c98b2); (try clear c99); (try clear c99b0); (try clear c99b1); (try clear c100); (try clear c100b0); (try clear c100b1); (try clear c100b2); (try clear c102); (try clear c103); (try clear c103b0); (try clear c103b1); (try clear c103b2); (try clear c106); (try clear c106b0); (try clear c106b1); (try clear c107); (try clear c107b0); (try clear c107b1); (try clear c107b2); (try clear c110); (try clear c110b0); (try clear c110b1); (try clear c111); (try clear c111b0); (try clear c111b1); (try clear c112); (try clear c112b0); (try clear c112b1); (try clear c112b2); (try clear c115); (try clear c115b0); (try clear c115b1); (try clear c128); (try clear c130); (try clear c132); (try clear c132b0); (try clear c133); (try clear c133b0); (try clear hx415_0); (try clear p415); (try clear q050); (try clear q051); (try clear q415)
             obtain ⟨kq, x396_130, rfl, HA, HJ130, HO_24, HO_37, HO_38, HO_41, HB⟩ := hcut
             cases kq with
             | zero => exact absurd HA.out (by simp [laws_FnVolumesSplit.j7])
             | succ kj130 =>
              have H := HA.out
              clear HA
              simp only [laws_FnVolumesSplit.j7] at H
              by_cases c135 : x396_130 = true
              ·subst c135
               have H1 : (some false) = some r := by rw [if_pos rfl] at H; exact H
               clear H
               have H := H1
               clear H1
               obtain rfl := Option.some.inj H
               exact absurd hr_.out (by decide)
              ·replace c135 := Bool.eq_false_iff.mpr c135
               subst c135
               have H1 : (if t430 ≤ 5 then ((impl_LeastVolume.f kj130 t426 t430).bind fun bt475 => (if bt475.2 = true then (if bt475.1 > t427 then (some false) else (laws_FnVolumesSplit.j8 kj130 t434 t436 t437 t438 t441 t442 t443 t444 t449 t450 t457 t458 t459 t462 t463 t468 t469 t470)) else (some false))) else (laws_FnVolumesSplit.j8 kj130 t434 t436 t437 t438 t441 t442 t443 t444 t449 t450 t457 t458 t459 t462 t463 t468 t469 t470)) = some r := by rw [if_neg (show ¬ (false = true) by decide)] at H; exact H
               clear H
               have H := H1
               clear H1
               by_cases c136 : t430 ≤ 5
               ·rw [if_pos c136] at H
                have c136b0 : decide (t430 ≤ 5) = true := decide_eq_true c136
                clear c136
                replace H := Option.bind_eq_some_iff.mp H
                obtain ⟨⟨t475, t476⟩, A1370, H⟩ := H
                (try dsimp only at H)
                have A137 := Aside0.mk A1370
                clear A1370
                by_cases c138 : t476 = true
                ·subst c138
                 have H1 : (if t475 > t427 then (some false) else (laws_FnVolumesSplit.j8 kj130 t434 t436 t437 t438 t441 t442 t443 t444 t449 t450 t457 t458 t459 t462 t463 t468 t469 t470)) = some r := by rw [if_pos rfl] at H; exact H
                 clear H
                 have H := H1
                 clear H1
                 by_cases c139 : t475 > t427
                 ·rw [if_pos c139] at H
                  have c139b0 : decide (t427 < t475) = true := decide_eq_true c139
                  clear c139
                  obtain rfl := Option.some.inj H
                  exact absurd hr_.out (by decide)
                 ·rw [if_neg c139] at H
                  have c139b0 : decide (t427 < t475) = false := decide_eq_false c139
                  clear c139
                  have H' := Aside0.mk H
                  clear H
                  go_wp2_with (first | ((with_reducible refine gate_callee (f := 10) rfl ?_); refine goesL_ (some 402) rfl rfl Tryd.func10 (by kernel_rfl) rfl #[.slice Ao82 t426.length co82, .int .i64 t430] rfl (by (try simp only [List.map_toArray, List.map_cons, List.map_nil]); first | done | rfl | (simp only [List.length_drop, List.length_take]; rfl)) ?_; (with_reducible refine (impl_LeastVolume.calls kj130 _ _ t426 t430 t475 true _ ?side1 ?side2 A137.out).mono ?_); (case side1 => exact cr_ (Kd.R_reads' HO_24.out).2.2); (case side2 => exact (Kd.R_reads' HO_24.out).2.1); rintro e w140 ⟨rfl, hb⟩; refine ⟨_, rfl, ?_⟩; have n0_ := Aside0.mk (Kd.R_below (rr_ HO_24.out) hb); have n1_ := Aside0.mk (Kd.R_below (rr_ HO_37.out) hb); have n2_ := Aside0.mk (Kd.R_below (rr_ HO_38.out) hb); have n3_ := Aside0.mk (Kd.R_below (rr_ HO_41.out) hb); have n4_ := Aside0.mk (below_step bw_ hb); clear HO_24; clear HO_37; clear HO_38; clear HO_41; clear HB; have HO_24 := n0_; have HO_37 := n1_; have HO_38 := n2_; have HO_41 := n3_; have HB := n4_; clear n0_ n1_ n2_ n3_ n4_; (try clear hb); (try clear hb2); (try clear hk); (try clear hi)))
                  go_meet
                  case rel => exact ⟨_, H', ⟨by have := HJ9.out; have := HJ29.out; have := HJ79.out; have := HJ130.out; first | omega | exact Nat.le_refl _⟩, ⟨rr_ HO_37.out⟩, ⟨by (with_reducible repeat (first | apply Kd.R_alloc | apply Kd.R_drewN | apply Kd.R_drew)); exact Kd.R_mono HO_38.out (fun _ hk => trivial)⟩, ⟨rr_ HO_41.out⟩, ⟨bw_⟩⟩
                ·replace c138 := Bool.eq_false_iff.mpr c138
                 subst c138
                 have H1 : (some false) = some r := by rw [if_neg (show ¬ (false = true) by decide)] at H; exact H
                 clear H
                 have H := H1
                 clear H1
                 obtain rfl := Option.some.inj H
                 exact absurd hr_.out (by decide)
               ·rw [if_neg c136] at H
                have c136b0 : decide (t430 ≤ 5) = false := decide_eq_false c136
                clear c136
                have H' := Aside0.mk H
                clear H
                go_wp2
                go_meet
                case rel => exact ⟨_, H', ⟨by have := HJ9.out; have := HJ29.out; have := HJ79.out; have := HJ130.out; first | omega | exact Nat.le_refl _⟩, ⟨rr_ HO_37.out⟩, ⟨by (with_reducible repeat (first | apply Kd.R_alloc | apply Kd.R_drewN | apply Kd.R_drew)); exact Kd.R_mono HO_38.out (fun _ hk => trivial)⟩, ⟨rr_ HO_41.out⟩, ⟨bw_⟩⟩
           ·replace c130 := Bool.eq_false_iff.mpr c130
            subst c130
            have H1 : (laws_FnVolumesSplit.j8 kj79 t434 t436 t437 t438 t441 t442 t443 t444 t449 t450 t457 t458 t459 t462 t463 t468 t469 t470) = some r := by rw [if_neg (show ¬ (false = true) by decide)] at H; exact H
            clear H
            have H := H1
            clear H1
            have H' := Aside0.mk H
            clear H
            go_wp2
            go_meet
            case rel => exact ⟨_, H', ⟨by have := HJ9.out; have := HJ29.out; have := HJ79.out; first | omega | exact Nat.le_refl _⟩, ⟨rr_ HO_37.out⟩, ⟨by (with_reducible repeat (first | apply Kd.R_alloc | apply Kd.R_drewN | apply Kd.R_drew)); exact Kd.R_mono HO_38.out (fun _ hk => trivial)⟩, ⟨rr_ HO_41.out⟩, ⟨bw_⟩⟩
          case rest => as_aux_lemma =>
           clear HC129
           (try clear c1); (try clear c2); (try clear p2); (try clear c3); (try clear c4); (try clear p4); (try clear q4); (try clear hx4); (try clear c5); (try clear q5); (try clear c6); (try clear p6); (try clear c7); (try clear c8); (try clear c9); (try clear c10); (try clear c11); (try clear c12); (try clear c13); (try clear c14); (try clear c15); (try clear c16); (try clear c16b0); (try clear c16b1); (try clear c16b2); (try clear c17); (try clear c18); (try clear c19); (try clear c19b0); (try clear c19b1); (try clear c19b2); (try clear c20); (try clear c21); (try clear c22); (try clear c22b0); (try clear c22b1); (try clear c23); (try clear c24); (try clear c25); (try clear c26); (try clear c27); (try clear c28); (try clear c29); (try clear c30); (try clear c31); (try clear c33); (try clear c33b0); (try clear c33b1); (try clear c37); (try clear c39); (try clear c39b0); (try clear c40); (try clear c40b0); (try clear c41); (try clear c41b0); (try clear p41); (try clear q41); (try clear hx41); (try clear c43); (try clear c43b0); (try clear c44); (try clear c45); (try clear c45b0); (try clear c45b1); (try clear c46); (try clear c46b0); (try clear c46b1); (try clear c47); (try clear c47b0); (try clear c47b1); (try clear c49); (try clear c49b0); (try clear c50); (try clear q50); (try clear c51); (try clear q51); (try clear c54); (try clear c54b0); (try clear c54b1); (try clear c55); (try clear c56); (try clear c56b0); (try clear c58); (try clear c59); (try clear c59b0); (try clear c61); (try clear c62); (try clear c62b0); (try clear p64); (try clear c96); (try clear c96b0); (try clear c96b1); (try clear c96b2); (try clear c97); (try clear c97b0); (try clear c97b1); (try clear c98); (try clear c98b0); (try clear c98b1); (try clear c98b2); (try clear c99); (try clear c99b0); (try clear c99b1); (try clear c100); (try clear c100b0); (try clear c100b1); (try clear c100b2); (try clear c102); (try clear c103); (try clear c103b0); (try clear c103b1); (try clear c103b2); (try clear c106); (try clear c106b0); (try clear c106b1); (try clear c107); (try clear c107b0); (try clear c107b1); (try clear c107b2); (try clear c110); (try clear c110b0); (try clear c110b1); (try clear c111); (try clear c111b0); (try clear c111b1); (try clear c112); (try clear c112b0); (try clear c112b1); (try clear c112b2); (try clear c115); (try clear c115b0); (try clear c115b1); (try clear c128); (try clear c130); (try clear c132); (try clear c132b0); (try clear c133); (try clear c133b0); (try clear c135); (try clear c136); (try clear c136b0); (try clear c138); (try clear c139); (try clear c139b0); (try clear hx415_0); (try clear p415); (try clear q050); (try clear q051); (try clear q415)
           obtain ⟨kq, HA, HJ128, HO_37, HO_38, HO_41, HB⟩ := hcut
           cases kq with
           | zero => exact absurd HA.out (by simp [laws_FnVolumesSplit.j8])
           | succ kj128 =>
            have H := HA.out
            clear HA
            simp only [laws_FnVolumesSplit.j8] at H
            have HC141 := Aside0.mk H
            clear H
            go_upto_region 57 with (fail)
            go_cut [441] from 412 to 440 (fun v441 wc => ∃ (kq : Nat) (x441_140 : Bool), v441 = .bool x441_140 ∧ Aside0 (laws_FnVolumesSplit.j9 kq t441 t442 t443 t444 t449 t450 t457 t458 t459 t462 t463 t468 t469 t470 x441_140 = some r) ∧ Aside0 (kq ≤ kj128) ∧ Aside0 (Kd.R Kd.string 9 wc w.heap.size (fun k_ => some k_ ≠ (v451 : Value).ownBlock) (.slice Ao87 t441.length co87) t441) ∧ Aside0 (Kd.R (Kd.int .i64) 3 wc w.heap.size (fun _ => True) (.slice Ao88 t442.length co88) t442) ∧ Aside0 (Kd.R Kd.string 9 wc w.heap.size (fun k_ => some k_ ≠ ((.slice Ao87 t441.length co87) : Value).ownBlock) v451 t449) ∧ Aside0 (Below w.heap.size w wc))
            case first => as_aux_lemma =>
             have H := HC141.out
             clear HC141
             by_cases c142 : t438 = true
             ·subst c142
              have H1 : (if (t437.size : Int) = t436 then (if 0 ≤ (t434.size : Int) then (if (t434.size : Int) ≤ (t437.size : Int) then (if (t437.extract 0 ((t434.size : Int) : Int).toNat).toList = t434.toList then (if (t434.size : Int) < (t437.size : Int) then (if (bt t437 (t434.size : Int)) = 32 then (if 0 ≤ (wrap64 ((t434.size : Int) + 1)) then (if (wrap64 ((t434.size : Int) + 1)) < (t437.size : Int) then (laws_FnVolumesSplit.j9 kj128 t441 t442 t443 t444 t449 t450 t457 t458 t459 t462 t463 t468 t469 t470 ((bt t437 (wrap64 ((t434.size : Int) + 1))) != 46)) else (none)) else (none)) else (laws_FnVolumesSplit.j9 kj128 t441 t442 t443 t444 t449 t450 t457 t458 t459 t462 t463 t468 t469 t470 true)) else (none)) else (laws_FnVolumesSplit.j9 kj128 t441 t442 t443 t444 t449 t450 t457 t458 t459 t462 t463 t468 t469 t470 true)) else (none)) else (none)) else (laws_FnVolumesSplit.j9 kj128 t441 t442 t443 t444 t449 t450 t457 t458 t459 t462 t463 t468 t469 t470 true)) = some r := by rw [if_pos rfl] at H; exact H
              clear H
              have H := H1
              clear H1
              by_cases c143 : (t437.size : Int) = t436
              ·rw [if_pos c143] at H
               have c143b0 : ((t437.size : Int) == t436) = true := beq_iff_eq.mpr c143
               have c143b1 : ((t437.size : Int) != t436) = false := bne_eq_false_iff_eq.mpr c143
               clear c143
               (first | rw [c143b0] | skip)
               by_cases c144 : 0 ≤ (t434.size : Int)
               ·rw [if_pos c144] at H
                have c144b0 := eq_true c144
                have c144b1 : decide (0 ≤ (t434.size : Int)) = true := decide_eq_true c144
                clear c144
                by_cases c145 : (t434.size : Int) ≤ (t437.size : Int)
                ·rw [if_pos c145] at H
                 have c145b0 := eq_true c145
                 have c145b1 : decide ((t434.size : Int) ≤ (t437.size : Int)) = true := decide_eq_true c145
                 clear c145
                 by_cases c146 : (t437.extract 0 ((t434.size : Int) : Int).toNat).toList = t434.toList
                 ·rw [if_pos c146] at H
                  have c146b0 : ((t437.extract 0 ((t434.size : Int) : Int).toNat).toList == t434.toList) = true := beq_iff_eq.mpr c146
                  have c146b1 : ((t437.extract 0 ((t434.size : Int) : Int).toNat).toList != t434.toList) = false := bne_eq_false_iff_eq.mpr c146
                  (try simp only [Int.toNat_natCast] at c146b0 c146b1)
                  clear c146
                  by_cases c147 : (t434.size : Int) < (t437.size : Int)
                  ·rw [if_pos c147] at H
                   have c147b0 : decide ((t434.size : Int) < (t437.size : Int)) = true := decide_eq_true c147
                   have c147b1 : decide (t434.size < t437.size) = true := decide_eq_true (Int.ofNat_lt.mp c147)
                   clear c147
                   by_cases c149 : (bt t437 (t434.size : Int)) = 32
                   ·rw [if_pos c149] at H
                    have c149b0 : ((bt t437 (t434.size : Int)) == 32) = true := beq_iff_eq.mpr c149
                    have c149b1 : ((bt t437 (t434.size : Int)) != 32) = false := bne_eq_false_iff_eq.mpr c149
                    clear c149
                    obtain ⟨ji150, hji150⟩ : ∃ j_ : Int, (wrap64 ((t434.size : Int) + 1)) = j_ := ⟨_, rfl⟩
                    replace H : (if 0 ≤ (ji150) then (if (ji150) < (t437.size : Int) then (laws_FnVolumesSplit.j9 kj128 t441 t442 t443 t444 t449 t450 t457 t458 t459 t462 t463 t468 t469 t470 ((bt t437 (ji150)) != 46)) else (none)) else (none)) = some r := by first | (rw [hji150] at H; exact H) | (simp only [hji150] at H ⊢; exact H)
                    have hji150w : (IntKind.i64.wrap ((t434.size : Int) + 1)) = ji150 := (i64_w _).trans hji150
                    by_cases c151 : 0 ≤ (ji150)
                    ·rw [if_pos c151] at H
                     have c151b0 : decide (0 ≤ (ji150)) = true := decide_eq_true c151
                     clear c151
                     by_cases c152 : (ji150) < (t437.size : Int)
                     ·rw [if_pos c152] at H
                      have c152b0 : decide ((ji150) < (t437.size : Int)) = true := decide_eq_true c152
                      clear c152
                      have H' := Aside0.mk H
                      clear H
                      have p148 : 0 ≤ ((t434.size : Int) : Int) := of_decide_eq_true (by first | (with_reducible assumption) | assumption)
                      have q148 : (t434.size : Int) < (t437.size : Int) := of_decide_eq_true (by first | (with_reducible assumption) | assumption)
                      have hx148 : ∀ h_ : t434.size < t437.size, ((t437[t434.size]'h_).toNat : Int) = bt t437 (t434.size : Int) := bt_at t437 (t434.size : Int)
                      replace p148 := eq_true p148
                      replace q148 := eq_true q148
                      have p153 : 0 ≤ ((ji150) : Int) := of_decide_eq_true (by first | (with_reducible assumption) | assumption)
                      have q153 : (ji150) < (t437.size : Int) := of_decide_eq_true (by first | (with_reducible assumption) | assumption)
                      have hx153 := bt_at t437 (ji150)
                      replace p153 := eq_true p153
                      replace q153 := eq_true q153
                      go_wp2
                      go_meet
                      case rel => exact ⟨_, (((bt t437 (ji150)) != 46)), (by first | rfl | (simp; done) | (simp only [← hji150] <;> (first | rfl | simp)) | (simp [*]; done)), H', ⟨by have := HJ9.out; have := HJ29.out; have := HJ79.out; have := HJ128.out; first | omega | exact Nat.le_refl _⟩, ⟨rr_ HO_37.out⟩, ⟨rr_ HO_38.out⟩, ⟨rr_ HO_41.out⟩, ⟨bw_⟩⟩
                     ·rw [if_neg c152] at H
                      exact absurd H (by simp)
                    ·rw [if_neg c151] at H
                     exact absurd H (by simp)
                   ·rw [if_neg c149] at H
                    have c149b0 : ((bt t437 (t434.size : Int)) == 32) = false := beq_eq_false_iff_ne.mpr c149
                    have c149b1 : ((bt t437 (t434.size : Int)) != 32) = true := bne_iff_ne.mpr c149
                    exact (laws_FnVolumesSplit.j9_no H hr_.out).elim
                  ·rw [if_neg c147] at H
                   exact absurd H (by simp)
                 ·rw [if_neg c146] at H
                  have c146b0 : ((t437.extract 0 ((t434.size : Int) : Int).toNat).toList == t434.toList) = false := beq_eq_false_iff_ne.mpr c146
                  have c146b1 : ((t437.extract 0 ((t434.size : Int) : Int).toNat).toList != t434.toList) = true := bne_iff_ne.mpr c146
                  (try simp only [Int.toNat_natCast] at c146b0 c146b1)
                  exact (laws_FnVolumesSplit.j9_no H hr_.out).elim
                ·rw [if_neg c145] at H
                 exact absurd H (by simp)
               ·rw [if_neg c144] at H
                exact absurd H (by simp)
              ·rw [if_neg c143] at H
               have c143b0 : ((t437.size : Int) == t436) = false := beq_eq_false_iff_ne.mpr c143
               have c143b1 : ((t437.size : Int) != t436) = true := bne_iff_ne.mpr c143
               (first | rw [c143b0] | skip)
               exact (laws_FnVolumesSplit.j9_no H hr_.out).elim
             ·replace c142 := Bool.eq_false_iff.mpr c142
              subst c142
              have H1 : (laws_FnVolumesSplit.j9 kj128 t441 t442 t443 t444 t449 t450 t457 t458 t459 t462 t463 t468 t469 t470 false) = some r := by rw [if_neg (show ¬ (false = true) by decide)] at H; exact H
              clear H
              have H := H1
              clear H1
              have H' := Aside0.mk H
              clear H
              go_wp2
              go_meet
              case rel => exact ⟨_, (false), rs_, H', ⟨by have := HJ9.out; have := HJ29.out; have := HJ79.out; have := HJ128.out; first | omega | exact Nat.le_refl _⟩, ⟨rr_ HO_37.out⟩, ⟨rr_ HO_38.out⟩, ⟨rr_ HO_41.out⟩, ⟨bw_⟩⟩
            case rest => as_aux_lemma =>
             clear HC141
             (try clear c1); (try clear p1); (try clear q1); (try clear hx1); (try clear c2); (try clear p2); (try clear c3); (try clear c4); (try clear p4); (try clear q4); (try clear hx4); (try clear c5); (try clear q5); (try clear c6); (try clear p6); (try clear c7); (try clear c8); (try clear c9); (try clear c10); (try clear c11); (try clear c12); (try clear c13); (try clear c14); (try clear p14); (try clear q14); (try clear hx14); (try clear c15); (try clear p15); (try clear q15); (try clear hx15); (try clear c16); (try clear c16b0); (try clear c16b1); (try clear c16b2); (try clear c17); (try clear c18); (try clear c19); (try clear c19b0); (try clear c19b1); (try clear c19b2); (try clear c20); (try clear c21); (try clear c22); (try clear c22b0); (try clear c22b1); (try clear c23); (try clear c24); (try clear c25); (try clear c26); (try clear c27); (try clear c28); (try clear c29); (try clear c30); (try clear c31); (try clear c33); (try clear c33b0); (try clear c33b1); (try clear c37); (try clear c39); (try clear c39b0); (try clear c40); (try clear c40b0); (try clear c41); (try clear c41b0); (try clear p41); (try clear q41); (try clear hx41); (try clear c43); (try clear c43b0); (try clear c44); (try clear c45); (try clear c45b0); (try clear c45b1); (try clear c46); (try clear c46b0); (try clear c46b1); (try clear c47); (try clear c47b0); (try clear c47b1); (try clear c49); (try clear c49b0); (try clear c50); (try clear q50); (try clear c51); (try clear q51); (try clear c54); (try clear c54b0); (try clear c54b1); (try clear c55); (try clear c56); (try clear c56b0); (try clear c58); (try clear c59); (try clear c59b0); (try clear c61); (try clear c62); (try clear c62b0); (try clear p64); (try clear c96); (try clear c96b0); (try clear c96b1); (try clear c96b2); (try clear c97); (try clear c97b0); (try clear c97b1); (try clear c98); (try clear c98b0); (try clear c98b1); (try clear c98b2); (try clear c99); (try clear c99b0); (try clear c99b1); (try clear c100); (try clear c100b0); (try clear c100b1); (try clear c100b2); (try clear c102); (try clear c103); (try clear c103b0); (try clear c103b1); (try clear c103b2); (try clear c106); (try clear c106b0); (try clear c106b1); (try clear c107); (try clear c107b0); (try clear c107b1); (try clear c107b2); (try clear c110); (try clear c110b0); (try clear c110b1); (try clear c111); (try clear c111b0); (try clear c111b1); (try clear c112); (try clear c112b0); (try clear c112b1); (try clear c112b2); (try clear c115); (try clear c115b0); (try clear c115b1); (try clear c128); (try clear c130); (try clear c132); (try clear c132b0); (try clear c133); (try clear c133b0); (try clear c135); (try clear c136); (try clear c136b0); (try clear c138); (try clear c139); (try clear c139b0); (try clear c142); (try clear c143); (try clear c143b0); (try clear c143b1); (try clear c144); (try clear c144b0); (try clear c144b1); (try clear c145); (try clear c145b0); (try clear c145b1); (try clear c146); (try clear c146b0); (try clear c146b1); (try clear c147); (try clear c147b0); (try clear c147b1); (try clear p148); (try clear q148); (try clear hx148); (try clear c149); (try clear c149b0); (try clear c149b1); (try clear c151); (try clear c151b0); (try clear c152); (try clear c152b0); (try clear p153); (try clear q153); (try clear hx153); (try clear hx415_0); (try clear p415); (try clear q050); (try clear q051); (try clear q415)
             obtain ⟨kq, x441_140, rfl, HA, HJ140, HO_37, HO_38, HO_41, HB⟩ := hcut
             cases kq with
             | zero => exact absurd HA.out (by simp [laws_FnVolumesSplit.j9])
             | succ kj140 =>
              have H := HA.out
              clear HA
              simp only [laws_FnVolumesSplit.j9] at H
              by_cases c154 : x441_140 = true
              ·subst c154
               have H1 : (some false) = some r := by rw [if_pos rfl] at H; exact H
               clear H
               have H := H1
               clear H1
               obtain rfl := Option.some.inj H
               exact absurd hr_.out (by decide)
              ·replace c154 := Bool.eq_false_iff.mpr c154
               subst c154
               have H1 : (if t450 = true then ((impl_BeginningsOf.f kj140 t442 t443).bind fun bt477 => (if bt477.2 = true then (laws_FnVolumesSplit.j10 kj140 t441 t444 t449 t457 t458 t459 t462 t463 t468 t469 t470 bt477.1 ((t449.length : Int) != (t441.length : Int))) else (laws_FnVolumesSplit.j10 kj140 t441 t444 t449 t457 t458 t459 t462 t463 t468 t469 t470 bt477.1 true))) else (laws_FnVolumesSplit.j12 kj140 t457 t458 t459 t462 t463 t468 t469 t470)) = some r := by rw [if_neg (show ¬ (false = true) by decide)] at H; exact H
               clear H
               have H := H1
               clear H1
               have HC155 := Aside0.mk H
               clear H
               go_upto_if 442 with (fail)
               go_cut [63, 64, 65, 66, 67, 68] from 443 to 485 (fun v63 v64 v65 v66 v67 v68 wc => ∃ (kq : Nat), Aside0 (laws_FnVolumesSplit.j12 kq t457 t458 t459 t462 t463 t468 t469 t470 = some r) ∧ Aside0 (kq ≤ kj140) ∧ Aside0 (Below w.heap.size w wc))
               case first => as_aux_lemma =>
                have H := HC155.out
                clear HC155
                by_cases c156 : t450 = true
                ·subst c156
                 have H1 : ((impl_BeginningsOf.f kj140 t442 t443).bind fun bt477 => (if bt477.2 = true then (laws_FnVolumesSplit.j10 kj140 t441 t444 t449 t457 t458 t459 t462 t463 t468 t469 t470 bt477.1 ((t449.length : Int) != (t441.length : Int))) else (laws_FnVolumesSplit.j10 kj140 t441 t444 t449 t457 t458 t459 t462 t463 t468 t469 t470 bt477.1 true))) = some r := by rw [if_pos rfl] at H; exact H
                 clear H
                 have H := H1
                 clear H1
                 replace H := Option.bind_eq_some_iff.mp H
                 obtain ⟨⟨t477, t478⟩, A1570, H⟩ := H
                 (try dsimp only at H)
                 have A157 := Aside0.mk A1570
                 clear A1570
                 have HC158 := Aside0.mk H
                 clear H
                 go_upto_region 61 with (first | ((with_reducible refine gate_callee (f := 32) rfl ?_); refine goesL_ (some 446) rfl rfl Tryd.func32 (by kernel_rfl) rfl #[.slice Ao88 t442.length co88, .bool t443] rfl (by (try simp only [List.map_toArray, List.map_cons, List.map_nil]); first | done | rfl | (simp only [List.length_drop, List.length_take]; rfl)) ?_; (with_reducible refine (impl_BeginningsOf.calls kj140 _ _ t442 t443 t477 t478 _ ?side1 ?side2 A157.out).mono ?_); (case side1 => exact cr_ (Kd.R_reads' HO_38.out).2.2); (case side2 => exact (Kd.R_reads' HO_38.out).2.1); rintro e w159 ⟨v479, rfl, ho0, hb⟩; refine ⟨_, rfl, ?_⟩; have n0_ := Aside0.mk (Kd.R_below (rr_ HO_37.out) hb); have n1_ := Aside0.mk (Kd.R_elder' (rr_ HO_38.out) (Kd.R_base ho0) hb); have n2_ := Aside0.mk (Kd.R_below (rr_ HO_41.out) hb); have n3_ := Aside0.mk (Kd.R_lower (Kd.R_new' ho0 (Kd.R_lt (rr_ HO_38.out))) (below_size bw_)); have n4_ := Aside0.mk (below_step bw_ hb); clear HO_37; clear HO_38; clear HO_41; clear HB; have HO_37 := n0_; have HO_38 := n1_; have HO_41 := n2_; have HO480 := n3_; have HB := n4_; clear n0_ n1_ n2_ n3_ n4_; (try clear hb); (try clear hb2); (try clear hk); (try clear hi); (try clear ho0)))
                 (try simp only [Act.put, List.setIfInBounds_toArray, List.set_cons_zero, List.set_cons_succ])
                 go_cut [457] from 449 to 456 (fun v457 wc => ∃ (kq : Nat) (x457_157 : Bool), v457 = .bool x457_157 ∧ Aside0 (laws_FnVolumesSplit.j10 kq t441 t444 t449 t457 t458 t459 t462 t463 t468 t469 t470 t477 x457_157 = some r) ∧ Aside0 (kq ≤ kj140) ∧ Aside0 (Kd.R Kd.string 9 wc w.heap.size (fun k_ => some k_ ≠ (v451 : Value).ownBlock) (.slice Ao87 t441.length co87) t441) ∧ Aside0 (Kd.R Kd.string 9 wc w.heap.size (fun k_ => some k_ ≠ ((.slice Ao87 t441.length co87) : Value).ownBlock) v451 t449) ∧ Aside0 (Kd.R (Kd.int .i64) 3 wc w.heap.size (fun _ => True) v479 t477) ∧ Aside0 (Below w.heap.size w wc))
                 case first => as_aux_lemma =>
                  have H := HC158.out
                  clear HC158
                  by_cases c160 : t478 = true
                  ·subst c160
                   have H1 : (laws_FnVolumesSplit.j10 kj140 t441 t444 t449 t457 t458 t459 t462 t463 t468 t469 t470 t477 ((t449.length : Int) != (t441.length : Int))) = some r := by rw [if_pos rfl] at H; exact H
                   clear H
                   have H := H1
                   clear H1
                   have H' := Aside0.mk H
                   clear H
                   obtain ⟨Ao161, co161, eo161⟩ := Kd.R_slice HO_41.out
                   subst eo161
                   go_wp2
                   go_meet
                   case rel => exact ⟨_, (((t449.length : Int) != (t441.length : Int))), rs_, H', ⟨by have := HJ9.out; have := HJ29.out; have := HJ79.out; have := HJ128.out; have := HJ140.out; first | omega | exact Nat.le_refl _⟩, ⟨rr_ HO_37.out⟩, ⟨rr_ HO_41.out⟩, ⟨by (with_reducible repeat (first | apply Kd.R_alloc | apply Kd.R_drewN | apply Kd.R_drew)); exact Kd.R_mono HO480.out (fun _ hk => trivial)⟩, ⟨bw_⟩⟩
                  ·replace c160 := Bool.eq_false_iff.mpr c160
                   subst c160
                   have H1 : (laws_FnVolumesSplit.j10 kj140 t441 t444 t449 t457 t458 t459 t462 t463 t468 t469 t470 t477 true) = some r := by rw [if_neg (show ¬ (false = true) by decide)] at H; exact H
                   clear H
                   have H := H1
                   clear H1
                   exact (laws_FnVolumesSplit.j10_no H hr_.out).elim
                 case rest => as_aux_lemma =>
                  clear HC158
                  (try clear c1); (try clear p1); (try clear q1); (try clear hx1); (try clear c2); (try clear p2); (try clear c3); (try clear c4); (try clear p4); (try clear q4); (try clear hx4); (try clear c5); (try clear q5); (try clear c6); (try clear p6); (try clear c7); (try clear c8); (try clear c9); (try clear c10); (try clear c11); (try clear c12); (try clear c13); (try clear c14); (try clear p14); (try clear q14); (try clear hx14); (try clear c15); (try clear p15); (try clear q15); (try clear hx15); (try clear c16); (try clear c16b0); (try clear c16b1); (try clear c16b2); (try clear c17); (try clear c18); (try clear c19); (try clear c19b0); (try clear c19b1); (try clear c19b2); (try clear c20); (try clear c21); (try clear c22); (try clear c22b0); (try clear c22b1); (try clear c23); (try clear c24); (try clear c25); (try clear c26); (try clear c27); (try clear c28); (try clear c29); (try clear c30); (try clear c31); (try clear c32); (try clear c33); (try clear c33b0); (try clear c33b1); (try clear c37); (try clear c39); (try clear c39b0); (try clear c40); (try clear c40b0); (try clear c41); (try clear c41b0); (try clear p41); (try clear q41); (try clear hx41); (try clear c43); (try clear c43b0); (try clear c44); (try clear c45); (try clear c45b0); (try clear c45b1); (try clear c46); (try clear c46b0); (try clear c46b1); (try clear c47); (try clear c47b0); (try clear c47b1); (try clear c49); (try clear c49b0); (try clear c50); (try clear q50); (try clear c51); (try clear q51); (try clear c54); (try clear c54b0); (try clear c54b1); (try clear c55); (try clear c56); (try clear c56b0); (try clear c58); (try clear c59); (try clear c59b0); (try clear c61); (try clear c62); (try clear c62b0); (try clear p64); (try clear c96); (try clear c96b0); (try clear c96b1); (try clear c96b2); (try clear c97); (try clear c97b0); (try clear c97b1); (try clear c98); (try clear c98b0); (try clear c98b1); (try clear c98b2); (try clear c99); (try clear c99b0); (try clear c99b1); (try clear c100); (try clear c100b0); (try clear c100b1); (try clear c100b2); (try clear c102); (try clear c103); (try clear c103b0); (try clear c103b1); (try clear c103b2); (try clear c106); (try clear c106b0); (try clear c106b1); (try clear c107); (try clear c107b0); (try clear c107b1); (try clear c107b2); (try clear c110); (try clear c110b0); (try clear c110b1); (try clear c111); (try clear c111b0); (try clear c111b1); (try clear c112); (try clear c112b0); (try clear c112b1); (try clear c112b2); (try clear c115); (try clear c115b0); (try clear c115b1); (try clear c128); (try clear c130); (try clear c132); (try clear c132b0); (try clear c133); (try clear c133b0); (try clear c135); (try clear c136); (try clear c136b0); (try clear c138); (try clear c139); (try clear c139b0); (try clear c142); (try clear c143); (try clear c143b0); (try clear c143b1); (try clear c144); (try clear c144b0); (try clear c144b1); (try clear c145); (try clear c145b0); (try clear c145b1); (try clear c146); (try clear c146b0); (try clear c146b1); (try clear c147); (try clear c147b0); (try clear c147b1); (try clear p148); (try clear q148); (try clear hx148); (try clear c149); (try clear c149b0); (try clear c149b1); (try clear c151); (try clear c151b0); (try clear c152); (try clear c152b0); (try clear p153); (try clear q153); (try clear hx153); (try clear c154); (try clear c156); (try clear c160); (try clear hx415_0); (try clear p415); (try clear q050); (try clear q051); (try clear q415)
                  obtain ⟨kq, x457_157, rfl, HA, HJ157, HO_37, HO_41, HO_63, HB⟩ := hcut
                  cases kq with
                  | zero => exact absurd HA.out (by simp [laws_FnVolumesSplit.j10])
                  | succ kj157 =>
                   have H := HA.out
                   clear HA
                   simp only [laws_FnVolumesSplit.j10] at H
                   by_cases c162 : x457_157 = true
                   ·subst c162
                    have H1 : (some false) = some r := by rw [if_pos rfl] at H; exact H
                    clear H
                    have H := H1
                    clear H1
                    obtain rfl := Option.some.inj H
                    exact absurd hr_.out (by decide)
                   ·replace c162 := Bool.eq_false_iff.mpr c162
                    subst c162
                    have H1 : (laws_FnVolumesSplit.l1 kj157 t444 t449 t457 t458 t459 t462 t463 t468 t469 t470 t477 t441 (t441.length : Int) 0) = some r := by rw [if_neg (show ¬ (false = true) by decide)] at H; exact H
                    clear H
                    have H := H1
                    clear H1
                    have H' := Aside0.mk H
                    clear H
                    go_wp2
                    go_loopg [460] kj157 (fun kq v460 w' => ∃ (x460_7 : Int), v460 = .int .i64 x460_7 ∧ Aside0 (laws_FnVolumesSplit.l1 kq t444 t449 t457 t458 t459 t462 t463 t468 t469 t470 t477 t441 (t441.length : Int) x460_7 = some r) ∧ Aside0 (kq ≤ kj157) ∧ Aside0 (Kd.R Kd.string 9 w' w.heap.size (fun k_ => some k_ ≠ ((.slice Ao87 t441.length co87) : Value).ownBlock) v451 t449) ∧ Aside0 (Kd.R (Kd.int .i64) 3 w' w.heap.size (fun _ => True) v479 t477) ∧ Aside0 (Kd.R Kd.string 9 w' w.heap.size (fun k_ => some k_ ≠ (v451 : Value).ownBlock) (.slice Ao87 t441.length co87) t441) ∧ Aside0 (Below w.heap.size w w'))
                    case atStart => exact ⟨(0), rs_, H', ⟨Nat.le_refl _⟩, ⟨rr_ HO_41.out⟩, ⟨rr_ HO_63.out⟩, ⟨rr_ HO_37.out⟩, ⟨bw_⟩⟩
                    case round =>
                     clear H'
                     (try clear c1); (try clear p1); (try clear q1); (try clear hx1); (try clear c2); (try clear p2); (try clear c3); (try clear c4); (try clear p4); (try clear q4); (try clear hx4); (try clear c5); (try clear q5); (try clear c6); (try clear p6); (try clear c7); (try clear c8); (try clear c9); (try clear c10); (try clear c11); (try clear c12); (try clear c13); (try clear c14); (try clear p14); (try clear q14); (try clear hx14); (try clear c15); (try clear p15); (try clear q15); (try clear hx15); (try clear c16); (try clear c16b0); (try clear c16b1); (try clear c16b2); (try clear c17); (try clear c18); (try clear c19); (try clear c19b0); (try clear c19b1); (try clear c19b2); (try clear c20); (try clear c21); (try clear c22); (try clear c22b0); (try clear c22b1); (try clear c23); (try clear c24); (try clear c25); (try clear c26); (try clear c27); (try clear c28); (try clear c29); (try clear c30); (try clear c31); (try clear c32); (try clear c33); (try clear c33b0); (try clear c33b1); (try clear c37); (try clear c39); (try clear c39b0); (try clear c40); (try clear c40b0); (try clear c41); (try clear c41b0); (try clear p41); (try clear q41); (try clear hx41); (try clear c43); (try clear c43b0); (try clear c44); (try clear c45); (try clear c45b0); (try clear c45b1); (try clear c46); (try clear c46b0); (try clear c46b1); (try clear c47); (try clear c47b0); (try clear c47b1); (try clear c49); (try clear c49b0); (try clear c50); (try clear q50); (try clear c51); (try clear q51); (try clear c54); (try clear c54b0); (try clear c54b1); (try clear c55); (try clear c56); (try clear c56b0); (try clear c58); (try clear c59); (try clear c59b0); (try clear c61); (try clear c62); (try clear c62b0); (try clear p64); (try clear c96); (try clear c96b0); (try clear c96b1); (try clear c96b2); (try clear c97); (try clear c97b0); (try clear c97b1); (try clear c98); (try clear c98b0); (try clear c98b1); (try clear c98b2); (try clear c99); (try clear c99b0); (try clear c99b1); (try clear c100); (try clear c100b0); (try clear c100b1); (try clear c100b2); (try clear c102); (try clear c103); (try clear c103b0); (try clear c103b1); (try clear c103b2); (try clear c106); (try clear c106b0); (try clear c106b1); (try clear c107); (try clear c107b0); (try clear c107b1); (try clear c107b2); (try clear c110); (try clear c110b0); (try clear c110b1); (try clear c111); (try clear c111b0); (try clear c111b1); (try clear c112); (try clear c112b0); (try clear c112b1); (try clear c112b2); (try clear c115); (try clear c115b0); (try clear c115b1); (try clear c128); (try clear c130); (try clear c132); (try clear c132b0); (try clear c133); (try clear c133b0); (try clear c135); (try clear c136); (try clear c136b0); (try clear c138); (try clear c139); (try clear c139b0); (try clear c142); (try clear c143); (try clear c143b0); (try clear c143b1); (try clear c144); (try clear c144b0); (try clear c144b1); (try clear c145); (try clear c145b0); (try clear c145b1); (try clear c146); (try clear c146b0); (try clear c146b1); (try clear c147); (try clear c147b0); (try clear c147b1); (try clear p148); (try clear q148); (try clear hx148); (try clear c149); (try clear c149b0); (try clear c149b1); (try clear c151); (try clear c151b0); (try clear c152); (try clear c152b0); (try clear p153); (try clear q153); (try clear hx153); (try clear c154); (try clear c156); (try clear c160); (try clear c162); (try clear hx415_0); (try clear p415); (try clear q050); (try clear q051); (try clear q415)
                     obtain ⟨x460_7, rfl, HA, HK7, HO_41, HO_63, HO_458, HB⟩ := hrel
                     cases gk with
                     | zero => exact absurd HA.out (by simp [laws_FnVolumesSplit.l1])
                     | succ k7 =>
                      have H := HA.out
                      clear HA
                      simp only [laws_FnVolumesSplit.l1] at H
                      by_cases c163 : x460_7 < (t441.length : Int)
                      ·rw [if_pos c163] at H
                       have c163b0 : decide (x460_7 < (t441.length : Int)) = true := decide_eq_true c163
                       clear c163
                       by_cases c164 : 0 ≤ x460_7
                       ·rw [if_pos c164] at H
                        have c164b0 : decide (0 ≤ x460_7) = true := decide_eq_true c164
                        clear c164
                        by_cases c165 : x460_7 < (t441.length : Int)
                        ·rw [if_pos c165] at H
                         have c165b0 : decide (x460_7 < (t441.length : Int)) = true := decide_eq_true c165
                         clear c165
                         by_cases c166 : x460_7 < (t477.length : Int)
                         ·rw [if_pos c166] at H
                          have c166b0 : decide (x460_7 < (t477.length : Int)) = true := decide_eq_true c166
                          clear c166
                          replace H := Option.bind_eq_some_iff.mp H
                          obtain ⟨⟨t483, t484⟩, A1670, H⟩ := H
                          (try dsimp only at H)
                          have A167 := Aside0.mk A1670
                          clear A1670
                          by_cases c168 : t484 = true
                          ·subst c168
                           have H1 : (if x460_7 < (t449.length : Int) then (if t483.toList = (rdOf ByteArray.empty t449 x460_7).toList then (laws_FnVolumesSplit.l1 k7 t444 t449 t457 t458 t459 t462 t463 t468 t469 t470 t477 t441 (t441.length : Int) (wrap64 (x460_7 + 1))) else (some false)) else (none)) = some r := by rw [if_pos rfl] at H; exact H
                           clear H
                           have H := H1
                           clear H1
                           by_cases c169 : x460_7 < (t449.length : Int)
                           ·rw [if_pos c169] at H
                            have c169b0 : decide (x460_7 < (t449.length : Int)) = true := decide_eq_true c169
                            clear c169
                            by_cases c170 : t483.toList = (rdOf ByteArray.empty t449 x460_7).toList
                            ·rw [if_pos c170] at H
                             have c170b0 : (t483.toList == (rdOf ByteArray.empty t449 x460_7).toList) = true := beq_iff_eq.mpr c170
                             have c170b1 : (t483.toList != (rdOf ByteArray.empty t449 x460_7).toList) = false := bne_eq_false_iff_eq.mpr c170
                             clear c170
                             have H' := Aside0.mk H
                             clear H
                             have p481 : 0 ≤ (x460_7 : Int) := of_decide_eq_true (by first | (with_reducible assumption) | assumption)
                             have q481 : x460_7 < (t441.length : Int) := of_decide_eq_true (by first | (with_reducible assumption) | assumption)
                             obtain ⟨ad481, e481, hx481_0⟩ := Kd.at_string (Kd.R_reads' HO_458.out).2.2 x460_7 p481 q481
                             cases e481
                             replace p481 := eq_true p481
                             replace q481 := eq_true q481
                             obtain ⟨Ao171, co171, eo171⟩ := Kd.R_slice HO_63.out
                             subst eo171
                             have p482 : 0 ≤ (x460_7 : Int) := of_decide_eq_true (by first | (with_reducible assumption) | assumption)
                             have q482 : x460_7 < (t477.length : Int) := of_decide_eq_true (by first | (with_reducible assumption) | assumption)
                             obtain ⟨ad482, e482, hx482_0⟩ := Kd.at_int (Kd.R_reads' HO_63.out).2.2 x460_7 p482 q482
                             cases e482
                             replace p482 := eq_true p482
                             replace q482 := eq_true q482
                             go_wp2_with (first | ((with_reducible refine gate_callee (f := 18) rfl ?_); refine goesL_ (some 472) rfl rfl Tryd.func18 (by kernel_rfl) rfl #[.string (rdOf ByteArray.empty t441 x460_7), .int .i64 (rd t477 x460_7), .int .i64 t444] rfl (by (try simp only [List.map_toArray, List.map_cons, List.map_nil]); first | done | rfl | (simp only [List.length_drop, List.length_take]; rfl)) ?_; (with_reducible refine (impl_ContentsLine.calls k7 (rdOf ByteArray.empty t441 x460_7) (rd t477 x460_7) t444 t483 true _ ?side1 A167.out).mono ?_); (case side1 => exact TabB.below HT.out bw_); rintro e w172 ⟨rfl, hb⟩; refine ⟨_, rfl, ?_⟩; have n0_ := Aside0.mk (Kd.R_below (rr_ HO_41.out) hb); have n1_ := Aside0.mk (Kd.R_below (rr_ HO_63.out) hb); have n2_ := Aside0.mk (Kd.R_below (rr_ HO_458.out) hb); have n3_ := Aside0.mk (below_step bw_ hb); clear HO_41; clear HO_63; clear HO_458; clear HB; have HO_41 := n0_; have HO_63 := n1_; have HO_458 := n2_; have HB := n3_; clear n0_ n1_ n2_ n3_; (try clear hb); (try clear hb2); (try clear hk); (try clear hi); obtain ⟨Ao173, co173, eo173⟩ := Kd.R_slice HO_41.out; subst eo173; have p485 : 0 ≤ (x460_7 : Int) := of_decide_eq_true (by first | (with_reducible assumption) | assumption); have q485 : x460_7 < (t449.length : Int) := of_decide_eq_true (by first | (with_reducible assumption) | assumption); obtain ⟨ad485, e485, hx485_0⟩ := Kd.at_string (Kd.R_reads' HO_41.out).2.2 x460_7 p485 q485; cases e485; replace p485 := eq_true p485; replace q485 := eq_true q485))
                             go_roundg k7
                             case measure => have := HJ9.out; have := HJ29.out; have := HJ79.out; have := HJ128.out; have := HJ140.out; have := HJ157.out; have := HK7.out; omega
                             case rel => exact ⟨(wrap64 (x460_7 + 1)), rs_, H', ⟨by have := HJ9.out; have := HJ29.out; have := HJ79.out; have := HJ128.out; have := HJ140.out; have := HJ157.out; have := HK7.out; omega⟩, ⟨rr_ HO_41.out⟩, ⟨rr_ HO_63.out⟩, ⟨rr_ HO_458.out⟩, ⟨bw_⟩⟩
                            ·rw [if_neg c170] at H
                             have c170b0 : (t483.toList == (rdOf ByteArray.empty t449 x460_7).toList) = false := beq_eq_false_iff_ne.mpr c170
                             have c170b1 : (t483.toList != (rdOf ByteArray.empty t449 x460_7).toList) = true := bne_iff_ne.mpr c170
                             obtain rfl := Option.some.inj H
                             exact absurd hr_.out (by decide)
                           ·rw [if_neg c169] at H
                            exact absurd H (by simp)
                          ·replace c168 := Bool.eq_false_iff.mpr c168
                           subst c168
                           have H1 : (some false) = some r := by rw [if_neg (show ¬ (false = true) by decide)] at H; exact H
                           clear H
                           have H := H1
                           clear H1
                           obtain rfl := Option.some.inj H
                           exact absurd hr_.out (by decide)
                         ·rw [if_neg c166] at H
                          exact absurd H (by simp)
                        ·rw [if_neg c165] at H
                         exact absurd H (by simp)
                       ·rw [if_neg c164] at H
                        exact absurd H (by simp)
                      ·rw [if_neg c163] at H
                       have c163b0 : decide (x460_7 < (t441.length : Int)) = false := decide_eq_false c163
                       clear c163
                       have H' := Aside0.mk H
                       clear H
                       go_wp2
                       go_meet
                       case rel => exact ⟨_, H', ⟨by have := HJ9.out; have := HJ29.out; have := HJ79.out; have := HJ128.out; have := HJ140.out; have := HJ157.out; have := HK7.out; first | omega | exact Nat.le_refl _⟩, ⟨bw_⟩⟩
                ·replace c156 := Bool.eq_false_iff.mpr c156
                 subst c156
                 have H1 : (laws_FnVolumesSplit.j12 kj140 t457 t458 t459 t462 t463 t468 t469 t470) = some r := by rw [if_neg (show ¬ (false = true) by decide)] at H; exact H
                 clear H
                 have H := H1
                 clear H1
                 have H' := Aside0.mk H
                 clear H
                 go_wp2
                 go_meet
                 case rel => exact ⟨_, H', ⟨by have := HJ9.out; have := HJ29.out; have := HJ79.out; have := HJ128.out; have := HJ140.out; first | omega | exact Nat.le_refl _⟩, ⟨bw_⟩⟩
               case rest => as_aux_lemma =>
                clear HC155
                (try clear c1); (try clear p1); (try clear q1); (try clear hx1); (try clear c2); (try clear p2); (try clear c3); (try clear c4); (try clear p4); (try clear q4); (try clear hx4); (try clear c5); (try clear q5); (try clear c6); (try clear p6); (try clear c7); (try clear c8); (try clear c9); (try clear c10); (try clear c11); (try clear c12); (try clear c13); (try clear c14); (try clear p14); (try clear q14); (try clear hx14); (try clear c15); (try clear p15); (try clear q15); (try clear hx15); (try clear c16); (try clear c16b0); (try clear c16b1); (try clear c16b2); (try clear c17); (try clear c18); (try clear c19); (try clear c19b0); (try clear c19b1); (try clear c19b2); (try clear c20); (try clear c21); (try clear c22); (try clear c22b0); (try clear c22b1); (try clear c23); (try clear c24); (try clear c25); (try clear c26); (try clear c27); (try clear c28); (try clear c29); (try clear c30); (try clear c31); (try clear c32); (try clear c33); (try clear c33b0); (try clear c33b1); (try clear c37); (try clear c39); (try clear c39b0); (try clear c40); (try clear c40b0); (try clear c41); (try clear c41b0); (try clear p41); (try clear q41); (try clear hx41); (try clear c43); (try clear c43b0); (try clear c44); (try clear c45); (try clear c45b0); (try clear c45b1); (try clear c46); (try clear c46b0); (try clear c46b1); (try clear c47); (try clear c47b0); (try clear c47b1); (try clear p48); (try clear q48); (try clear hx48); (try clear c49); (try clear c49b0); (try clear c50); (try clear q50); (try clear c51); (try clear q51); (try clear c54); (try clear c54b0); (try clear c54b1); (try clear c55); (try clear c56); (try clear c56b0); (try clear c58); (try clear c59); (try clear c59b0); (try clear c61); (try clear c62); (try clear c62b0); (try clear p64); (try clear c96); (try clear c96b0); (try clear c96b1); (try clear c96b2); (try clear c97); (try clear c97b0); (try clear c97b1); (try clear c98); (try clear c98b0); (try clear c98b1); (try clear c98b2); (try clear c99); (try clear c99b0); (try clear c99b1); (try clear c100); (try clear c100b0); (try clear c100b1); (try clear c100b2); (try clear c102); (try clear c103); (try clear c103b0); (try clear c103b1); (try clear c103b2); (try clear c106); (try clear c106b0); (try clear c106b1); (try clear c107); (try clear c107b0); (try clear c107b1); (try clear c107b2); (try clear c110); (try clear c110b0); (try clear c110b1); (try clear c111); (try clear c111b0); (try clear c111b1); (try clear c112); (try clear c112b0); (try clear c112b1); (try clear c112b2); (try clear c115); (try clear c115b0); (try clear c115b1); (try clear c128); (try clear c130); (try clear c132); (try clear c132b0); (try clear c133); (try clear c133b0); (try clear c135); (try clear c136); (try clear c136b0); (try clear c138); (try clear c139); (try clear c139b0); (try clear c142); (try clear c143); (try clear c143b0); (try clear c143b1); (try clear c144); (try clear c144b0); (try clear c144b1); (try clear c145); (try clear c145b0); (try clear c145b1); (try clear c146); (try clear c146b0); (try clear c146b1); (try clear c147); (try clear c147b0); (try clear c147b1); (try clear p148); (try clear q148); (try clear hx148); (try clear c149); (try clear c149b0); (try clear c149b1); (try clear c151); (try clear c151b0); (try clear c152); (try clear c152b0); (try clear p153); (try clear q153); (try clear hx153); (try clear c154); (try clear c156); (try clear c160); (try clear c162); (try clear c163); (try clear c163b0); (try clear c164); (try clear c164b0); (try clear c165); (try clear c165b0); (try clear c166); (try clear c166b0); (try clear c168); (try clear c169); (try clear c169b0); (try clear c170); (try clear c170b0); (try clear c170b1); (try clear hx415_0); (try clear hx481_0); (try clear hx482_0); (try clear hx485_0); (try clear p415); (try clear p481); (try clear p482); (try clear p485); (try clear q050); (try clear q051); (try clear q415); (try clear q481); (try clear q482); (try clear q485)
                obtain ⟨kq, HA, HJ154, HB⟩ := hcut
                cases kq with
                | zero => exact absurd HA.out (by simp [laws_FnVolumesSplit.j12])
                | succ kj154 =>
                 have H := HA.out
                 clear HA
                 simp only [laws_FnVolumesSplit.j12] at H
                 by_cases c174 : t459 = true
                 ·subst c174
                  have H1 : ((impl_NumberOfRoman.f kj154 t458).bind fun bt486 => ((impl_RomanOf.f t462).bind fun bt488 => (if bt486.2 = true then (if bt486.1 = t457 then (if bt488.2 = true then (if (bt488.1.size : Int) = t463 then (if (t458.size : Int) > t463 then (laws_FnVolumesSplit.j13 kj154 t468 t469 t470 true) else (laws_FnVolumesSplit.j13 kj154 t468 t469 t470 (decide (t462 > t457)))) else (laws_FnVolumesSplit.j13 kj154 t468 t469 t470 true)) else (laws_FnVolumesSplit.j13 kj154 t468 t469 t470 true)) else (laws_FnVolumesSplit.j13 kj154 t468 t469 t470 true)) else (laws_FnVolumesSplit.j13 kj154 t468 t469 t470 true)))) = some r := by rw [if_pos rfl] at H; exact H
                  clear H
                  have H := H1
                  clear H1
                  replace H := Option.bind_eq_some_iff.mp H
                  obtain ⟨⟨t486, t487⟩, A1750, H⟩ := H
                  (try dsimp only at H)
                  have A175 := Aside0.mk A1750
                  clear A1750
                  replace H := Option.bind_eq_some_iff.mp H
                  obtain ⟨⟨t488, t489⟩, A1760, H⟩ := H
                  (try dsimp only at H)
                  have A176 := Aside0.mk A1760
                  clear A1760
                  have HC177 := Aside0.mk H
                  clear H
                  go_upto_region 73 with (first | ((with_reducible refine gate_callee (f := 29) rfl ?_); refine goesL_ (some 489) rfl rfl Tryd.func29 (by kernel_rfl) rfl #[.string t458] rfl (by (try simp only [List.map_toArray, List.map_cons, List.map_nil]); first | done | rfl | (simp only [List.length_drop, List.length_take]; rfl)) ?_; (with_reducible refine (impl_NumberOfRoman.calls kj154 t458 t486 t487 _ A175.out).mono ?_); rintro e w178 ⟨rfl, hb⟩; refine ⟨_, rfl, ?_⟩; have n0_ := Aside0.mk (below_step bw_ hb); clear HB; have HB := n0_; clear n0_; (try clear hb); (try clear hb2); (try clear hk); (try clear hi)) | ((with_reducible refine gate_callee (f := 24) rfl ?_); refine goesL_ (some 494) rfl rfl Tryd.func24 (by kernel_rfl) rfl #[.int .i64 t462] rfl (by (try simp only [List.map_toArray, List.map_cons, List.map_nil]); first | done | rfl | (simp only [List.length_drop, List.length_take]; rfl)) ?_; (with_reducible refine (impl_RomanOf.calls t462 t488 t489 _ A176.out).mono ?_); rintro e w179 ⟨rfl, hb⟩; refine ⟨_, rfl, ?_⟩; have n0_ := Aside0.mk (below_step bw_ hb); clear HB; have HB := n0_; clear n0_; (try clear hb); (try clear hb2); (try clear hk); (try clear hi)))
                  (try simp only [Act.put, List.setIfInBounds_toArray, List.set_cons_zero, List.set_cons_succ])
                  go_cut [524] from 497 to 523 (fun v524 wc => ∃ (kq : Nat) (x524_176 : Bool), v524 = .bool x524_176 ∧ Aside0 (laws_FnVolumesSplit.j13 kq t468 t469 t470 x524_176 = some r) ∧ Aside0 (kq ≤ kj154) ∧ Aside0 (Below w.heap.size w wc))
                  case first => as_aux_lemma =>
                   have H := HC177.out
                   clear HC177
                   by_cases c180 : t487 = true
                   ·subst c180
                    have H1 : (if t486 = t457 then (if t489 = true then (if (t488.size : Int) = t463 then (if (t458.size : Int) > t463 then (laws_FnVolumesSplit.j13 kj154 t468 t469 t470 true) else (laws_FnVolumesSplit.j13 kj154 t468 t469 t470 (decide (t462 > t457)))) else (laws_FnVolumesSplit.j13 kj154 t468 t469 t470 true)) else (laws_FnVolumesSplit.j13 kj154 t468 t469 t470 true)) else (laws_FnVolumesSplit.j13 kj154 t468 t469 t470 true)) = some r := by rw [if_pos rfl] at H; exact H
                    clear H
                    have H := H1
                    clear H1
                    by_cases c181 : t486 = t457
                    ·rw [if_pos c181] at H
                     have c181b0 : (t486 == t457) = true := beq_iff_eq.mpr c181
                     have c181b1 : (t486 != t457) = false := bne_eq_false_iff_eq.mpr c181
                     clear c181
                     (first | rw [c181b0] | skip)
                     by_cases c182 : t489 = true
                     ·subst c182
                      have H1 : (if (t488.size : Int) = t463 then (if (t458.size : Int) > t463 then (laws_FnVolumesSplit.j13 kj154 t468 t469 t470 true) else (laws_FnVolumesSplit.j13 kj154 t468 t469 t470 (decide (t462 > t457)))) else (laws_FnVolumesSplit.j13 kj154 t468 t469 t470 true)) = some r := by rw [if_pos rfl] at H; exact H
                      clear H
                      have H := H1
                      clear H1
                      by_cases c183 : (t488.size : Int) = t463
                      ·rw [if_pos c183] at H
                       have c183b0 : ((t488.size : Int) == t463) = true := beq_iff_eq.mpr c183
                       have c183b1 : ((t488.size : Int) != t463) = false := bne_eq_false_iff_eq.mpr c183
                       clear c183
                       by_cases c184 : (t458.size : Int) > t463
                       ·rw [if_pos c184] at H
                        have c184b0 : decide (t463 < (t458.size : Int)) = true := decide_eq_true c184
                        clear c184
                        exact (laws_FnVolumesSplit.j13_no H hr_.out).elim
                       ·rw [if_neg c184] at H
                        have c184b0 : decide (t463 < (t458.size : Int)) = false := decide_eq_false c184
                        clear c184
                        have H' := Aside0.mk H
                        clear H
                        go_wp2
                        go_meet
                        case rel => exact ⟨_, (decide (t462 > t457)), rs_, H', ⟨by have := HJ9.out; have := HJ29.out; have := HJ79.out; have := HJ128.out; have := HJ140.out; have := HJ154.out; first | omega | exact Nat.le_refl _⟩, ⟨bw_⟩⟩
                      ·rw [if_neg c183] at H
                       have c183b0 : ((t488.size : Int) == t463) = false := beq_eq_false_iff_ne.mpr c183
                       have c183b1 : ((t488.size : Int) != t463) = true := bne_iff_ne.mpr c183
                       exact (laws_FnVolumesSplit.j13_no H hr_.out).elim
                     ·replace c182 := Bool.eq_false_iff.mpr c182
                      subst c182
                      have H1 : (laws_FnVolumesSplit.j13 kj154 t468 t469 t470 true) = some r := by rw [if_neg (show ¬ (false = true) by decide)] at H; exact H
                      clear H
                      have H := H1
                      clear H1
                      exact (laws_FnVolumesSplit.j13_no H hr_.out).elim
                    ·rw [if_neg c181] at H
                     have c181b0 : (t486 == t457) = false := beq_eq_false_iff_ne.mpr c181
                     have c181b1 : (t486 != t457) = true := bne_iff_ne.mpr c181
                     (first | rw [c181b0] | skip)
                     exact (laws_FnVolumesSplit.j13_no H hr_.out).elim
                   ·replace c180 := Bool.eq_false_iff.mpr c180
                    subst c180
                    have H1 : (laws_FnVolumesSplit.j13 kj154 t468 t469 t470 true) = some r := by rw [if_neg (show ¬ (false = true) by decide)] at H; exact H
                    clear H
                    have H := H1
                    clear H1
                    exact (laws_FnVolumesSplit.j13_no H hr_.out).elim
                  case rest => as_aux_lemma =>
                   clear HC177
                   (try clear c1); (try clear p1); (try clear q1); (try clear hx1); (try clear c2); (try clear p2); (try clear c3); (try clear c4); (try clear p4); (try clear q4); (try clear hx4); (try clear c5); (try clear q5); (try clear c6); (try clear p6); (try clear c7); (try clear c8); (try clear c9); (try clear c10); (try clear c11); (try clear c12); (try clear c13); (try clear c14); (try clear p14); (try clear q14); (try clear hx14); (try clear c15); (try clear p15); (try clear q15); (try clear hx15); (try clear c16); (try clear c16b0); (try clear c16b1); (try clear c16b2); (try clear c17); (try clear c18); (try clear c19); (try clear c19b0); (try clear c19b1); (try clear c19b2); (try clear c20); (try clear c21); (try clear c22); (try clear c22b0); (try clear c22b1); (try clear c23); (try clear c24); (try clear c25); (try clear c26); (try clear c27); (try clear c28); (try clear c29); (try clear c30); (try clear c31); (try clear c32); (try clear c33); (try clear c33b0); (try clear c33b1); (try clear c37); (try clear c39); (try clear c39b0); (try clear c40); (try clear c40b0); (try clear c41); (try clear c41b0); (try clear p41); (try clear q41); (try clear hx41); (try clear c43); (try clear c43b0); (try clear c44); (try clear c45); (try clear c45b0); (try clear c45b1); (try clear c46); (try clear c46b0); (try clear c46b1); (try clear c47); (try clear c47b0); (try clear c47b1); (try clear p48); (try clear q48); (try clear hx48); (try clear c49); (try clear c49b0); (try clear c50); (try clear q50); (try clear c51); (try clear q51); (try clear c54); (try clear c54b0); (try clear c54b1); (try clear c55); (try clear c56); (try clear c56b0); (try clear c58); (try clear c59); (try clear c59b0); (try clear c61); (try clear c62); (try clear c62b0); (try clear p64); (try clear c96); (try clear c96b0); (try clear c96b1); (try clear c96b2); (try clear c97); (try clear c97b0); (try clear c97b1); (try clear c98); (try clear c98b0); (try clear c98b1); (try clear c98b2); (try clear c99); (try clear c99b0); (try clear c99b1); (try clear c100); (try clear c100b0); (try clear c100b1); (try clear c100b2); (try clear c102); (try clear c103); (try clear c103b0); (try clear c103b1); (try clear c103b2); (try clear c106); (try clear c106b0); (try clear c106b1); (try clear c107); (try clear c107b0); (try clear c107b1); (try clear c107b2); (try clear c110); (try clear c110b0); (try clear c110b1); (try clear c111); (try clear c111b0); (try clear c111b1); (try clear c112); (try clear c112b0); (try clear c112b1); (try clear c112b2); (try clear c115); (try clear c115b0); (try clear c115b1); (try clear c128); (try clear c130); (try clear c132); (try clear c132b0); (try clear c133); (try clear c133b0); (try clear c135); (try clear c136); (try clear c136b0); (try clear c138); (try clear c139); (try clear c139b0); (try clear c142); (try clear c143); (try clear c143b0); (try clear c143b1); (try clear c144); (try clear c144b0); (try clear c144b1); (try clear c145); (try clear c145b0); (try clear c145b1); (try clear c146); (try clear c146b0); (try clear c146b1); (try clear c147); (try clear c147b0); (try clear c147b1); (try clear p148); (try clear q148); (try clear hx148); (try clear c149); (try clear c149b0); (try clear c149b1); (try clear c151); (try clear c151b0); (try clear c152); (try clear c152b0); (try clear p153); (try clear q153); (try clear hx153); (try clear c154); (try clear c156); (try clear c160); (try clear c162); (try clear c163); (try clear c163b0); (try clear c164); (try clear c164b0); (try clear c165); (try clear c165b0); (try clear c166); (try clear c166b0); (try clear c168); (try clear c169); (try clear c169b0); (try clear c170); (try clear c170b0); (try clear c170b1); (try clear c174); (try clear c180); (try clear c181); (try clear c181b0); (try clear c181b1); (try clear c182); (try clear c183); (try clear c183b0); (try clear c183b1); (try clear c184); (try clear c184b0); (try clear hx415_0); (try clear hx481_0); (try clear hx482_0); (try clear hx485_0); (try clear p415); (try clear p481); (try clear p482); (try clear p485); (try clear q050); (try clear q051); (try clear q415); (try clear q481); (try clear q482); (try clear q485)
                   obtain ⟨kq, x524_176, rfl, HA, HJ176, HB⟩ := hcut
                   cases kq with
                   | zero => exact absurd HA.out (by simp [laws_FnVolumesSplit.j13])
                   | succ kj176 =>
                    have H := HA.out
                    clear HA
                    simp only [laws_FnVolumesSplit.j13] at H
                    by_cases c185 : x524_176 = true
                    ·subst c185
                     have H1 : (some false) = some r := by rw [if_pos rfl] at H; exact H
                     clear H
                     have H := H1
                     clear H1
                     obtain rfl := Option.some.inj H
                     exact absurd hr_.out (by decide)
                    ·replace c185 := Bool.eq_false_iff.mpr c185
                     subst c185
                     have H1 : (if t470 = true then ((impl_RomanOf.f t469).bind fun bt490 => (if bt490.2 = true then (some (bt490.1.toList == t468.toList)) else (some false))) else (some true)) = some r := by rw [if_neg (show ¬ (false = true) by decide)] at H; exact H
                     clear H
                     have H := H1
                     clear H1
                     by_cases c186 : t470 = true
                     ·subst c186
                      have H1 : ((impl_RomanOf.f t469).bind fun bt490 => (if bt490.2 = true then (some (bt490.1.toList == t468.toList)) else (some false))) = some r := by rw [if_pos rfl] at H; exact H
                      clear H
                      have H := H1
                      clear H1
                      replace H := Option.bind_eq_some_iff.mp H
                      obtain ⟨⟨t490, t491⟩, A1870, H⟩ := H
                      (try dsimp only at H)
                      have A187 := Aside0.mk A1870
                      clear A1870
                      by_cases c188 : t491 = true
                      ·subst c188
                       have H1 : (some (t490.toList == t468.toList)) = some r := by rw [if_pos rfl] at H; exact H
                       clear H
                       have H := H1
                       clear H1
                       obtain rfl := Option.some.inj H
                       simp only [Option.some.injEq, Prod.mk.injEq] at H
                       obtain ⟨rfl⟩ := H
                       go_wp2_with (first | ((with_reducible refine gate_callee (f := 24) rfl ?_); refine goesL_ (some 528) rfl rfl Tryd.func24 (by kernel_rfl) rfl #[.int .i64 t469] rfl (by (try simp only [List.map_toArray, List.map_cons, List.map_nil]); first | done | rfl | (simp only [List.length_drop, List.length_take]; rfl)) ?_; (with_reducible refine (impl_RomanOf.calls t469 t490 true _ A187.out).mono ?_); rintro e w189 ⟨rfl, hb⟩; refine ⟨_, rfl, ?_⟩; have n0_ := Aside0.mk (below_step bw_ hb); clear HB; have HB := n0_; clear n0_; (try clear hb); (try clear hb2); (try clear hk); (try clear hi)))
                       go_ret
                       exact ⟨by first | rfl | (simp [errW_none, errW_some] <;> rfl) | (simp [*, errW_none, errW_some] <;> rfl), bw_⟩
                      ·replace c188 := Bool.eq_false_iff.mpr c188
                       subst c188
                       have H1 : (some false) = some r := by rw [if_neg (show ¬ (false = true) by decide)] at H; exact H
                       clear H
                       have H := H1
                       clear H1
                       obtain rfl := Option.some.inj H
                       exact absurd hr_.out (by decide)
                     ·replace c186 := Bool.eq_false_iff.mpr c186
                      subst c186
                      have H1 : (some true) = some r := by rw [if_neg (show ¬ (false = true) by decide)] at H; exact H
                      clear H
                      have H := H1
                      clear H1
                      obtain rfl := Option.some.inj H
                      simp only [Option.some.injEq, Prod.mk.injEq] at H
                      obtain ⟨rfl⟩ := H
                      go_wp2
                      go_ret
                      exact ⟨by first | rfl | (simp [errW_none, errW_some] <;> rfl) | (simp [*, errW_none, errW_some] <;> rfl), bw_⟩
                 ·replace c174 := Bool.eq_false_iff.mpr c174
                  subst c174
                  have H1 : (if t470 = true then ((impl_RomanOf.f t469).bind fun bt492 => (if bt492.2 = true then (some (bt492.1.toList == t468.toList)) else (some false))) else (some true)) = some r := by rw [if_neg (show ¬ (false = true) by decide)] at H; exact H
                  clear H
                  have H := H1
                  clear H1
                  by_cases c190 : t470 = true
                  ·subst c190
                   have H1 : ((impl_RomanOf.f t469).bind fun bt492 => (if bt492.2 = true then (some (bt492.1.toList == t468.toList)) else (some false))) = some r := by rw [if_pos rfl] at H; exact H
                   clear H
                   have H := H1
                   clear H1
                   replace H := Option.bind_eq_some_iff.mp H
                   obtain ⟨⟨t492, t493⟩, A1910, H⟩ := H
                   (try dsimp only at H)
                   have A191 := Aside0.mk A1910
                   clear A1910
                   by_cases c192 : t493 = true
                   ·subst c192
                    have H1 : (some (t492.toList == t468.toList)) = some r := by rw [if_pos rfl] at H; exact H
                    clear H
                    have H := H1
                    clear H1
                    obtain rfl := Option.some.inj H
                    simp only [Option.some.injEq, Prod.mk.injEq] at H
                    obtain ⟨rfl⟩ := H
                    go_wp2_with (first | ((with_reducible refine gate_callee (f := 24) rfl ?_); refine goesL_ (some 528) rfl rfl Tryd.func24 (by kernel_rfl) rfl #[.int .i64 t469] rfl (by (try simp only [List.map_toArray, List.map_cons, List.map_nil]); first | done | rfl | (simp only [List.length_drop, List.length_take]; rfl)) ?_; (with_reducible refine (impl_RomanOf.calls t469 t492 true _ A191.out).mono ?_); rintro e w193 ⟨rfl, hb⟩; refine ⟨_, rfl, ?_⟩; have n0_ := Aside0.mk (below_step bw_ hb); clear HB; have HB := n0_; clear n0_; (try clear hb); (try clear hb2); (try clear hk); (try clear hi)))
                    go_ret
                    exact ⟨by first | rfl | (simp [errW_none, errW_some] <;> rfl) | (simp [*, errW_none, errW_some] <;> rfl), bw_⟩
                   ·replace c192 := Bool.eq_false_iff.mpr c192
                    subst c192
                    have H1 : (some false) = some r := by rw [if_neg (show ¬ (false = true) by decide)] at H; exact H
                    clear H
                    have H := H1
                    clear H1
                    obtain rfl := Option.some.inj H
                    exact absurd hr_.out (by decide)
                  ·replace c190 := Bool.eq_false_iff.mpr c190
                   subst c190
                   have H1 : (some true) = some r := by rw [if_neg (show ¬ (false = true) by decide)] at H; exact H
                   clear H
                   have H := H1
                   clear H1
                   obtain rfl := Option.some.inj H
                   simp only [Option.some.injEq, Prod.mk.injEq] at H
                   obtain ⟨rfl⟩ := H
                   go_wp2
                   go_ret
                   exact ⟨by first | rfl | (simp [errW_none, errW_some] <;> rfl) | (simp [*, errW_none, errW_some] <;> rfl), bw_⟩

end Go.Proofs.YtpedlkhfeoeogaaDoor.PFnVolumesSplit
