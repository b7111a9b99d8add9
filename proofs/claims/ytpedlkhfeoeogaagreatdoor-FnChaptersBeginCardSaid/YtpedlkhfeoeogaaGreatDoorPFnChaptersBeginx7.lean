-- Printed by a program of this repository (wip/xprint.py), over contracts of its own for what the kit's print does not take. Lean checks it.
import Derived.Test.YtpedlkhfeoeogaaGreatDoorPFnChaptersBeginx0
import Derived.Test.YtpedlkhfeoeogaaGreatDoorPFnChaptersBeginx1
import Derived.Test.YtpedlkhfeoeogaaGreatDoorPFnChaptersBeginx2
import Derived.Test.YtpedlkhfeoeogaaGreatDoorPFnChaptersBeginx5
import Derived.Test.YtpedlkhfeoeogaaGreatDoorPFnChaptersBeginx6
namespace Go.Proofs.YtpedlkhfeoeogaaGreatDoor.PFnChaptersBegin
open Go.RowKit Go.Proofs.YtpedlkhfeoeogaaGreatDoorW.PrintWords Go.Proofs.YtpedlkhfeoeogaaGreatDoorW.PrintLast Go.Proofs.YtpedlkhfeoeogaaGreatDoorW.PrintMore
attribute [local go_sem] max2_int min2_int max_two min_two max_three min_three max_four min_four   -- for this text's walks alone
set_option linter.unusedVariables false
set_option linter.unusedSimpArgs false

/-! ### impl_numbersOf: function 53 -/
theorem info3own : (Tryz.prog.info? 3).map (fun i => (i.zero, i.size, i.bytes)) = some (some (.int .i64 0), 1, 8) := by kernel_rfl
def impl_numbersOf.l0 : Nat → List Int → List ByteArray → Int → Int → Option (List Int × Bool)
 | 0, _, _, _, _ => none
 | k + 1, out, ps, n, i => if i < n then (if 0 ≤ i then (if i < (ps.length : Int) then (if (rdOf ByteArray.empty ps i).size ≤ 281474976710656 then (match atoiE (rdOf ByteArray.empty ps i) with
  | none => some ([], false)
  | some v => if out.length < 17592186044416 then impl_numbersOf.l0 k (out ++ [v]) ps n (wrap64 (i + 1)) else none) else none) else none) else none) else some (out, true)
def impl_numbersOf.f (k : Nat) (a0 a1 : ByteArray) (a2 : Int) : Option (List Int × Bool) := (strings_SplitN.f a0 a1 (wrap64 (a2 + 1))).bind fun ps => (if (ps.length : Int) > a2 then some ([], false) else impl_numbersOf.l0 k [] ps (ps.length : Int) 0)
theorem impl_numbersOf.mono_l : ∀ k, (∀ y0 y1 y2 y3, LeO (impl_numbersOf.l0 k y0 y1 y2 y3) (impl_numbersOf.l0 (k + 1) y0 y1 y2 y3))
 | 0 => fun _ _ _ _ r h => by simp [impl_numbersOf.l0] at h
 | k + 1 => by
  have ih0 := impl_numbersOf.mono_l k
  intro y0 y1 y2 y3
  unfold impl_numbersOf.l0
  refine LeO.ite (LeO.ite (LeO.ite (LeO.ite ?_ (LeO.none _)) (LeO.none _)) (LeO.none _)) (LeO.refl _)
  rcases atoiE (rdOf ByteArray.empty y1 y3) with _ | v
  ·exact LeO.refl _
  ·exact LeO.ite (ih0 _ _ _ _) (LeO.none _)
theorem impl_numbersOf.mono : ∀ a0 a1 a2 k, LeO (impl_numbersOf.f k a0 a1 a2) (impl_numbersOf.f (k + 1) a0 a1 a2) := by
 intro a0 a1 a2 k
 unfold impl_numbersOf.f
 exact LeO.bind (LeO.refl _) (fun ps => LeO.ite (LeO.refl _) (impl_numbersOf.mono_l k _ _ _ _))
set_option maxHeartbeats 16000000 in
set_option maxRecDepth 100000 in
theorem impl_numbersOf.calls (k : Nat) (a0 a1 : ByteArray) (a2 : Int) (r1 : List Int) (r2 : Bool) (w : World) (hT : TabC w) (h : impl_numbersOf.f k a0 a1 a2 = some (r1, r2)) :
  Calls Tryz.prog 53 #[.string a0, .string a1, .int .i64 a2] w fun e w' => ∃ v0_ : Value, e = .returned (.tuple #[v0_, .bool r2]) ∧ Kd.R (Kd.int .i64) 3 w' w.heap.size (fun _ => True) v0_ r1 ∧ Below w.heap.size w w' := by
 have HT := Aside0.mk hT
 clear hT
 have HB := Aside0.mk (Below.refl w.heap.size w)
 unfold impl_numbersOf.f at h
 obtain ⟨ps, a1_, h1⟩ := Option.bind_eq_some_iff.mp h
 have A1 := Aside0.mk a1_
 clear a1_ h
 by_cases c1 : (ps.length : Int) > a2
 ·rw [if_pos c1] at h1
  have c1b0 : decide (a2 < (ps.length : Int)) = true := decide_eq_true c1
  clear c1
  simp only [Option.some.injEq, Prod.mk.injEq] at h1
  obtain ⟨rfl, rfl⟩ := h1
  go_enter Tryz.func53, Tryz.ntmps53
  go_wp2_with (first | ((with_reducible refine gate_dst (N := 14) rfl ?_); refine Kd.R_lit (Kd.int .i64) _ 3 ?hg (N := 14) ?hd (xs := ([] : List Int)) (inner := []) (ok := fun _ => True) (okp := fun _ => True) ?hr ?hp (fun _ hk => hk) trivial (Below.refl _ _) (Nat.le_refl _) (by simp) ?_; (case hd => rfl); (case hg => rfl); (case hr => first | (go_simp; done) | (go_simp; rfl)); (case hp => exact (Reps.none _ _)); intro vo w3 ho4 hb hg_ hnew_; clear hg_ hnew_; have n0_ := Aside0.mk (Kd.R_lower ho4 (below_size bw_)); have n1_ := Aside0.mk (below_step bw_ hb); clear HB; have HOut := n0_; have HB := n1_; clear n0_ n1_; clear hb ho4) | ((with_reducible refine gate_callee (f := 69) rfl ?_); refine goesL_ (some 19) rfl rfl Tryz.func69 (by kernel_rfl) rfl #[.string a0, .string a1, .int .i64 (wrap64 (a2 + 1))] rfl (by (try simp only [List.map_toArray, List.map_cons, List.map_nil]); first | done | rfl) ?_; (with_reducible refine (strings_SplitN.calls a0 a1 (wrap64 (a2 + 1)) ps _ ?sideT A1.out).mono ?_); (case sideT => exact TabC.below HT.out bw_); rintro e w5 ⟨vp, rfl, ho0, hb⟩; refine ⟨_, rfl, ?_⟩; have n0_ := Aside0.mk (Kd.R_lower ho0 (below_size bw_)); have n1_ := Aside0.mk (Kd.R_below (rr_ HOut.out) hb); have n2_ := Aside0.mk (below_step bw_ hb); clear HB; clear HOut; have HP := n0_; have HOut := n1_; have HB := n2_; clear n0_ n1_ n2_; clear ho0 hb; obtain ⟨Ap, cp, ep⟩ := Kd.R_slice HP.out; subst ep))
  go_ret2
  exact ⟨_, by first | rfl | (simp; done) | (simp [*]; done), Kd.R_nil _ _ _ _ _, bw_⟩
 ·rw [if_neg c1] at h1
  have c1b0 : decide (a2 < (ps.length : Int)) = false := decide_eq_false c1
  clear c1
  have H' := Aside0.mk h1
  clear h1
  go_enter Tryz.func53, Tryz.ntmps53
  go_wp2_with (first | ((with_reducible refine gate_dst (N := 14) rfl ?_); refine Kd.R_lit (Kd.int .i64) _ 3 ?hg (N := 14) ?hd (xs := ([] : List Int)) (inner := []) (ok := fun _ => True) (okp := fun _ => True) ?hr ?hp (fun _ hk => hk) trivial (Below.refl _ _) (Nat.le_refl _) (by simp) ?_; (case hd => rfl); (case hg => rfl); (case hr => first | (go_simp; done) | (go_simp; rfl)); (case hp => exact (Reps.none _ _)); intro vo w3 ho4 hb hg_ hnew_; clear hg_ hnew_; have n0_ := Aside0.mk (Kd.R_lower ho4 (below_size bw_)); have n1_ := Aside0.mk (below_step bw_ hb); clear HB; have HOut := n0_; have HB := n1_; clear n0_ n1_; clear hb ho4) | ((with_reducible refine gate_callee (f := 69) rfl ?_); refine goesL_ (some 19) rfl rfl Tryz.func69 (by kernel_rfl) rfl #[.string a0, .string a1, .int .i64 (wrap64 (a2 + 1))] rfl (by (try simp only [List.map_toArray, List.map_cons, List.map_nil]); first | done | rfl) ?_; (with_reducible refine (strings_SplitN.calls a0 a1 (wrap64 (a2 + 1)) ps _ ?sideT A1.out).mono ?_); (case sideT => exact TabC.below HT.out bw_); rintro e w5 ⟨vp, rfl, ho0, hb⟩; refine ⟨_, rfl, ?_⟩; have n0_ := Aside0.mk (Kd.R_lower ho0 (below_size bw_)); have n1_ := Aside0.mk (Kd.R_below (rr_ HOut.out) hb); have n2_ := Aside0.mk (below_step bw_ hb); clear HB; clear HOut; have HP := n0_; have HOut := n1_; have HB := n2_; clear n0_ n1_ n2_; clear ho0 hb; obtain ⟨Ap, cp, ep⟩ := Kd.R_slice HP.out; subst ep))
  go_loopg [8, 26] k (fun kq v8 v26 w' => ∃ (out : List Int) (i : Int), v26 = .int .i64 i ∧ Aside0 (impl_numbersOf.l0 kq out ps (ps.length : Int) i = some (r1, r2)) ∧ Aside0 (kq ≤ k) ∧ Aside0 (Kd.R (Kd.int .i64) 3 w' w.heap.size (fun _ => True) v8 out) ∧ Aside0 (Kd.R Kd.string 9 w' w.heap.size (fun _ => True) (.slice Ap ps.length cp) ps) ∧ Aside0 (Below w.heap.size w w'))
  case atStart => exact ⟨(([] : List Int)), (0), rfl, H', ⟨Nat.le_refl _⟩, ⟨rr_ HOut.out⟩, ⟨rr_ HP.out⟩, ⟨bw_⟩⟩
  case round =>
   clear H' HP HB HOut
   obtain ⟨out, i, rfl, HA, HK1, HO_4, HP, HB⟩ := hrel
   cases gk with
   | zero => exact absurd HA.out (by simp [impl_numbersOf.l0])
   | succ k1 =>
    have H := HA.out
    clear HA
    simp only [impl_numbersOf.l0] at H
    by_cases c5 : i < (ps.length : Int)
    ·rw [if_pos c5] at H
     by_cases c6 : 0 ≤ i
     ·rw [if_pos c6, if_pos c5] at H
      by_cases c7 : (rdOf ByteArray.empty ps i).size ≤ 281474976710656
      ·rw [if_pos c7] at H
       have S1 := Aside0.mk c7
       clear c7
       have c5b0 : decide (i < (ps.length : Int)) = true := decide_eq_true c5
       obtain ⟨ad, ead, hx_0⟩ := Kd.at_string (Kd.R_reads' HP.out).2.2 i c6 c5
       subst ead
       have q5 := eq_true c5
       have q6 := eq_true c6
       clear c5 c6
       rcases e1 : atoiE (rdOf ByteArray.empty ps i) with _ | v
       ·simp only [e1, Option.some.injEq, Prod.mk.injEq] at H
        obtain ⟨rfl, rfl⟩ := H
        have E1 := Aside0.mk e1
        clear e1
        go_wp2_with (first | ((with_reducible refine gate_callee (f := 70) rfl ?_); refine goesL_ (some 32) rfl rfl Tryz.func70 (by kernel_rfl) rfl #[.string (rdOf ByteArray.empty ps i)] rfl (by (try simp only [List.map_toArray, List.map_cons, List.map_nil]); first | done | rfl) ?_; (with_reducible refine (strconv_Atoi.err (rdOf ByteArray.empty ps i) _ ?sideT S1.out E1.out).mono ?_); (case sideT => exact TabC.below HT.out bw_); rintro e w5 ⟨n1, t1, p1, rfl, hb⟩; refine ⟨_, rfl, ?_⟩; have n0_ := Aside0.mk (Kd.R_below (rr_ HP.out) hb); have n1_ := Aside0.mk (Kd.R_below (rr_ HO_4.out) hb); have n2_ := Aside0.mk (below_step bw_ hb); clear HP HO_4 HB; have HP := n0_; have HO_4 := n1_; have HB := n2_; clear n0_ n1_ n2_; (try clear hb)))
        go_ret2
        exact ⟨_, by first | rfl | (simp; done) | (simp [*]; done), Kd.R_nil _ _ _ _ _, bw_⟩
       ·simp only [e1] at H
        have E1 := Aside0.mk e1
        clear e1
        by_cases c11 : out.length < 17592186044416
        ·rw [if_pos c11] at H
         have LM := Aside0.mk c11
         clear c11
         obtain ⟨y, hy⟩ : ∃ y_ : List Int, y_ = (out ++ [v]) := ⟨_, rfl⟩
         rw [← hy] at H
         have NY := Aside0.mk hy
         clear hy
         have H' := Aside0.mk H
         clear H
         go_wp2_with (first | ((with_reducible refine gate_callee (f := 70) rfl ?_); refine goesL_ (some 32) rfl rfl Tryz.func70 (by kernel_rfl) rfl #[.string (rdOf ByteArray.empty ps i)] rfl (by (try simp only [List.map_toArray, List.map_cons, List.map_nil]); first | done | rfl) ?_; (with_reducible refine (strconv_Atoi.ok (rdOf ByteArray.empty ps i) v _ ?sideT S1.out E1.out).mono ?_); (case sideT => exact TabC.below HT.out bw_); rintro e w5 ⟨rfl, hb⟩; refine ⟨_, rfl, ?_⟩; have n0_ := Aside0.mk (Kd.R_below (rr_ HP.out) hb); have n1_ := Aside0.mk (Kd.R_below (rr_ HO_4.out) hb); have n2_ := Aside0.mk (below_step bw_ hb); clear HP HO_4 HB; have HP := n0_; have HO_4 := n1_; have HB := n2_; clear n0_ n1_ n2_; (try clear hb)) | ((with_reducible refine gate_builtin (b := .append) (xs := #[.tmp 37, .tmp 39]) rfl ?_); at_builtin; refine Kd.R_append (Kd.int .i64) (w0 := w) w.heap.size rfl (.tmp 37) (.tmp 39) 24 3 (.int .i64 0) 8 rfl Tryz.underlying24 info3own rfl (by decide) (by omega) u8 out v [.int .i64 v] (fun _ => True) (fun _ => False) rfl rfl ?aP (fun _ hk => hk.elim) ?aF ?aO ?aB ?aS ?aL ?_; (case aP => exact rfl); (case aB => exact bw_); (case aF => exact (fun _ _ => trivial)); (case aO => exact (rr_ HO_4.out)); (case aS => exact (below_size bw_)); (case aL => have := LM.out; omega); intro v129 w13 ho hb hg hat; rw [← NY.out] at ho; have n0_ := Aside0.mk (Kd.R_over HP.out HO_4.out (by decide) hg); have n1_ := Aside0.mk (hb); have n2_ := Aside0.mk (ho); clear HP HB HO_4; have HP := n0_; have HB := n1_; have HO130 := n2_; clear n0_ n1_ n2_; clear ho hb hg hat))
         go_roundg k1
         case measure => have := HK1.out; omega
         case rel => exact ⟨(y), (wrap64 (i + 1)), rs_, H', ⟨by have := HK1.out; omega⟩, ⟨rr_ HO130.out⟩, ⟨rr_ HP.out⟩, ⟨bw_⟩⟩
        ·rw [if_neg c11] at H; cases H
      ·rw [if_neg c7] at H; cases H
     ·rw [if_neg c6] at H; cases H
    ·rw [if_neg c5] at H
     have c5b0 : decide (i < (ps.length : Int)) = false := decide_eq_false c5
     clear c5
     simp only [Option.some.injEq, Prod.mk.injEq] at H
     obtain ⟨rfl, rfl⟩ := H
     go_wp2
     go_ret2
     exact ⟨_, by first | rfl | (simp; done) | (simp [*]; done), by (with_reducible repeat (first | apply Kd.R_alloc | apply Kd.R_drewN | apply Kd.R_drew)); exact HO_4.out, bw_⟩


/-! ### impl_ParseChapters: function 27 -/
def impl_ParseChapters.f (k : Nat) (a0 : ByteArray) : Option (List Int × Bool) := (impl_numbersOf.f k a0 (⟨#[43]⟩ : ByteArray) 12).bind fun bt318 => (if bt318.2 = true then ((impl_AreChapters.f k bt318.1).bind fun t322 => (if t322 = true then ((impl_joined.f k bt318.1 (⟨#[43]⟩ : ByteArray)).bind fun t323 => (if t323.toList = a0.toList then (some (bt318.1, true)) else (some (([] : List Int), false)))) else (some (([] : List Int), false)))) else (some (([] : List Int), false)))
theorem impl_ParseChapters.mono : ∀ a0 k, LeO (impl_ParseChapters.f k a0) (impl_ParseChapters.f (k + 1) a0) := by
 intro a0 k
 unfold impl_ParseChapters.f
 repeat' first
   | (with_reducible exact impl_AreChapters.mono _ _)
   | (with_reducible exact impl_joined.mono _ _ _)
   | (with_reducible exact impl_numbersOf.mono _ _ _ _)
   | (with_reducible exact LeO.refl _)
   | (with_reducible exact LeO.none _)
   | (with_reducible refine LeO.ite ?_ ?_)
   | (with_reducible refine LeO.bind ?_ (fun _ => ?_))
   | exact impl_AreChapters.mono _ _
   | exact impl_joined.mono _ _ _
   | exact impl_numbersOf.mono _ _ _ _
   | exact LeO.none _
   | refine LeO.ite ?_ ?_
   | refine LeO.bind ?_ (fun _ => ?_)
set_option maxHeartbeats 8000000 in
set_option maxRecDepth 100000 in
theorem impl_ParseChapters.calls (k : Nat) (a0 : ByteArray) (r1 : List Int) (r2 : Bool) (w : World) (hT : TabC w) (h : impl_ParseChapters.f k a0 = some (r1, r2)) :
  Calls Tryz.prog 27 #[.string a0] w fun e w' => ∃ v0_ : Value, e = .returned (.tuple #[v0_, .bool r2]) ∧ Kd.R (Kd.int .i64) 3 w' w.heap.size (fun _ => True) v0_ r1 ∧ Below w.heap.size w w' := by
 have HB := Aside0.mk (Below.refl w.heap.size w)
 have HT := Aside0.mk hT
 clear hT
 have H : ((impl_numbersOf.f k a0 (⟨#[43]⟩ : ByteArray) 12).bind fun bt318 => (if bt318.2 = true then ((impl_AreChapters.f k bt318.1).bind fun t322 => (if t322 = true then ((impl_joined.f k bt318.1 (⟨#[43]⟩ : ByteArray)).bind fun t323 => (if t323.toList = a0.toList then (some (bt318.1, true)) else (some (([] : List Int), false)))) else (some (([] : List Int), false)))) else (some (([] : List Int), false)))) = some (r1, r2) := h
 clear h
 replace H := Option.bind_eq_some_iff.mp H
 obtain ⟨⟨t318, t319⟩, A20, H⟩ := H
 replace H : (if t319 = true then ((impl_AreChapters.f k t318).bind fun t322 => (if t322 = true then ((impl_joined.f k t318 (⟨#[43]⟩ : ByteArray)).bind fun t323 => (if t323.toList = a0.toList then (some (t318, true)) else (some (([] : List Int), false)))) else (some (([] : List Int), false)))) else (some (([] : List Int), false))) = some (r1, r2) := H
 have A2 := Aside0.mk A20
 clear A20
 by_cases c3 : t319 = true
 ·subst c3
  have H1 : ((impl_AreChapters.f k t318).bind fun t322 => (if t322 = true then ((impl_joined.f k t318 (⟨#[43]⟩ : ByteArray)).bind fun t323 => (if t323.toList = a0.toList then (some (t318, true)) else (some (([] : List Int), false)))) else (some (([] : List Int), false)))) = some (r1, r2) := by rw [if_pos rfl] at H; exact H
  clear H
  have H := H1
  clear H1
  replace H := Option.bind_eq_some_iff.mp H
  obtain ⟨t322, A40, H⟩ := H
  replace H : (if t322 = true then ((impl_joined.f k t318 (⟨#[43]⟩ : ByteArray)).bind fun t323 => (if t323.toList = a0.toList then (some (t318, true)) else (some (([] : List Int), false)))) else (some (([] : List Int), false))) = some (r1, r2) := H
  have A4 := Aside0.mk A40
  clear A40
  by_cases c5 : t322 = true
  ·subst c5
   have H1 : ((impl_joined.f k t318 (⟨#[43]⟩ : ByteArray)).bind fun t323 => (if t323.toList = a0.toList then (some (t318, true)) else (some (([] : List Int), false)))) = some (r1, r2) := by rw [if_pos rfl] at H; exact H
   clear H
   have H := H1
   clear H1
   replace H := Option.bind_eq_some_iff.mp H
   obtain ⟨t323, A60, H⟩ := H
   replace H : (if t323.toList = a0.toList then (some (t318, true)) else (some (([] : List Int), false))) = some (r1, r2) := H
   have A6 := Aside0.mk A60
   clear A60
   by_cases c7 : t323.toList = a0.toList
   ·rw [if_pos c7] at H
    have c7b0 : (t323.toList == a0.toList) = true := beq_iff_eq.mpr c7
    have c7b1 : (t323.toList != a0.toList) = false := bne_eq_false_iff_eq.mpr c7
    clear c7
    simp only [Option.some.injEq, Prod.mk.injEq] at H
    obtain ⟨rfl, rfl⟩ := H
    go_enter Tryz.func27, Tryz.ntmps27
    go_wp2_with (first | ((with_reducible refine gate_callee (f := 53) rfl ?_); refine goesL_ (some 8) rfl rfl Tryz.func53 (by kernel_rfl) rfl #[.string a0, .string (⟨#[43]⟩ : ByteArray), .int .i64 12] rfl (by (try simp only [List.map_toArray, List.map_cons, List.map_nil]); first | done | rfl | (simp only [List.length_drop, List.length_take]; rfl)) ?_; (with_reducible refine (impl_numbersOf.calls k a0 (⟨#[43]⟩ : ByteArray) 12 t318 true _ ?side1 A2.out).mono ?_); (case side1 => exact TabC.below HT.out bw_); rintro e w8 ⟨v320, rfl, ho0, hb⟩; refine ⟨_, rfl, ?_⟩; have n0_ := Aside0.mk (Kd.R_lower ho0 (below_size bw_)); have n1_ := Aside0.mk (below_step bw_ hb); clear HB; have HO321 := n0_; have HB := n1_; clear n0_ n1_; (try clear hb); (try clear hb2); (try clear hk); (try clear hi); (try clear ho0); obtain ⟨Ao9, co9, eo9⟩ := Kd.R_slice HO321.out; subst eo9) | (go_at_call 23; (with_reducible refine (impl_AreChapters.calls k _ _ t318 true _ ?side1 ?side2 A4.out).mono ?_); (case side1 => exact cr_ (Kd.R_reads' HO321.out).2.2); (case side2 => exact (Kd.R_reads' HO321.out).2.1); rintro e w' ⟨rfl, ⟨nd, rfl⟩⟩) | (go_at_call 47; (with_reducible refine (impl_joined.calls k _ _ t318 (⟨#[43]⟩ : ByteArray) t323 _ ?side1 ?side2 ?side3 A6.out).mono ?_); (case side1 => exact cr_ (Kd.R_reads' HO321.out).2.2); (case side2 => exact (Kd.R_reads' HO321.out).2.1); (case side3 => exact TabC.below HT.out bw_); rintro e w10 ⟨rfl, hb⟩; have n0_ := Aside0.mk (Kd.R_below (rr_ HO321.out) hb); have n1_ := Aside0.mk (below_step bw_ hb); clear HO321; clear HB; have HO321 := n0_; have HB := n1_; clear n0_ n1_; (try clear hb); (try clear hb2); (try clear hk); (try clear hi)))
    go_ret2
    exact ⟨_, by first | rfl | (simp [errW_none, errW_some] <;> rfl) | (simp [*, errW_none, errW_some] <;> rfl), by (with_reducible repeat (first | apply Kd.R_alloc | apply Kd.R_drewN | apply Kd.R_drew)); exact HO321.out, bw_⟩
   ·rw [if_neg c7] at H
    have c7b0 : (t323.toList == a0.toList) = false := beq_eq_false_iff_ne.mpr c7
    have c7b1 : (t323.toList != a0.toList) = true := bne_iff_ne.mpr c7
    simp only [Option.some.injEq, Prod.mk.injEq] at H
    obtain ⟨rfl, rfl⟩ := H
    go_enter Tryz.func27, Tryz.ntmps27
    go_wp2_with (first | ((with_reducible refine gate_callee (f := 53) rfl ?_); refine goesL_ (some 8) rfl rfl Tryz.func53 (by kernel_rfl) rfl #[.string a0, .string (⟨#[43]⟩ : ByteArray), .int .i64 12] rfl (by (try simp only [List.map_toArray, List.map_cons, List.map_nil]); first | done | rfl | (simp only [List.length_drop, List.length_take]; rfl)) ?_; (with_reducible refine (impl_numbersOf.calls k a0 (⟨#[43]⟩ : ByteArray) 12 t318 true _ ?side1 A2.out).mono ?_); (case side1 => exact TabC.below HT.out bw_); rintro e w11 ⟨v320, rfl, ho0, hb⟩; refine ⟨_, rfl, ?_⟩; have n0_ := Aside0.mk (Kd.R_lower ho0 (below_size bw_)); have n1_ := Aside0.mk (below_step bw_ hb); clear HB; have HO321 := n0_; have HB := n1_; clear n0_ n1_; (try clear hb); (try clear hb2); (try clear hk); (try clear hi); (try clear ho0); obtain ⟨Ao12, co12, eo12⟩ := Kd.R_slice HO321.out; subst eo12) | (go_at_call 23; (with_reducible refine (impl_AreChapters.calls k _ _ t318 true _ ?side1 ?side2 A4.out).mono ?_); (case side1 => exact cr_ (Kd.R_reads' HO321.out).2.2); (case side2 => exact (Kd.R_reads' HO321.out).2.1); rintro e w' ⟨rfl, ⟨nd, rfl⟩⟩) | (go_at_call 47; (with_reducible refine (impl_joined.calls k _ _ t318 (⟨#[43]⟩ : ByteArray) t323 _ ?side1 ?side2 ?side3 A6.out).mono ?_); (case side1 => exact cr_ (Kd.R_reads' HO321.out).2.2); (case side2 => exact (Kd.R_reads' HO321.out).2.1); (case side3 => exact TabC.below HT.out bw_); rintro e w13 ⟨rfl, hb⟩; have n0_ := Aside0.mk (Kd.R_below (rr_ HO321.out) hb); have n1_ := Aside0.mk (below_step bw_ hb); clear HO321; clear HB; have HO321 := n0_; have HB := n1_; clear n0_ n1_; (try clear hb); (try clear hb2); (try clear hk); (try clear hi)))
    go_ret2
    exact ⟨_, by first | rfl | (simp [errW_none, errW_some] <;> rfl) | (simp [*, errW_none, errW_some] <;> rfl), by first | exact Kd.R_nil _ _ _ _ _ | exact Kd.N_nil _ _ _ _ _ | exact Kd.V_nil _ _ _ _ _ | exact Kd.Q_nil _ _ _ _ _ | exact Kd.S_nil _ _ _ _ _, bw_⟩
  ·replace c5 := Bool.eq_false_iff.mpr c5
   subst c5
   have H1 : (some (([] : List Int), false)) = some (r1, r2) := by rw [if_neg (show ¬ (false = true) by decide)] at H; exact H
   clear H
   have H := H1
   clear H1
   simp only [Option.some.injEq, Prod.mk.injEq] at H
   obtain ⟨rfl, rfl⟩ := H
   go_enter Tryz.func27, Tryz.ntmps27
   go_wp2_with (first | ((with_reducible refine gate_callee (f := 53) rfl ?_); refine goesL_ (some 8) rfl rfl Tryz.func53 (by kernel_rfl) rfl #[.string a0, .string (⟨#[43]⟩ : ByteArray), .int .i64 12] rfl (by (try simp only [List.map_toArray, List.map_cons, List.map_nil]); first | done | rfl | (simp only [List.length_drop, List.length_take]; rfl)) ?_; (with_reducible refine (impl_numbersOf.calls k a0 (⟨#[43]⟩ : ByteArray) 12 t318 true _ ?side1 A2.out).mono ?_); (case side1 => exact TabC.below HT.out bw_); rintro e w14 ⟨v320, rfl, ho0, hb⟩; refine ⟨_, rfl, ?_⟩; have n0_ := Aside0.mk (Kd.R_lower ho0 (below_size bw_)); have n1_ := Aside0.mk (below_step bw_ hb); clear HB; have HO321 := n0_; have HB := n1_; clear n0_ n1_; (try clear hb); (try clear hb2); (try clear hk); (try clear hi); (try clear ho0); obtain ⟨Ao15, co15, eo15⟩ := Kd.R_slice HO321.out; subst eo15) | (go_at_call 23; (with_reducible refine (impl_AreChapters.calls k _ _ t318 false _ ?side1 ?side2 A4.out).mono ?_); (case side1 => exact cr_ (Kd.R_reads' HO321.out).2.2); (case side2 => exact (Kd.R_reads' HO321.out).2.1); rintro e w' ⟨rfl, ⟨nd, rfl⟩⟩))
   go_ret2
   exact ⟨_, by first | rfl | (simp [errW_none, errW_some] <;> rfl) | (simp [*, errW_none, errW_some] <;> rfl), by first | exact Kd.R_nil _ _ _ _ _ | exact Kd.N_nil _ _ _ _ _ | exact Kd.V_nil _ _ _ _ _ | exact Kd.Q_nil _ _ _ _ _ | exact Kd.S_nil _ _ _ _ _, bw_⟩
 ·replace c3 := Bool.eq_false_iff.mpr c3
  subst c3
  have H1 : (some (([] : List Int), false)) = some (r1, r2) := by rw [if_neg (show ¬ (false = true) by decide)] at H; exact H
  clear H
  have H := H1
  clear H1
  simp only [Option.some.injEq, Prod.mk.injEq] at H
  obtain ⟨rfl, rfl⟩ := H
  go_enter Tryz.func27, Tryz.ntmps27
  go_wp2_with (first | ((with_reducible refine gate_callee (f := 53) rfl ?_); refine goesL_ (some 8) rfl rfl Tryz.func53 (by kernel_rfl) rfl #[.string a0, .string (⟨#[43]⟩ : ByteArray), .int .i64 12] rfl (by (try simp only [List.map_toArray, List.map_cons, List.map_nil]); first | done | rfl | (simp only [List.length_drop, List.length_take]; rfl)) ?_; (with_reducible refine (impl_numbersOf.calls k a0 (⟨#[43]⟩ : ByteArray) 12 t318 false _ ?side1 A2.out).mono ?_); (case side1 => exact TabC.below HT.out bw_); rintro e w16 ⟨v320, rfl, ho0, hb⟩; refine ⟨_, rfl, ?_⟩; have n0_ := Aside0.mk (Kd.R_lower ho0 (below_size bw_)); have n1_ := Aside0.mk (below_step bw_ hb); clear HB; have HO321 := n0_; have HB := n1_; clear n0_ n1_; (try clear hb); (try clear hb2); (try clear hk); (try clear hi); (try clear ho0)))
  go_ret2
  exact ⟨_, by first | rfl | (simp [errW_none, errW_some] <;> rfl) | (simp [*, errW_none, errW_some] <;> rfl), by first | exact Kd.R_nil _ _ _ _ _ | exact Kd.N_nil _ _ _ _ _ | exact Kd.V_nil _ _ _ _ _ | exact Kd.Q_nil _ _ _ _ _ | exact Kd.S_nil _ _ _ _ _, bw_⟩

/-! ### spec_DrawChapterOfPage: function 28 -/
def spec_DrawChapterOfPage.f (k : Nat) (l0 : List Int) : Option (List Int × Bool × Int) := ((spec_l1Cur_chapters.f k l0 0 0).bind fun b_a => ((spec_l1Cur_one.f l0 b_a.2.1 b_a.2.2 3).bind fun b_o => ((spec_l1Cur_pick.f l0 b_o.2.1 b_o.2.2 120).bind fun b_p => ((spec_l1Cur_pick.f l0 b_p.2.1 b_p.2.2 9).bind fun b_q => some (b_a.1, (!b_o.1), wrap64 (b_p.1 - wrap64 (Int.tdiv b_q.1 8)))))))
theorem spec_DrawChapterOfPage.mono : ∀ a0 k, LeO (spec_DrawChapterOfPage.f k a0) (spec_DrawChapterOfPage.f (k + 1) a0) := by
 intro a0 k
 unfold spec_DrawChapterOfPage.f
 repeat' first
   | (with_reducible exact spec_l1Cur_chapters.mono _ _ _ _)
   | (with_reducible exact LeO.refl _)
   | (with_reducible exact LeO.none _)
   | (with_reducible refine LeO.ite ?_ ?_)
   | (with_reducible refine LeO.bind ?_ (fun _ => ?_))
set_option maxHeartbeats 8000000 in
set_option maxRecDepth 100000 in
theorem spec_DrawChapterOfPage.calls (k : Nat) (A0 : Option Addr) (c0 : Nat) (l0 : List Int) (r1 : List Int) (r2 : Bool) (r3 : Int) (w : World) (hr0 : Kd.C (Kd.int .u8) w A0 l0.length l0) (hc0 : l0.length ≤ c0) (h : spec_DrawChapterOfPage.f k l0 = some (r1, r2, r3)) :
  Calls Tryz.prog 28 #[.slice A0 l0.length c0] w fun e w' => ∃ v0_ : Value, e = .returned (.tuple #[v0_, .bool r2, .int .i64 r3]) ∧ Kd.R (Kd.int .i64) 3 w' w.heap.size (fun _ => True) v0_ r1 ∧ Below w.heap.size w w' := by
 have HR0 := Aside0.mk hr0
 clear hr0
 unfold spec_DrawChapterOfPage.f at h
 obtain ⟨⟨t1_0, t1_1, t1_2⟩, A1, h⟩ := Option.bind_eq_some_iff.mp h
 have A1 := Aside0.mk A1
 simp only at h
 obtain ⟨⟨t2_0, t2_1, t2_2⟩, A2, h⟩ := Option.bind_eq_some_iff.mp h
 have A2 := Aside0.mk A2
 simp only at h
 obtain ⟨⟨t3_0, t3_1, t3_2⟩, A3, h⟩ := Option.bind_eq_some_iff.mp h
 have A3 := Aside0.mk A3
 simp only at h
 obtain ⟨⟨t4_0, t4_1, t4_2⟩, A4, h⟩ := Option.bind_eq_some_iff.mp h
 have A4 := Aside0.mk A4
 simp only at h
 simp only [Option.some.injEq, Prod.mk.injEq] at h
 obtain ⟨rfl, rfl, rfl⟩ := h
 have HB := Aside0.mk (Below.refl w.heap.size w)
 go_enter Tryz.func28, Tryz.ntmps28
 go_wp2_with (first | (go_at_call 37; (with_reducible refine (spec_l1Cur_chapters.calls k w.heap.size l0 0 0 t1_0 t1_1 t1_2 w _ ?side1 ?side2 A1.out).mono ?_); (case side1 => repeat (first | (with_reducible first | apply IsS52.drewN | apply IsS52.drew) | exact IsS52.new _ _ _ _ _ _ _ bw_ HR0.out)); (case side2 => exact bw_); rintro e w1 ⟨v1_0, rfl, ho0, hi, hb, hk⟩; have m0_ := Aside0.mk (Kd.R_lower ho0 (below_size bw_)); have nb_ := Aside0.mk hb; have ni_ := Aside0.mk hi; clear HB; (try clear HI0); have HB := nb_; have HI0 := ni_; clear nb_ ni_ hb hi hk; have HO10 := m0_; clear m0_ ho0; obtain ⟨Ao10, co10, eo10⟩ := Kd.R_slice HO10.out; subst eo10) | (go_at_call 38; (with_reducible refine (spec_l1Cur_one.calls w.heap.size l0 t1_1 t1_2 (3) t2_0 t2_1 t2_2 w _ ?side1 ?side2 A2.out).mono ?_); (case side1 => repeat (first | (with_reducible first | exact HI0.out | apply IsS52.alloc | apply IsS52.drewN | apply IsS52.drew) | exact HI0.out)); (case side2 => exact bw_); rintro e w2 ⟨rfl, hi, hb, hk⟩; have qHO10_ := Aside0.mk (Kd.R_mono (Kd.R_keep (IsS52.apart (show IsS52 w _ w.heap.size l0 t1_1 t1_2 from by repeat (first | (with_reducible first | exact HI0.out | apply IsS52.alloc | apply IsS52.drewN | apply IsS52.drew) | exact HI0.out)) (rr_ HO10.out) (by decide)) hk (fun _ h => h.2)) (fun _ h => h.1)); have nb_ := Aside0.mk hb; have ni_ := Aside0.mk hi; clear HB; (try clear HI0); clear HO10; have HB := nb_; have HI0 := ni_; clear nb_ ni_ hb hi hk; have HO10 := qHO10_; clear qHO10_) | (go_at_call 54; (with_reducible refine (spec_l1Cur_pick.calls w.heap.size l0 t2_1 t2_2 (120) t3_0 t3_1 t3_2 w _ ?side1 ?side2 A3.out).mono ?_); (case side1 => repeat (first | (with_reducible first | exact HI0.out | apply IsS52.alloc | apply IsS52.drewN | apply IsS52.drew) | exact HI0.out)); (case side2 => exact bw_); rintro e w3 ⟨rfl, hi, hb, hk⟩; have qHO10_ := Aside0.mk (Kd.R_mono (Kd.R_keep (IsS52.apart (show IsS52 w _ w.heap.size l0 t2_1 t2_2 from by repeat (first | (with_reducible first | exact HI0.out | apply IsS52.alloc | apply IsS52.drewN | apply IsS52.drew) | exact HI0.out)) (rr_ HO10.out) (by decide)) hk (fun _ h => h.2)) (fun _ h => h.1)); have nb_ := Aside0.mk hb; have ni_ := Aside0.mk hi; clear HB; (try clear HI0); clear HO10; have HB := nb_; have HI0 := ni_; clear nb_ ni_ hb hi hk; have HO10 := qHO10_; clear qHO10_) | (go_at_call 54; (with_reducible refine (spec_l1Cur_pick.calls w.heap.size l0 t3_1 t3_2 (9) t4_0 t4_1 t4_2 w _ ?side1 ?side2 A4.out).mono ?_); (case side1 => repeat (first | (with_reducible first | exact HI0.out | apply IsS52.alloc | apply IsS52.drewN | apply IsS52.drew) | exact HI0.out)); (case side2 => exact bw_); rintro e w4 ⟨rfl, hi, hb, hk⟩; have qHO10_ := Aside0.mk (Kd.R_mono (Kd.R_keep (IsS52.apart (show IsS52 w _ w.heap.size l0 t3_1 t3_2 from by repeat (first | (with_reducible first | exact HI0.out | apply IsS52.alloc | apply IsS52.drewN | apply IsS52.drew) | exact HI0.out)) (rr_ HO10.out) (by decide)) hk (fun _ h => h.2)) (fun _ h => h.1)); have nb_ := Aside0.mk hb; have ni_ := Aside0.mk hi; clear HB; (try clear HI0); clear HO10; have HB := nb_; have HI0 := ni_; clear nb_ ni_ hb hi hk; have HO10 := qHO10_; clear qHO10_))
 go_ret3
 exact ⟨_, by first | rfl | (simp; done) | (simp [*]; done), by (with_reducible repeat (first | apply Kd.R_alloc | apply Kd.R_drewN | apply Kd.R_drew)); exact HO10.out, bw_⟩


/-! ### impl_ChapterOfPage: function 29 -/
def impl_ChapterOfPage.l0 : Nat → Int → List Int → List Int → Int → Int → Option (Int × Int × Bool)
 | 0, _, _, _, _, _ => none
 | k + 1, x2, x9, x24, x25, x26 => if x26 < x25 then (if 0 ≤ x26 then (if x26 < (x24.length : Int) then (if x26 < (x9.length : Int) then ((impl_within.f x2 (rd x9 x26) (wrap64 ((wrap64 ((rd x9 x26) + (rd x24 x26))) - 1))).bind fun t335 => (if t335 = true then (some (x26, wrap64 ((wrap64 (x2 - (rd x9 x26))) + 1), true)) else (impl_ChapterOfPage.l0 k x2 x9 x24 x25 (wrap64 (x26 + 1))))) else (none)) else (none)) else (none)) else (some (0, 0, false))
def impl_ChapterOfPage.f (k : Nat) (l0 : List Int) (a1 : Bool) (a2 : Int) : Option (Int × Int × Bool) := (impl_AreChapters.f k l0).bind fun t324 => (if t324 = true then ((impl_laid.f k l0 a1).bind fun bt325 => (impl_ChapterOfPage.l0 k a2 bt325.1 l0 (l0.length : Int) 0)) else (some (0, 0, false)))
theorem impl_ChapterOfPage.mono_l : ∀ k, (∀ y0 y1 y2 y3 y4, LeO (impl_ChapterOfPage.l0 k y0 y1 y2 y3 y4) (impl_ChapterOfPage.l0 (k + 1) y0 y1 y2 y3 y4))
 | 0 => fun _ _ _ _ _ r h => by simp [impl_ChapterOfPage.l0] at h
 | k + 1 => by
  have ih0 := impl_ChapterOfPage.mono_l k
  ·intro y0 y1 y2 y3 y4
   unfold impl_ChapterOfPage.l0
   repeat' first
   | (with_reducible exact ih0 _ _ _ _ _)
   | (with_reducible exact impl_AreChapters.mono _ _)
   | (with_reducible exact impl_laid.mono _ _ _)
   | (with_reducible exact LeO.refl _)
   | (with_reducible exact LeO.none _)
   | (with_reducible refine LeO.ite ?_ ?_)
   | (with_reducible refine LeO.bind ?_ (fun _ => ?_))
   | exact ih0 _ _ _ _ _
   | exact impl_AreChapters.mono _ _
   | exact impl_laid.mono _ _ _
   | exact LeO.none _
   | refine LeO.ite ?_ ?_
   | refine LeO.bind ?_ (fun _ => ?_)
theorem impl_ChapterOfPage.mono : ∀ a0 a1 a2 k, LeO (impl_ChapterOfPage.f k a0 a1 a2) (impl_ChapterOfPage.f (k + 1) a0 a1 a2) := by
 intro a0 a1 a2 k
 have ih0 := impl_ChapterOfPage.mono_l k
 unfold impl_ChapterOfPage.f
 repeat' first
   | (with_reducible exact ih0 _ _ _ _ _)
   | (with_reducible exact impl_AreChapters.mono _ _)
   | (with_reducible exact impl_laid.mono _ _ _)
   | (with_reducible exact LeO.refl _)
   | (with_reducible exact LeO.none _)
   | (with_reducible refine LeO.ite ?_ ?_)
   | (with_reducible refine LeO.bind ?_ (fun _ => ?_))
   | exact ih0 _ _ _ _ _
   | exact impl_AreChapters.mono _ _
   | exact impl_laid.mono _ _ _
   | exact LeO.none _
   | refine LeO.ite ?_ ?_
   | refine LeO.bind ?_ (fun _ => ?_)
set_option maxHeartbeats 8000000 in
set_option maxRecDepth 100000 in
theorem impl_ChapterOfPage.calls (k : Nat) (A0 : Option Addr) (c0 : Nat) (l0 : List Int) (a1 : Bool) (a2 : Int) (r1 : Int) (r2 : Int) (r3 : Bool) (w : World) (hr0 : Kd.C (Kd.int .i64) w A0 l0.length l0) (hc0 : l0.length ≤ c0) (h : impl_ChapterOfPage.f k l0 a1 a2 = some (r1, r2, r3)) :
  Calls Tryz.prog 29 #[.slice A0 l0.length c0, .bool a1, .int .i64 a2] w fun e w' => e = .returned (.tuple #[.int .i64 r1, .int .i64 r2, .bool r3]) ∧ Below w.heap.size w w' := by
 have HR0 := Aside0.mk hr0
 have HC0 := Aside0.mk hc0
 clear hr0 hc0
 have HB := Aside0.mk (Below.refl w.heap.size w)
 have H : ((impl_AreChapters.f k l0).bind fun t324 => (if t324 = true then ((impl_laid.f k l0 a1).bind fun bt325 => (impl_ChapterOfPage.l0 k a2 bt325.1 l0 (l0.length : Int) 0)) else (some (0, 0, false)))) = some (r1, r2, r3) := h
 clear h
 replace H := Option.bind_eq_some_iff.mp H
 obtain ⟨t324, A40, H⟩ := H
 replace H : (if t324 = true then ((impl_laid.f k l0 a1).bind fun bt325 => (impl_ChapterOfPage.l0 k a2 bt325.1 l0 (l0.length : Int) 0)) else (some (0, 0, false))) = some (r1, r2, r3) := H
 have A4 := Aside0.mk A40
 clear A40
 by_cases c5 : t324 = true
 ·subst c5
  have H1 : ((impl_laid.f k l0 a1).bind fun bt325 => (impl_ChapterOfPage.l0 k a2 bt325.1 l0 (l0.length : Int) 0)) = some (r1, r2, r3) := by rw [if_pos rfl] at H; exact H
  clear H
  have H := H1
  clear H1
  replace H := Option.bind_eq_some_iff.mp H
  obtain ⟨⟨t325, t326, t327⟩, A60, H⟩ := H
  replace H : (impl_ChapterOfPage.l0 k a2 t325 l0 (l0.length : Int) 0) = some (r1, r2, r3) := H
  have A6 := Aside0.mk A60
  clear A60
  have H' := Aside0.mk H
  clear H
  go_enter Tryz.func29, Tryz.ntmps29
  go_wp2_with (first | (go_at_call 23; (with_reducible refine (impl_AreChapters.calls k _ _ l0 true _ ?side1 ?side2 A4.out).mono ?_); (case side1 => exact cr_ HR0.out); (case side2 => exact HC0.out); rintro e w' ⟨rfl, ⟨nd, rfl⟩⟩; (try exact dd_)) | (go_at_call 39; (with_reducible refine (impl_laid.calls k _ _ l0 a1 t325 t326 t327 _ ?side1 ?side2 A6.out).mono ?_); (case side1 => exact cr_ HR0.out); (case side2 => exact HC0.out); rintro e w7 ⟨v328, v330, rfl, ho0, ho1, hb⟩; have n0_ := Aside0.mk (Kd.R_lower ho0 (below_size bw_)); have n1_ := Aside0.mk (Kd.R_lower ho1 (below_size bw_)); have n2_ := Aside0.mk (below_step bw_ hb); clear HB; have HO329 := n0_; have HO331 := n1_; have HB := n2_; clear n0_ n1_ n2_; (try clear hb); (try clear hb2); (try clear hk); (try clear hi); (try clear ho0); (try clear ho1)))
  repeat (go_quiet (first | (go_at_call 23; (with_reducible refine (impl_AreChapters.calls k _ _ l0 true _ ?side1 ?side2 A4.out).mono ?_); (case side1 => exact cr_ HR0.out); (case side2 => exact HC0.out); rintro e w' ⟨rfl, ⟨nd, rfl⟩⟩; (try exact dd_)) | (go_at_call 39; (with_reducible refine (impl_laid.calls k _ _ l0 a1 t325 t326 t327 _ ?side1 ?side2 A6.out).mono ?_); (case side1 => exact cr_ HR0.out); (case side2 => exact HC0.out); rintro e w7 ⟨v328, v330, rfl, ho0, ho1, hb⟩; have n0_ := Aside0.mk (Kd.R_lower ho0 (below_size bw_)); have n1_ := Aside0.mk (Kd.R_lower ho1 (below_size bw_)); have n2_ := Aside0.mk (below_step bw_ hb); clear HB; have HO329 := n0_; have HO331 := n1_; have HB := n2_; clear n0_ n1_ n2_; (try clear hb); (try clear hb2); (try clear hk); (try clear hi); (try clear ho0); (try clear ho1))); try go_wp2_with (first | (go_at_call 23; (with_reducible refine (impl_AreChapters.calls k _ _ l0 true _ ?side1 ?side2 A4.out).mono ?_); (case side1 => exact cr_ HR0.out); (case side2 => exact HC0.out); rintro e w' ⟨rfl, ⟨nd, rfl⟩⟩; (try exact dd_)) | (go_at_call 39; (with_reducible refine (impl_laid.calls k _ _ l0 a1 t325 t326 t327 _ ?side1 ?side2 A6.out).mono ?_); (case side1 => exact cr_ HR0.out); (case side2 => exact HC0.out); rintro e w7 ⟨v328, v330, rfl, ho0, ho1, hb⟩; have n0_ := Aside0.mk (Kd.R_lower ho0 (below_size bw_)); have n1_ := Aside0.mk (Kd.R_lower ho1 (below_size bw_)); have n2_ := Aside0.mk (below_step bw_ hb); clear HB; have HO329 := n0_; have HO331 := n1_; have HB := n2_; clear n0_ n1_ n2_; (try clear hb); (try clear hb2); (try clear hk); (try clear hi); (try clear ho0); (try clear ho1))))
  go_loopg [26] k (fun kq v26 w' => ∃ (x26_1 : Int), v26 = .int .i64 x26_1 ∧ Aside0 (impl_ChapterOfPage.l0 kq a2 t325 l0 (l0.length : Int) x26_1 = some (r1, r2, r3)) ∧ Aside0 (kq ≤ k) ∧ Aside0 (Kd.R (Kd.int .i64) 3 w' w.heap.size (fun _ => True) v328 t325) ∧ Aside0 (Below w.heap.size w w'))
  case atStart => exact ⟨(0), rs_, H', ⟨Nat.le_refl _⟩, ⟨by (with_reducible repeat (first | apply Kd.R_alloc | apply Kd.R_drewN | apply Kd.R_drew)); exact Kd.R_mono HO329.out (fun _ hk => trivial)⟩, ⟨bw_⟩⟩
  case round =>
   clear H'
   (try clear c2); (try clear p2); (try clear c5)
   obtain ⟨x26_1, rfl, HA, HK1, HO_9, HB⟩ := hrel
   cases gk with
   | zero => exact absurd HA.out (by simp [impl_ChapterOfPage.l0])
   | succ k1 =>
    have H := HA.out
    clear HA
    simp only [impl_ChapterOfPage.l0] at H
    by_cases c8 : x26_1 < (l0.length : Int)
    ·rw [if_pos c8] at H
     have c8b0 : decide (x26_1 < (l0.length : Int)) = true := decide_eq_true c8
     clear c8
     by_cases c9 : 0 ≤ x26_1
     ·rw [if_pos c9] at H
      have c9b0 : decide (0 ≤ x26_1) = true := decide_eq_true c9
      clear c9
      by_cases c10 : x26_1 < (l0.length : Int)
      ·rw [if_pos c10] at H
       have c10b0 : decide (x26_1 < (l0.length : Int)) = true := decide_eq_true c10
       clear c10
       by_cases c11 : x26_1 < (t325.length : Int)
       ·rw [if_pos c11] at H
        have c11b0 : decide (x26_1 < (t325.length : Int)) = true := decide_eq_true c11
        clear c11
        replace H := Option.bind_eq_some_iff.mp H
        obtain ⟨t335, A120, H⟩ := H
        replace H : (if t335 = true then (some (x26_1, wrap64 ((wrap64 (a2 - (rd t325 x26_1))) + 1), true)) else (impl_ChapterOfPage.l0 k1 a2 t325 l0 (l0.length : Int) (wrap64 (x26_1 + 1)))) = some (r1, r2, r3) := H
        have A12 := Aside0.mk A120
        clear A120
        by_cases c13 : t335 = true
        ·subst c13
         have H1 : (some (x26_1, wrap64 ((wrap64 (a2 - (rd t325 x26_1))) + 1), true)) = some (r1, r2, r3) := by rw [if_pos rfl] at H; exact H
         clear H
         have H := H1
         clear H1
         simp only [Option.some.injEq, Prod.mk.injEq] at H
         obtain ⟨rfl, rfl, rfl⟩ := H
         have p332 : 0 ≤ (x26_1 : Int) := of_decide_eq_true (by first | (with_reducible assumption) | assumption)
         have q332 : x26_1 < (l0.length : Int) := of_decide_eq_true (by first | (with_reducible assumption) | assumption)
         obtain ⟨ad332, e332, hx332_0⟩ := Kd.at_int HR0.out x26_1 p332 q332
         cases e332
         replace hx332_0 := (HB.out.cell (World.block_lt_of_cell? w _ hx332_0)).trans hx332_0
         replace p332 := eq_true p332
         replace q332 := eq_true q332
         obtain ⟨Ao14, co14, eo14⟩ := Kd.R_slice HO_9.out
         subst eo14
         have p333 : 0 ≤ (x26_1 : Int) := of_decide_eq_true (by first | (with_reducible assumption) | assumption)
         have q333 : x26_1 < (t325.length : Int) := of_decide_eq_true (by first | (with_reducible assumption) | assumption)
         obtain ⟨ad333, e333, hx333_0⟩ := Kd.at_int (Kd.R_reads' HO_9.out).2.2 x26_1 p333 q333
         cases e333
         replace p333 := eq_true p333
         replace q333 := eq_true q333
         have p334 : 0 ≤ (x26_1 : Int) := of_decide_eq_true (by first | (with_reducible assumption) | assumption)
         have q334 : x26_1 < (t325.length : Int) := of_decide_eq_true (by first | (with_reducible assumption) | assumption)
         obtain ⟨ad334, e334, hx334_0⟩ := Kd.at_int (Kd.R_reads' HO_9.out).2.2 x26_1 p334 q334
         obtain rfl : ad333 = ad334 := (by injection e334)
         replace p334 := eq_true p334
         replace q334 := eq_true q334
         go_wp2_with (first | (go_at_call 51; (with_reducible refine (impl_within.calls a2 (rd t325 x26_1) (wrap64 ((wrap64 ((rd t325 x26_1) + (rd l0 x26_1))) - 1)) true _ A12.out).mono ?_); rintro e w' ⟨rfl, ⟨nd, rfl⟩⟩; (try exact dd_); all_goals (have p336 : 0 ≤ (x26_1 : Int) := of_decide_eq_true (by first | (with_reducible assumption) | assumption); have q336 : x26_1 < (t325.length : Int) := of_decide_eq_true (by first | (with_reducible assumption) | assumption); obtain ⟨ad336, e336, hx336_0⟩ := Kd.at_int (Kd.R_reads' HO_9.out).2.2 x26_1 p336 q336; obtain rfl : ad333 = ad336 := (by injection e336); replace p336 := eq_true p336; replace q336 := eq_true q336)))
         repeat (go_quiet (first | (go_at_call 51; (with_reducible refine (impl_within.calls a2 (rd t325 x26_1) (wrap64 ((wrap64 ((rd t325 x26_1) + (rd l0 x26_1))) - 1)) true _ A12.out).mono ?_); rintro e w' ⟨rfl, ⟨nd, rfl⟩⟩; (try exact dd_); all_goals (have p336 : 0 ≤ (x26_1 : Int) := of_decide_eq_true (by first | (with_reducible assumption) | assumption); have q336 : x26_1 < (t325.length : Int) := of_decide_eq_true (by first | (with_reducible assumption) | assumption); obtain ⟨ad336, e336, hx336_0⟩ := Kd.at_int (Kd.R_reads' HO_9.out).2.2 x26_1 p336 q336; obtain rfl : ad333 = ad336 := (by injection e336); replace p336 := eq_true p336; replace q336 := eq_true q336))); try go_wp2_with (first | (go_at_call 51; (with_reducible refine (impl_within.calls a2 (rd t325 x26_1) (wrap64 ((wrap64 ((rd t325 x26_1) + (rd l0 x26_1))) - 1)) true _ A12.out).mono ?_); rintro e w' ⟨rfl, ⟨nd, rfl⟩⟩; (try exact dd_); all_goals (have p336 : 0 ≤ (x26_1 : Int) := of_decide_eq_true (by first | (with_reducible assumption) | assumption); have q336 : x26_1 < (t325.length : Int) := of_decide_eq_true (by first | (with_reducible assumption) | assumption); obtain ⟨ad336, e336, hx336_0⟩ := Kd.at_int (Kd.R_reads' HO_9.out).2.2 x26_1 p336 q336; obtain rfl : ad333 = ad336 := (by injection e336); replace p336 := eq_true p336; replace q336 := eq_true q336))))
         go_ret3
         exact ⟨by first | rfl | (simp [errW_none, errW_some] <;> rfl) | (simp [*, errW_none, errW_some] <;> rfl), bw_⟩
        ·replace c13 := Bool.eq_false_iff.mpr c13
         subst c13
         have H1 : (impl_ChapterOfPage.l0 k1 a2 t325 l0 (l0.length : Int) (wrap64 (x26_1 + 1))) = some (r1, r2, r3) := by rw [if_neg (show ¬ (false = true) by decide)] at H; exact H
         clear H
         have H := H1
         clear H1
         have H' := Aside0.mk H
         clear H
         have p332 : 0 ≤ (x26_1 : Int) := of_decide_eq_true (by first | (with_reducible assumption) | assumption)
         have q332 : x26_1 < (l0.length : Int) := of_decide_eq_true (by first | (with_reducible assumption) | assumption)
         obtain ⟨ad332, e332, hx332_0⟩ := Kd.at_int HR0.out x26_1 p332 q332
         cases e332
         replace hx332_0 := (HB.out.cell (World.block_lt_of_cell? w _ hx332_0)).trans hx332_0
         replace p332 := eq_true p332
         replace q332 := eq_true q332
         obtain ⟨Ao15, co15, eo15⟩ := Kd.R_slice HO_9.out
         subst eo15
         have p333 : 0 ≤ (x26_1 : Int) := of_decide_eq_true (by first | (with_reducible assumption) | assumption)
         have q333 : x26_1 < (t325.length : Int) := of_decide_eq_true (by first | (with_reducible assumption) | assumption)
         obtain ⟨ad333, e333, hx333_0⟩ := Kd.at_int (Kd.R_reads' HO_9.out).2.2 x26_1 p333 q333
         cases e333
         replace p333 := eq_true p333
         replace q333 := eq_true q333
         have p334 : 0 ≤ (x26_1 : Int) := of_decide_eq_true (by first | (with_reducible assumption) | assumption)
         have q334 : x26_1 < (t325.length : Int) := of_decide_eq_true (by first | (with_reducible assumption) | assumption)
         obtain ⟨ad334, e334, hx334_0⟩ := Kd.at_int (Kd.R_reads' HO_9.out).2.2 x26_1 p334 q334
         obtain rfl : ad333 = ad334 := (by injection e334)
         replace p334 := eq_true p334
         replace q334 := eq_true q334
         go_wp2_with (first | (go_at_call 51; (with_reducible refine (impl_within.calls a2 (rd t325 x26_1) (wrap64 ((wrap64 ((rd t325 x26_1) + (rd l0 x26_1))) - 1)) false _ A12.out).mono ?_); rintro e w' ⟨rfl, ⟨nd, rfl⟩⟩; (try exact dd_)))
         repeat (go_quiet (first | (go_at_call 51; (with_reducible refine (impl_within.calls a2 (rd t325 x26_1) (wrap64 ((wrap64 ((rd t325 x26_1) + (rd l0 x26_1))) - 1)) false _ A12.out).mono ?_); rintro e w' ⟨rfl, ⟨nd, rfl⟩⟩; (try exact dd_))); try go_wp2_with (first | (go_at_call 51; (with_reducible refine (impl_within.calls a2 (rd t325 x26_1) (wrap64 ((wrap64 ((rd t325 x26_1) + (rd l0 x26_1))) - 1)) false _ A12.out).mono ?_); rintro e w' ⟨rfl, ⟨nd, rfl⟩⟩; (try exact dd_))))
         go_roundg k1
         case measure => have := HK1.out; omega
         case rel => exact ⟨(wrap64 (x26_1 + 1)), rs_, H', ⟨by have := HK1.out; omega⟩, ⟨rr_ HO_9.out⟩, ⟨bw_⟩⟩
       ·rw [if_neg c11] at H
        exact absurd H (by simp)
      ·rw [if_neg c10] at H
       exact absurd H (by simp)
     ·rw [if_neg c9] at H
      exact absurd H (by simp)
    ·rw [if_neg c8] at H
     have c8b0 : decide (x26_1 < (l0.length : Int)) = false := decide_eq_false c8
     clear c8
     simp only [Option.some.injEq, Prod.mk.injEq] at H
     obtain ⟨rfl, rfl, rfl⟩ := H
     go_wp2
     repeat (go_quiet (fail); try go_wp2)
     go_ret3
     exact ⟨by first | rfl | (simp [errW_none, errW_some] <;> rfl) | (simp [*, errW_none, errW_some] <;> rfl), bw_⟩
 ·replace c5 := Bool.eq_false_iff.mpr c5
  subst c5
  have H1 : (some (0, 0, false)) = some (r1, r2, r3) := by rw [if_neg (show ¬ (false = true) by decide)] at H; exact H
  clear H
  have H := H1
  clear H1
  simp only [Option.some.injEq, Prod.mk.injEq] at H
  obtain ⟨rfl, rfl, rfl⟩ := H
  go_enter Tryz.func29, Tryz.ntmps29
  go_wp2_with (first | (go_at_call 23; (with_reducible refine (impl_AreChapters.calls k _ _ l0 false _ ?side1 ?side2 A4.out).mono ?_); (case side1 => exact cr_ HR0.out); (case side2 => exact HC0.out); rintro e w' ⟨rfl, ⟨nd, rfl⟩⟩; (try exact dd_)))
  repeat (go_quiet (first | (go_at_call 23; (with_reducible refine (impl_AreChapters.calls k _ _ l0 false _ ?side1 ?side2 A4.out).mono ?_); (case side1 => exact cr_ HR0.out); (case side2 => exact HC0.out); rintro e w' ⟨rfl, ⟨nd, rfl⟩⟩; (try exact dd_))); try go_wp2_with (first | (go_at_call 23; (with_reducible refine (impl_AreChapters.calls k _ _ l0 false _ ?side1 ?side2 A4.out).mono ?_); (case side1 => exact cr_ HR0.out); (case side2 => exact HC0.out); rintro e w' ⟨rfl, ⟨nd, rfl⟩⟩; (try exact dd_))))
  go_ret3
  exact ⟨by first | rfl | (simp [errW_none, errW_some] <;> rfl) | (simp [*, errW_none, errW_some] <;> rfl), bw_⟩

/-! ### spec_ChapterOfPage: function 30 -/
mutual
def spec_ChapterOfPage.j0 : Nat → List Int → Bool → Int → Bool → Option (Int × Int × Bool)
 | 0, _, _, _, _ => none
 | k + 1, x0, x1, x2, x18 => if x18 = true then (some (0, 0, false)) else ((spec_caBegin.f k x0 x1).bind fun t338 => (spec_ChapterOfPage.l0 k x2 t338 x0 (x0.length : Int) 0))
def spec_ChapterOfPage.l0 : Nat → Int → List Int → List Int → Int → Int → Option (Int × Int × Bool)
 | 0, _, _, _, _, _ => none
 | k + 1, x2, x9, x22, x23, x24 => if x24 < x23 then (if 0 ≤ x24 then (if x24 < (x22.length : Int) then (if x24 < (x9.length : Int) then ((spec_l1In.f x2 (rd x9 x24) (wrap64 ((wrap64 ((rd x9 x24) + (rd x22 x24))) - 1))).bind fun t344 => (if t344 = true then (some (x24, wrap64 ((wrap64 (x2 - (rd x9 x24))) + 1), true)) else (spec_ChapterOfPage.l0 k x2 x9 x22 x23 (wrap64 (x24 + 1))))) else (none)) else (none)) else (none)) else (some (0, 0, false))
end
def spec_ChapterOfPage.f (k : Nat) (l0 : List Int) (a1 : Bool) (a2 : Int) : Option (Int × Int × Bool) := (spec_caGood.f k l0).bind fun t337 => (if t337 = true then (spec_ChapterOfPage.j0 k l0 a1 a2 (decide (a2 < 1))) else (spec_ChapterOfPage.j0 k l0 a1 a2 true))
theorem spec_ChapterOfPage.mono_l : ∀ k, (∀ y0 y1 y2 y3, LeO (spec_ChapterOfPage.j0 k y0 y1 y2 y3) (spec_ChapterOfPage.j0 (k + 1) y0 y1 y2 y3)) ∧ (∀ y0 y1 y2 y3 y4, LeO (spec_ChapterOfPage.l0 k y0 y1 y2 y3 y4) (spec_ChapterOfPage.l0 (k + 1) y0 y1 y2 y3 y4))
 | 0 => ⟨fun _ _ _ _ r h => by simp [spec_ChapterOfPage.j0] at h, fun _ _ _ _ _ r h => by simp [spec_ChapterOfPage.l0] at h⟩
 | k + 1 => by
  obtain ⟨ih0, ih1⟩ := spec_ChapterOfPage.mono_l k
  refine ⟨?_, ?_⟩
  ·intro y0 y1 y2 y3
   unfold spec_ChapterOfPage.j0
   repeat' first
   | (with_reducible exact ih0 _ _ _ _)
   | (with_reducible exact ih1 _ _ _ _ _)
   | (with_reducible exact spec_caBegin.mono _ _ _)
   | (with_reducible exact spec_caGood.mono _ _)
   | (with_reducible exact LeO.refl _)
   | (with_reducible exact LeO.none _)
   | (with_reducible refine LeO.ite ?_ ?_)
   | (with_reducible refine LeO.bind ?_ (fun _ => ?_))
   | exact ih0 _ _ _ _
   | exact ih1 _ _ _ _ _
   | exact spec_caBegin.mono _ _ _
   | exact spec_caGood.mono _ _
   | exact LeO.none _
   | refine LeO.ite ?_ ?_
   | refine LeO.bind ?_ (fun _ => ?_)
  ·intro y0 y1 y2 y3 y4
   unfold spec_ChapterOfPage.l0
   repeat' first
   | (with_reducible exact ih0 _ _ _ _)
   | (with_reducible exact ih1 _ _ _ _ _)
   | (with_reducible exact spec_caBegin.mono _ _ _)
   | (with_reducible exact spec_caGood.mono _ _)
   | (with_reducible exact LeO.refl _)
   | (with_reducible exact LeO.none _)
   | (with_reducible refine LeO.ite ?_ ?_)
   | (with_reducible refine LeO.bind ?_ (fun _ => ?_))
   | exact ih0 _ _ _ _
   | exact ih1 _ _ _ _ _
   | exact spec_caBegin.mono _ _ _
   | exact spec_caGood.mono _ _
   | exact LeO.none _
   | refine LeO.ite ?_ ?_
   | refine LeO.bind ?_ (fun _ => ?_)
theorem spec_ChapterOfPage.mono : ∀ a0 a1 a2 k, LeO (spec_ChapterOfPage.f k a0 a1 a2) (spec_ChapterOfPage.f (k + 1) a0 a1 a2) := by
 intro a0 a1 a2 k
 obtain ⟨ih0, ih1⟩ := spec_ChapterOfPage.mono_l k
 unfold spec_ChapterOfPage.f
 repeat' first
   | (with_reducible exact ih0 _ _ _ _)
   | (with_reducible exact ih1 _ _ _ _ _)
   | (with_reducible exact spec_caBegin.mono _ _ _)
   | (with_reducible exact spec_caGood.mono _ _)
   | (with_reducible exact LeO.refl _)
   | (with_reducible exact LeO.none _)
   | (with_reducible refine LeO.ite ?_ ?_)
   | (with_reducible refine LeO.bind ?_ (fun _ => ?_))
   | exact ih0 _ _ _ _
   | exact ih1 _ _ _ _ _
   | exact spec_caBegin.mono _ _ _
   | exact spec_caGood.mono _ _
   | exact LeO.none _
   | refine LeO.ite ?_ ?_
   | refine LeO.bind ?_ (fun _ => ?_)
set_option maxHeartbeats 8000000 in
set_option maxRecDepth 100000 in
theorem spec_ChapterOfPage.calls (k : Nat) (A0 : Option Addr) (c0 : Nat) (l0 : List Int) (a1 : Bool) (a2 : Int) (r1 : Int) (r2 : Int) (r3 : Bool) (w : World) (hr0 : Kd.C (Kd.int .i64) w A0 l0.length l0) (hc0 : l0.length ≤ c0) (h : spec_ChapterOfPage.f k l0 a1 a2 = some (r1, r2, r3)) :
  Calls Tryz.prog 30 #[.slice A0 l0.length c0, .bool a1, .int .i64 a2] w fun e w' => e = .returned (.tuple #[.int .i64 r1, .int .i64 r2, .bool r3]) ∧ Below w.heap.size w w' := by
 have HR0 := Aside0.mk hr0
 have HC0 := Aside0.mk hc0
 clear hr0 hc0
 have HB := Aside0.mk (Below.refl w.heap.size w)
 have H : ((spec_caGood.f k l0).bind fun t337 => (if t337 = true then (spec_ChapterOfPage.j0 k l0 a1 a2 (decide (a2 < 1))) else (spec_ChapterOfPage.j0 k l0 a1 a2 true))) = some (r1, r2, r3) := h
 clear h
 have HC4 := Aside0.mk H
 clear H
 go_enter Tryz.func30, Tryz.ntmps30
 go_upto_region 1 with (fail)
 repeat (go_quiet (fail); go_upto_region 1 with (fail))
 go_cut [18] (fun v18 wc => ∃ (kq : Nat) (x18_3 : Bool), v18 = .bool x18_3 ∧ Aside0 (spec_ChapterOfPage.j0 kq l0 a1 a2 x18_3 = some (r1, r2, r3)) ∧ Aside0 (kq ≤ k) ∧ Aside0 (Below w.heap.size w wc))
 case first =>
  have H := HC4.out
  clear HC4
  replace H := Option.bind_eq_some_iff.mp H
  obtain ⟨t337, A50, H⟩ := H
  replace H : (if t337 = true then (spec_ChapterOfPage.j0 k l0 a1 a2 (decide (a2 < 1))) else (spec_ChapterOfPage.j0 k l0 a1 a2 true)) = some (r1, r2, r3) := H
  have A5 := Aside0.mk A50
  clear A50
  by_cases c6 : t337 = true
  ·subst c6
   have H1 : (spec_ChapterOfPage.j0 k l0 a1 a2 (decide (a2 < 1))) = some (r1, r2, r3) := by rw [if_pos rfl] at H; exact H
   clear H
   have H := H1
   clear H1
   have H' := Aside0.mk H
   clear H
   go_wp2_with (first | (go_at_call 40; (with_reducible refine (spec_caGood.calls k _ _ l0 true _ ?side1 ?side2 A5.out).mono ?_); (case side1 => exact cr_ (Kd.C_below HR0.out HB.out)); (case side2 => exact HC0.out); rintro e w' ⟨rfl, ⟨nd, rfl⟩⟩; (try exact dd_)))
   repeat (go_quiet (first | (go_at_call 40; (with_reducible refine (spec_caGood.calls k _ _ l0 true _ ?side1 ?side2 A5.out).mono ?_); (case side1 => exact cr_ (Kd.C_below HR0.out HB.out)); (case side2 => exact HC0.out); rintro e w' ⟨rfl, ⟨nd, rfl⟩⟩; (try exact dd_))); try go_wp2_with (first | (go_at_call 40; (with_reducible refine (spec_caGood.calls k _ _ l0 true _ ?side1 ?side2 A5.out).mono ?_); (case side1 => exact cr_ (Kd.C_below HR0.out HB.out)); (case side2 => exact HC0.out); rintro e w' ⟨rfl, ⟨nd, rfl⟩⟩; (try exact dd_))))
   go_meet
   case rel => exact ⟨_, (decide (a2 < 1)), rs_, H', ⟨by first | omega | exact Nat.le_refl _⟩, ⟨bw_⟩⟩
  ·replace c6 := Bool.eq_false_iff.mpr c6
   subst c6
   have H1 : (spec_ChapterOfPage.j0 k l0 a1 a2 true) = some (r1, r2, r3) := by rw [if_neg (show ¬ (false = true) by decide)] at H; exact H
   clear H
   have H := H1
   clear H1
   have H' := Aside0.mk H
   clear H
   go_wp2_with (first | (go_at_call 40; (with_reducible refine (spec_caGood.calls k _ _ l0 false _ ?side1 ?side2 A5.out).mono ?_); (case side1 => exact cr_ (Kd.C_below HR0.out HB.out)); (case side2 => exact HC0.out); rintro e w' ⟨rfl, ⟨nd, rfl⟩⟩; (try exact dd_)))
   repeat (go_quiet (first | (go_at_call 40; (with_reducible refine (spec_caGood.calls k _ _ l0 false _ ?side1 ?side2 A5.out).mono ?_); (case side1 => exact cr_ (Kd.C_below HR0.out HB.out)); (case side2 => exact HC0.out); rintro e w' ⟨rfl, ⟨nd, rfl⟩⟩; (try exact dd_))); try go_wp2_with (first | (go_at_call 40; (with_reducible refine (spec_caGood.calls k _ _ l0 false _ ?side1 ?side2 A5.out).mono ?_); (case side1 => exact cr_ (Kd.C_below HR0.out HB.out)); (case side2 => exact HC0.out); rintro e w' ⟨rfl, ⟨nd, rfl⟩⟩; (try exact dd_))))
   go_meet
   case rel => exact ⟨_, (true), rs_, H', ⟨by first | omega | exact Nat.le_refl _⟩, ⟨bw_⟩⟩
 case rest =>
  clear HC4
  (try clear p2); (try clear c3); (try clear c6)
  obtain ⟨kq, x18_3, rfl, HA, HJ3, HB⟩ := hcut
  cases kq with
  | zero => exact absurd HA.out (by simp [spec_ChapterOfPage.j0])
  | succ kj3 =>
   have H := HA.out
   clear HA
   simp only [spec_ChapterOfPage.j0] at H
   by_cases c7 : x18_3 = true
   ·subst c7
    have H1 : (some (0, 0, false)) = some (r1, r2, r3) := by rw [if_pos rfl] at H; exact H
    clear H
    have H := H1
    clear H1
    simp only [Option.some.injEq, Prod.mk.injEq] at H
    obtain ⟨rfl, rfl, rfl⟩ := H
    go_wp2
    repeat (go_quiet (fail); try go_wp2)
    go_ret3
    exact ⟨by first | rfl | (simp [errW_none, errW_some] <;> rfl) | (simp [*, errW_none, errW_some] <;> rfl), bw_⟩
   ·replace c7 := Bool.eq_false_iff.mpr c7
    subst c7
    have H1 : ((spec_caBegin.f kj3 l0 a1).bind fun t338 => (spec_ChapterOfPage.l0 kj3 a2 t338 l0 (l0.length : Int) 0)) = some (r1, r2, r3) := by rw [if_neg (show ¬ (false = true) by decide)] at H; exact H
    clear H
    have H := H1
    clear H1
    replace H := Option.bind_eq_some_iff.mp H
    obtain ⟨t338, A80, H⟩ := H
    replace H : (spec_ChapterOfPage.l0 kj3 a2 t338 l0 (l0.length : Int) 0) = some (r1, r2, r3) := H
    have A8 := Aside0.mk A80
    clear A80
    have H' := Aside0.mk H
    clear H
    go_wp2_with (first | (go_at_call 41; (with_reducible refine (spec_caBegin.calls kj3 _ _ l0 a1 t338 _ ?side1 ?side2 A8.out).mono ?_); (case side1 => exact cr_ (Kd.C_below HR0.out HB.out)); (case side2 => exact HC0.out); rintro e w9 ⟨v339, rfl, ho0, hb⟩; have n0_ := Aside0.mk (Kd.R_lower ho0 (below_size bw_)); have n1_ := Aside0.mk (below_step bw_ hb); clear HB; have HO340 := n0_; have HB := n1_; clear n0_ n1_; (try clear hb); (try clear hb2); (try clear hk); (try clear hi); (try clear ho0)))
    repeat (go_quiet (first | (go_at_call 41; (with_reducible refine (spec_caBegin.calls kj3 _ _ l0 a1 t338 _ ?side1 ?side2 A8.out).mono ?_); (case side1 => exact cr_ (Kd.C_below HR0.out HB.out)); (case side2 => exact HC0.out); rintro e w9 ⟨v339, rfl, ho0, hb⟩; have n0_ := Aside0.mk (Kd.R_lower ho0 (below_size bw_)); have n1_ := Aside0.mk (below_step bw_ hb); clear HB; have HO340 := n0_; have HB := n1_; clear n0_ n1_; (try clear hb); (try clear hb2); (try clear hk); (try clear hi); (try clear ho0))); try go_wp2_with (first | (go_at_call 41; (with_reducible refine (spec_caBegin.calls kj3 _ _ l0 a1 t338 _ ?side1 ?side2 A8.out).mono ?_); (case side1 => exact cr_ (Kd.C_below HR0.out HB.out)); (case side2 => exact HC0.out); rintro e w9 ⟨v339, rfl, ho0, hb⟩; have n0_ := Aside0.mk (Kd.R_lower ho0 (below_size bw_)); have n1_ := Aside0.mk (below_step bw_ hb); clear HB; have HO340 := n0_; have HB := n1_; clear n0_ n1_; (try clear hb); (try clear hb2); (try clear hk); (try clear hi); (try clear ho0))))
    go_loopg [24] kj3 (fun kq v24 w' => ∃ (x24_2 : Int), v24 = .int .i64 x24_2 ∧ Aside0 (spec_ChapterOfPage.l0 kq a2 t338 l0 (l0.length : Int) x24_2 = some (r1, r2, r3)) ∧ Aside0 (kq ≤ kj3) ∧ Aside0 (Kd.R (Kd.int .i64) 3 w' w.heap.size (fun _ => True) v339 t338) ∧ Aside0 (Below w.heap.size w w'))
    case atStart => exact ⟨(0), rs_, H', ⟨Nat.le_refl _⟩, ⟨rr_ HO340.out⟩, ⟨bw_⟩⟩
    case round =>
     clear H'
     (try clear p2); (try clear c3); (try clear c6); (try clear c7)
     obtain ⟨x24_2, rfl, HA, HK2, HO_9, HB⟩ := hrel
     cases gk with
     | zero => exact absurd HA.out (by simp [spec_ChapterOfPage.l0])
     | succ k2 =>
      have H := HA.out
      clear HA
      simp only [spec_ChapterOfPage.l0] at H
      by_cases c10 : x24_2 < (l0.length : Int)
      ·rw [if_pos c10] at H
       have c10b0 : decide (x24_2 < (l0.length : Int)) = true := decide_eq_true c10
       clear c10
       by_cases c11 : 0 ≤ x24_2
       ·rw [if_pos c11] at H
        have c11b0 : decide (0 ≤ x24_2) = true := decide_eq_true c11
        clear c11
        by_cases c12 : x24_2 < (l0.length : Int)
        ·rw [if_pos c12] at H
         have c12b0 : decide (x24_2 < (l0.length : Int)) = true := decide_eq_true c12
         clear c12
         by_cases c13 : x24_2 < (t338.length : Int)
         ·rw [if_pos c13] at H
          have c13b0 : decide (x24_2 < (t338.length : Int)) = true := decide_eq_true c13
          clear c13
          replace H := Option.bind_eq_some_iff.mp H
          obtain ⟨t344, A140, H⟩ := H
          replace H : (if t344 = true then (some (x24_2, wrap64 ((wrap64 (a2 - (rd t338 x24_2))) + 1), true)) else (spec_ChapterOfPage.l0 k2 a2 t338 l0 (l0.length : Int) (wrap64 (x24_2 + 1)))) = some (r1, r2, r3) := H
          have A14 := Aside0.mk A140
          clear A140
          by_cases c15 : t344 = true
          ·subst c15
           have H1 : (some (x24_2, wrap64 ((wrap64 (a2 - (rd t338 x24_2))) + 1), true)) = some (r1, r2, r3) := by rw [if_pos rfl] at H; exact H
           clear H
           have H := H1
           clear H1
           simp only [Option.some.injEq, Prod.mk.injEq] at H
           obtain ⟨rfl, rfl, rfl⟩ := H
           have p341 : 0 ≤ (x24_2 : Int) := of_decide_eq_true (by first | (with_reducible assumption) | assumption)
           have q341 : x24_2 < (l0.length : Int) := of_decide_eq_true (by first | (with_reducible assumption) | assumption)
           obtain ⟨ad341, e341, hx341_0⟩ := Kd.at_int HR0.out x24_2 p341 q341
           cases e341
           replace hx341_0 := (HB.out.cell (World.block_lt_of_cell? w _ hx341_0)).trans hx341_0
           replace p341 := eq_true p341
           replace q341 := eq_true q341
           obtain ⟨Ao16, co16, eo16⟩ := Kd.R_slice HO_9.out
           subst eo16
           have p342 : 0 ≤ (x24_2 : Int) := of_decide_eq_true (by first | (with_reducible assumption) | assumption)
           have q342 : x24_2 < (t338.length : Int) := of_decide_eq_true (by first | (with_reducible assumption) | assumption)
           obtain ⟨ad342, e342, hx342_0⟩ := Kd.at_int (Kd.R_reads' HO_9.out).2.2 x24_2 p342 q342
           cases e342
           replace p342 := eq_true p342
           replace q342 := eq_true q342
           have p343 : 0 ≤ (x24_2 : Int) := of_decide_eq_true (by first | (with_reducible assumption) | assumption)
           have q343 : x24_2 < (t338.length : Int) := of_decide_eq_true (by first | (with_reducible assumption) | assumption)
           obtain ⟨ad343, e343, hx343_0⟩ := Kd.at_int (Kd.R_reads' HO_9.out).2.2 x24_2 p343 q343
           obtain rfl : ad342 = ad343 := (by injection e343)
           replace p343 := eq_true p343
           replace q343 := eq_true q343
           go_wp2_with (first | (go_at_call 55; (with_reducible refine (spec_l1In.calls a2 (rd t338 x24_2) (wrap64 ((wrap64 ((rd t338 x24_2) + (rd l0 x24_2))) - 1)) true _ A14.out).mono ?_); rintro e w' ⟨rfl, ⟨nd, rfl⟩⟩; (try exact dd_); all_goals (have p345 : 0 ≤ (x24_2 : Int) := of_decide_eq_true (by first | (with_reducible assumption) | assumption); have q345 : x24_2 < (t338.length : Int) := of_decide_eq_true (by first | (with_reducible assumption) | assumption); obtain ⟨ad345, e345, hx345_0⟩ := Kd.at_int (Kd.R_reads' HO_9.out).2.2 x24_2 p345 q345; obtain rfl : ad342 = ad345 := (by injection e345); replace p345 := eq_true p345; replace q345 := eq_true q345)))
           repeat (go_quiet (first | (go_at_call 55; (with_reducible refine (spec_l1In.calls a2 (rd t338 x24_2) (wrap64 ((wrap64 ((rd t338 x24_2) + (rd l0 x24_2))) - 1)) true _ A14.out).mono ?_); rintro e w' ⟨rfl, ⟨nd, rfl⟩⟩; (try exact dd_); all_goals (have p345 : 0 ≤ (x24_2 : Int) := of_decide_eq_true (by first | (with_reducible assumption) | assumption); have q345 : x24_2 < (t338.length : Int) := of_decide_eq_true (by first | (with_reducible assumption) | assumption); obtain ⟨ad345, e345, hx345_0⟩ := Kd.at_int (Kd.R_reads' HO_9.out).2.2 x24_2 p345 q345; obtain rfl : ad342 = ad345 := (by injection e345); replace p345 := eq_true p345; replace q345 := eq_true q345))); try go_wp2_with (first | (go_at_call 55; (with_reducible refine (spec_l1In.calls a2 (rd t338 x24_2) (wrap64 ((wrap64 ((rd t338 x24_2) + (rd l0 x24_2))) - 1)) true _ A14.out).mono ?_); rintro e w' ⟨rfl, ⟨nd, rfl⟩⟩; (try exact dd_); all_goals (have p345 : 0 ≤ (x24_2 : Int) := of_decide_eq_true (by first | (with_reducible assumption) | assumption); have q345 : x24_2 < (t338.length : Int) := of_decide_eq_true (by first | (with_reducible assumption) | assumption); obtain ⟨ad345, e345, hx345_0⟩ := Kd.at_int (Kd.R_reads' HO_9.out).2.2 x24_2 p345 q345; obtain rfl : ad342 = ad345 := (by injection e345); replace p345 := eq_true p345; replace q345 := eq_true q345))))
           go_ret3
           exact ⟨by first | rfl | (simp [errW_none, errW_some] <;> rfl) | (simp [*, errW_none, errW_some] <;> rfl), bw_⟩
          ·replace c15 := Bool.eq_false_iff.mpr c15
           subst c15
           have H1 : (spec_ChapterOfPage.l0 k2 a2 t338 l0 (l0.length : Int) (wrap64 (x24_2 + 1))) = some (r1, r2, r3) := by rw [if_neg (show ¬ (false = true) by decide)] at H; exact H
           clear H
           have H := H1
           clear H1
           have H' := Aside0.mk H
           clear H
           have p341 : 0 ≤ (x24_2 : Int) := of_decide_eq_true (by first | (with_reducible assumption) | assumption)
           have q341 : x24_2 < (l0.length : Int) := of_decide_eq_true (by first | (with_reducible assumption) | assumption)
           obtain ⟨ad341, e341, hx341_0⟩ := Kd.at_int HR0.out x24_2 p341 q341
           cases e341
           replace hx341_0 := (HB.out.cell (World.block_lt_of_cell? w _ hx341_0)).trans hx341_0
           replace p341 := eq_true p341
           replace q341 := eq_true q341
           obtain ⟨Ao17, co17, eo17⟩ := Kd.R_slice HO_9.out
           subst eo17
           have p342 : 0 ≤ (x24_2 : Int) := of_decide_eq_true (by first | (with_reducible assumption) | assumption)
           have q342 : x24_2 < (t338.length : Int) := of_decide_eq_true (by first | (with_reducible assumption) | assumption)
           obtain ⟨ad342, e342, hx342_0⟩ := Kd.at_int (Kd.R_reads' HO_9.out).2.2 x24_2 p342 q342
           cases e342
           replace p342 := eq_true p342
           replace q342 := eq_true q342
           have p343 : 0 ≤ (x24_2 : Int) := of_decide_eq_true (by first | (with_reducible assumption) | assumption)
           have q343 : x24_2 < (t338.length : Int) := of_decide_eq_true (by first | (with_reducible assumption) | assumption)
           obtain ⟨ad343, e343, hx343_0⟩ := Kd.at_int (Kd.R_reads' HO_9.out).2.2 x24_2 p343 q343
           obtain rfl : ad342 = ad343 := (by injection e343)
           replace p343 := eq_true p343
           replace q343 := eq_true q343
           go_wp2_with (first | (go_at_call 55; (with_reducible refine (spec_l1In.calls a2 (rd t338 x24_2) (wrap64 ((wrap64 ((rd t338 x24_2) + (rd l0 x24_2))) - 1)) false _ A14.out).mono ?_); rintro e w' ⟨rfl, ⟨nd, rfl⟩⟩; (try exact dd_)))
           repeat (go_quiet (first | (go_at_call 55; (with_reducible refine (spec_l1In.calls a2 (rd t338 x24_2) (wrap64 ((wrap64 ((rd t338 x24_2) + (rd l0 x24_2))) - 1)) false _ A14.out).mono ?_); rintro e w' ⟨rfl, ⟨nd, rfl⟩⟩; (try exact dd_))); try go_wp2_with (first | (go_at_call 55; (with_reducible refine (spec_l1In.calls a2 (rd t338 x24_2) (wrap64 ((wrap64 ((rd t338 x24_2) + (rd l0 x24_2))) - 1)) false _ A14.out).mono ?_); rintro e w' ⟨rfl, ⟨nd, rfl⟩⟩; (try exact dd_))))
           go_roundg k2
           case measure => have := HJ3.out; have := HK2.out; omega
           case rel => exact ⟨(wrap64 (x24_2 + 1)), rs_, H', ⟨by have := HJ3.out; have := HK2.out; omega⟩, ⟨rr_ HO_9.out⟩, ⟨bw_⟩⟩
         ·rw [if_neg c13] at H
          exact absurd H (by simp)
        ·rw [if_neg c12] at H
         exact absurd H (by simp)
       ·rw [if_neg c11] at H
        exact absurd H (by simp)
      ·rw [if_neg c10] at H
       have c10b0 : decide (x24_2 < (l0.length : Int)) = false := decide_eq_false c10
       clear c10
       simp only [Option.some.injEq, Prod.mk.injEq] at H
       obtain ⟨rfl, rfl, rfl⟩ := H
       go_wp2
       repeat (go_quiet (fail); try go_wp2)
       go_ret3
       exact ⟨by first | rfl | (simp [errW_none, errW_some] <;> rfl) | (simp [*, errW_none, errW_some] <;> rfl), bw_⟩

/-! ### spec_DrawMoveChapter: function 31 -/
def spec_DrawMoveChapter.f (k : Nat) (l0 : List Int) : Option (List Int × Int × Int) := ((spec_l1Cur_chapters.f k l0 0 0).bind fun b_a => ((spec_l1Cur_pick.f l0 b_a.2.1 b_a.2.2 (wrap64 ((b_a.1.length : Int) + 1))).bind fun b_p => ((spec_l1Cur_pick.f l0 b_p.2.1 b_p.2.2 9).bind fun b_q => ((spec_l1Cur_pick.f l0 b_q.2.1 b_q.2.2 (wrap64 ((b_a.1.length : Int) + 1))).bind fun b_r => some (b_a.1, wrap64 (b_p.1 - wrap64 (Int.tdiv b_q.1 8)), b_r.1)))))
theorem spec_DrawMoveChapter.mono : ∀ a0 k, LeO (spec_DrawMoveChapter.f k a0) (spec_DrawMoveChapter.f (k + 1) a0) := by
 intro a0 k
 unfold spec_DrawMoveChapter.f
 repeat' first
   | (with_reducible exact spec_l1Cur_chapters.mono _ _ _ _)
   | (with_reducible exact LeO.refl _)
   | (with_reducible exact LeO.none _)
   | (with_reducible refine LeO.ite ?_ ?_)
   | (with_reducible refine LeO.bind ?_ (fun _ => ?_))
set_option maxHeartbeats 8000000 in
set_option maxRecDepth 100000 in
theorem spec_DrawMoveChapter.calls (k : Nat) (A0 : Option Addr) (c0 : Nat) (l0 : List Int) (r1 : List Int) (r2 : Int) (r3 : Int) (w : World) (hr0 : Kd.C (Kd.int .u8) w A0 l0.length l0) (hc0 : l0.length ≤ c0) (h : spec_DrawMoveChapter.f k l0 = some (r1, r2, r3)) :
  Calls Tryz.prog 31 #[.slice A0 l0.length c0] w fun e w' => ∃ v0_ : Value, e = .returned (.tuple #[v0_, .int .i64 r2, .int .i64 r3]) ∧ Kd.R (Kd.int .i64) 3 w' w.heap.size (fun _ => True) v0_ r1 ∧ Below w.heap.size w w' := by
 have HR0 := Aside0.mk hr0
 clear hr0
 unfold spec_DrawMoveChapter.f at h
 obtain ⟨⟨t1_0, t1_1, t1_2⟩, A1, h⟩ := Option.bind_eq_some_iff.mp h
 have A1 := Aside0.mk A1
 simp only at h
 obtain ⟨⟨t2_0, t2_1, t2_2⟩, A2, h⟩ := Option.bind_eq_some_iff.mp h
 have A2 := Aside0.mk A2
 simp only at h
 obtain ⟨⟨t3_0, t3_1, t3_2⟩, A3, h⟩ := Option.bind_eq_some_iff.mp h
 have A3 := Aside0.mk A3
 simp only at h
 obtain ⟨⟨t4_0, t4_1, t4_2⟩, A4, h⟩ := Option.bind_eq_some_iff.mp h
 have A4 := Aside0.mk A4
 simp only at h
 simp only [Option.some.injEq, Prod.mk.injEq] at h
 obtain ⟨rfl, rfl, rfl⟩ := h
 have HB := Aside0.mk (Below.refl w.heap.size w)
 go_enter Tryz.func31, Tryz.ntmps31
 go_wp2_with (first | (go_at_call 37; (with_reducible refine (spec_l1Cur_chapters.calls k w.heap.size l0 0 0 t1_0 t1_1 t1_2 w _ ?side1 ?side2 A1.out).mono ?_); (case side1 => repeat (first | (with_reducible first | apply IsS52.drewN | apply IsS52.drew) | exact IsS52.new _ _ _ _ _ _ _ bw_ HR0.out)); (case side2 => exact bw_); rintro e w1 ⟨v1_0, rfl, ho0, hi, hb, hk⟩; have m0_ := Aside0.mk (Kd.R_lower ho0 (below_size bw_)); have nb_ := Aside0.mk hb; have ni_ := Aside0.mk hi; clear HB; (try clear HI0); have HB := nb_; have HI0 := ni_; clear nb_ ni_ hb hi hk; have HO10 := m0_; clear m0_ ho0; obtain ⟨Ao10, co10, eo10⟩ := Kd.R_slice HO10.out; subst eo10) | (go_at_call 54; (with_reducible refine (spec_l1Cur_pick.calls w.heap.size l0 t1_1 t1_2 ((wrap64 ((t1_0.length : Int) + 1))) t2_0 t2_1 t2_2 w _ ?side1 ?side2 A2.out).mono ?_); (case side1 => repeat (first | (with_reducible first | exact HI0.out | apply IsS52.alloc | apply IsS52.drewN | apply IsS52.drew) | exact HI0.out)); (case side2 => exact bw_); rintro e w2 ⟨rfl, hi, hb, hk⟩; have qHO10_ := Aside0.mk (Kd.R_mono (Kd.R_keep (IsS52.apart (show IsS52 w _ w.heap.size l0 t1_1 t1_2 from by repeat (first | (with_reducible first | exact HI0.out | apply IsS52.alloc | apply IsS52.drewN | apply IsS52.drew) | exact HI0.out)) (rr_ HO10.out) (by decide)) hk (fun _ h => h.2)) (fun _ h => h.1)); have nb_ := Aside0.mk hb; have ni_ := Aside0.mk hi; clear HB; (try clear HI0); clear HO10; have HB := nb_; have HI0 := ni_; clear nb_ ni_ hb hi hk; have HO10 := qHO10_; clear qHO10_) | (go_at_call 54; (with_reducible refine (spec_l1Cur_pick.calls w.heap.size l0 t2_1 t2_2 (9) t3_0 t3_1 t3_2 w _ ?side1 ?side2 A3.out).mono ?_); (case side1 => repeat (first | (with_reducible first | exact HI0.out | apply IsS52.alloc | apply IsS52.drewN | apply IsS52.drew) | exact HI0.out)); (case side2 => exact bw_); rintro e w3 ⟨rfl, hi, hb, hk⟩; have qHO10_ := Aside0.mk (Kd.R_mono (Kd.R_keep (IsS52.apart (show IsS52 w _ w.heap.size l0 t2_1 t2_2 from by repeat (first | (with_reducible first | exact HI0.out | apply IsS52.alloc | apply IsS52.drewN | apply IsS52.drew) | exact HI0.out)) (rr_ HO10.out) (by decide)) hk (fun _ h => h.2)) (fun _ h => h.1)); have nb_ := Aside0.mk hb; have ni_ := Aside0.mk hi; clear HB; (try clear HI0); clear HO10; have HB := nb_; have HI0 := ni_; clear nb_ ni_ hb hi hk; have HO10 := qHO10_; clear qHO10_) | (go_at_call 54; (with_reducible refine (spec_l1Cur_pick.calls w.heap.size l0 t3_1 t3_2 ((wrap64 ((t1_0.length : Int) + 1))) t4_0 t4_1 t4_2 w _ ?side1 ?side2 A4.out).mono ?_); (case side1 => repeat (first | (with_reducible first | exact HI0.out | apply IsS52.alloc | apply IsS52.drewN | apply IsS52.drew) | exact HI0.out)); (case side2 => exact bw_); rintro e w4 ⟨rfl, hi, hb, hk⟩; have qHO10_ := Aside0.mk (Kd.R_mono (Kd.R_keep (IsS52.apart (show IsS52 w _ w.heap.size l0 t3_1 t3_2 from by repeat (first | (with_reducible first | exact HI0.out | apply IsS52.alloc | apply IsS52.drewN | apply IsS52.drew) | exact HI0.out)) (rr_ HO10.out) (by decide)) hk (fun _ h => h.2)) (fun _ h => h.1)); have nb_ := Aside0.mk hb; have ni_ := Aside0.mk hi; clear HB; (try clear HI0); clear HO10; have HB := nb_; have HI0 := ni_; clear nb_ ni_ hb hi hk; have HO10 := qHO10_; clear qHO10_))
 go_ret3
 exact ⟨_, by first | rfl | (simp; done) | (simp [*]; done), by (with_reducible repeat (first | apply Kd.R_alloc | apply Kd.R_drewN | apply Kd.R_drew)); exact HO10.out, bw_⟩


/-! ### impl_MoveChapter: function 32 -/
def impl_MoveChapter.f (k : Nat) (l0 : List Int) (a1 : Int) (a2 : Int) : Option (List Int × Bool) := (impl_AreChapters.f k l0).bind fun t346 => (if t346 = true then ((impl_within.f a1 0 (wrap64 ((l0.length : Int) - 1))).bind fun t347 => (if t347 = true then ((impl_within.f a2 0 (wrap64 ((l0.length : Int) - 1))).bind fun t348 => (if t348 = true then ((impl_moved.f l0 a1 a2).bind fun t349 => (some (t349, true))) else (some (([] : List Int), false)))) else (some (([] : List Int), false)))) else (some (([] : List Int), false)))
theorem impl_MoveChapter.mono : ∀ a0 a1 a2 k, LeO (impl_MoveChapter.f k a0 a1 a2) (impl_MoveChapter.f (k + 1) a0 a1 a2) := by
 intro a0 a1 a2 k
 unfold impl_MoveChapter.f
 repeat' first
   | (with_reducible exact impl_AreChapters.mono _ _)
   | (with_reducible exact LeO.refl _)
   | (with_reducible exact LeO.none _)
   | (with_reducible refine LeO.ite ?_ ?_)
   | (with_reducible refine LeO.bind ?_ (fun _ => ?_))
   | exact impl_AreChapters.mono _ _
   | exact LeO.none _
   | refine LeO.ite ?_ ?_
   | refine LeO.bind ?_ (fun _ => ?_)
set_option maxHeartbeats 8000000 in
set_option maxRecDepth 100000 in
theorem impl_MoveChapter.calls (k : Nat) (A0 : Option Addr) (c0 : Nat) (l0 : List Int) (a1 : Int) (a2 : Int) (r1 : List Int) (r2 : Bool) (w : World) (hr0 : Kd.C (Kd.int .i64) w A0 l0.length l0) (hc0 : l0.length ≤ c0) (h : impl_MoveChapter.f k l0 a1 a2 = some (r1, r2)) :
  Calls Tryz.prog 32 #[.slice A0 l0.length c0, .int .i64 a1, .int .i64 a2] w fun e w' => ∃ v0_ : Value, e = .returned (.tuple #[v0_, .bool r2]) ∧ Kd.R (Kd.int .i64) 3 w' w.heap.size (fun _ => True) v0_ r1 ∧ Below w.heap.size w w' := by
 have HR0 := Aside0.mk hr0
 have HC0 := Aside0.mk hc0
 clear hr0 hc0
 have HB := Aside0.mk (Below.refl w.heap.size w)
 have H : ((impl_AreChapters.f k l0).bind fun t346 => (if t346 = true then ((impl_within.f a1 0 (wrap64 ((l0.length : Int) - 1))).bind fun t347 => (if t347 = true then ((impl_within.f a2 0 (wrap64 ((l0.length : Int) - 1))).bind fun t348 => (if t348 = true then ((impl_moved.f l0 a1 a2).bind fun t349 => (some (t349, true))) else (some (([] : List Int), false)))) else (some (([] : List Int), false)))) else (some (([] : List Int), false)))) = some (r1, r2) := h
 clear h
 replace H := Option.bind_eq_some_iff.mp H
 obtain ⟨t346, A40, H⟩ := H
 replace H : (if t346 = true then ((impl_within.f a1 0 (wrap64 ((l0.length : Int) - 1))).bind fun t347 => (if t347 = true then ((impl_within.f a2 0 (wrap64 ((l0.length : Int) - 1))).bind fun t348 => (if t348 = true then ((impl_moved.f l0 a1 a2).bind fun t349 => (some (t349, true))) else (some (([] : List Int), false)))) else (some (([] : List Int), false)))) else (some (([] : List Int), false))) = some (r1, r2) := H
 have A4 := Aside0.mk A40
 clear A40
 by_cases c5 : t346 = true
 ·subst c5
  have H1 : ((impl_within.f a1 0 (wrap64 ((l0.length : Int) - 1))).bind fun t347 => (if t347 = true then ((impl_within.f a2 0 (wrap64 ((l0.length : Int) - 1))).bind fun t348 => (if t348 = true then ((impl_moved.f l0 a1 a2).bind fun t349 => (some (t349, true))) else (some (([] : List Int), false)))) else (some (([] : List Int), false)))) = some (r1, r2) := by rw [if_pos rfl] at H; exact H
  clear H
  have H := H1
  clear H1
  replace H := Option.bind_eq_some_iff.mp H
  obtain ⟨t347, A60, H⟩ := H
  replace H : (if t347 = true then ((impl_within.f a2 0 (wrap64 ((l0.length : Int) - 1))).bind fun t348 => (if t348 = true then ((impl_moved.f l0 a1 a2).bind fun t349 => (some (t349, true))) else (some (([] : List Int), false)))) else (some (([] : List Int), false))) = some (r1, r2) := H
  have A6 := Aside0.mk A60
  clear A60
  by_cases c7 : t347 = true
  ·subst c7
   have H1 : ((impl_within.f a2 0 (wrap64 ((l0.length : Int) - 1))).bind fun t348 => (if t348 = true then ((impl_moved.f l0 a1 a2).bind fun t349 => (some (t349, true))) else (some (([] : List Int), false)))) = some (r1, r2) := by rw [if_pos rfl] at H; exact H
   clear H
   have H := H1
   clear H1
   replace H := Option.bind_eq_some_iff.mp H
   obtain ⟨t348, A80, H⟩ := H
   replace H : (if t348 = true then ((impl_moved.f l0 a1 a2).bind fun t349 => (some (t349, true))) else (some (([] : List Int), false))) = some (r1, r2) := H
   have A8 := Aside0.mk A80
   clear A80
   by_cases c9 : t348 = true
   ·subst c9
    have H1 : ((impl_moved.f l0 a1 a2).bind fun t349 => (some (t349, true))) = some (r1, r2) := by rw [if_pos rfl] at H; exact H
    clear H
    have H := H1
    clear H1
    replace H := Option.bind_eq_some_iff.mp H
    obtain ⟨t349, A100, H⟩ := H
    replace H : (some (t349, true)) = some (r1, r2) := H
    have A10 := Aside0.mk A100
    clear A100
    simp only [Option.some.injEq, Prod.mk.injEq] at H
    obtain ⟨rfl, rfl⟩ := H
    go_enter Tryz.func32, Tryz.ntmps32
    go_wp2_with (first | ((with_reducible refine gate_callee (f := 23) rfl ?_); refine goesL_ (some 9) rfl rfl Tryz.func23 (by kernel_rfl) rfl #[.slice A0 l0.length c0] rfl (by (try simp only [List.map_toArray, List.map_cons, List.map_nil]); first | done | rfl | (simp only [List.length_drop, List.length_take]; rfl)) ?_; (with_reducible refine (impl_AreChapters.calls k _ _ l0 true _ ?side1 ?side2 A4.out).mono ?_); (case side1 => exact cr_ HR0.out); (case side2 => exact HC0.out); rintro e w' ⟨rfl, ⟨nd, rfl⟩⟩; refine ⟨_, rfl, ?_⟩) | (go_at_call 51; (with_reducible refine (impl_within.calls a1 0 (wrap64 ((l0.length : Int) - 1)) true _ A6.out).mono ?_); rintro e w' ⟨rfl, ⟨nd, rfl⟩⟩) | (go_at_call 51; (with_reducible refine (impl_within.calls a2 0 (wrap64 ((l0.length : Int) - 1)) true _ A8.out).mono ?_); rintro e w' ⟨rfl, ⟨nd, rfl⟩⟩) | ((with_reducible refine gate_callee (f := 46) rfl ?_); refine goesL_ (some 30) rfl rfl Tryz.func46 (by kernel_rfl) rfl #[.slice A0 l0.length c0, .int .i64 a1, .int .i64 a2] rfl (by (try simp only [List.map_toArray, List.map_cons, List.map_nil]); first | done | rfl | (simp only [List.length_drop, List.length_take]; rfl)) ?_; (with_reducible refine (impl_moved.calls _ _ l0 a1 a2 t349 _ ?side1 ?side2 A10.out).mono ?_); (case side1 => exact cr_ HR0.out); (case side2 => exact HC0.out); rintro e w11 ⟨v350, rfl, ho0, hb⟩; refine ⟨_, rfl, ?_⟩; have n0_ := Aside0.mk (Kd.R_lower ho0 (below_size bw_)); have n1_ := Aside0.mk (below_step bw_ hb); clear HB; have HO351 := n0_; have HB := n1_; clear n0_ n1_; (try clear hb); (try clear hb2); (try clear hk); (try clear hi); (try clear ho0)))
    go_ret2
    exact ⟨_, by first | rfl | (simp [errW_none, errW_some] <;> rfl) | (simp [*, errW_none, errW_some] <;> rfl), by (with_reducible repeat (first | apply Kd.R_alloc | apply Kd.R_drewN | apply Kd.R_drew)); exact HO351.out, bw_⟩
   ·replace c9 := Bool.eq_false_iff.mpr c9
    subst c9
    have H1 : (some (([] : List Int), false)) = some (r1, r2) := by rw [if_neg (show ¬ (false = true) by decide)] at H; exact H
    clear H
    have H := H1
    clear H1
    simp only [Option.some.injEq, Prod.mk.injEq] at H
    obtain ⟨rfl, rfl⟩ := H
    go_enter Tryz.func32, Tryz.ntmps32
    go_wp2_with (first | ((with_reducible refine gate_callee (f := 23) rfl ?_); refine goesL_ (some 9) rfl rfl Tryz.func23 (by kernel_rfl) rfl #[.slice A0 l0.length c0] rfl (by (try simp only [List.map_toArray, List.map_cons, List.map_nil]); first | done | rfl | (simp only [List.length_drop, List.length_take]; rfl)) ?_; (with_reducible refine (impl_AreChapters.calls k _ _ l0 true _ ?side1 ?side2 A4.out).mono ?_); (case side1 => exact cr_ HR0.out); (case side2 => exact HC0.out); rintro e w' ⟨rfl, ⟨nd, rfl⟩⟩; refine ⟨_, rfl, ?_⟩) | (go_at_call 51; (with_reducible refine (impl_within.calls a1 0 (wrap64 ((l0.length : Int) - 1)) true _ A6.out).mono ?_); rintro e w' ⟨rfl, ⟨nd, rfl⟩⟩) | (go_at_call 51; (with_reducible refine (impl_within.calls a2 0 (wrap64 ((l0.length : Int) - 1)) false _ A8.out).mono ?_); rintro e w' ⟨rfl, ⟨nd, rfl⟩⟩))
    go_ret2
    exact ⟨_, by first | rfl | (simp [errW_none, errW_some] <;> rfl) | (simp [*, errW_none, errW_some] <;> rfl), by first | exact Kd.R_nil _ _ _ _ _ | exact Kd.N_nil _ _ _ _ _ | exact Kd.V_nil _ _ _ _ _ | exact Kd.Q_nil _ _ _ _ _ | exact Kd.S_nil _ _ _ _ _, bw_⟩
  ·replace c7 := Bool.eq_false_iff.mpr c7
   subst c7
   have H1 : (some (([] : List Int), false)) = some (r1, r2) := by rw [if_neg (show ¬ (false = true) by decide)] at H; exact H
   clear H
   have H := H1
   clear H1
   simp only [Option.some.injEq, Prod.mk.injEq] at H
   obtain ⟨rfl, rfl⟩ := H
   go_enter Tryz.func32, Tryz.ntmps32
   go_wp2_with (first | ((with_reducible refine gate_callee (f := 23) rfl ?_); refine goesL_ (some 9) rfl rfl Tryz.func23 (by kernel_rfl) rfl #[.slice A0 l0.length c0] rfl (by (try simp only [List.map_toArray, List.map_cons, List.map_nil]); first | done | rfl | (simp only [List.length_drop, List.length_take]; rfl)) ?_; (with_reducible refine (impl_AreChapters.calls k _ _ l0 true _ ?side1 ?side2 A4.out).mono ?_); (case side1 => exact cr_ HR0.out); (case side2 => exact HC0.out); rintro e w' ⟨rfl, ⟨nd, rfl⟩⟩; refine ⟨_, rfl, ?_⟩) | (go_at_call 51; (with_reducible refine (impl_within.calls a1 0 (wrap64 ((l0.length : Int) - 1)) false _ A6.out).mono ?_); rintro e w' ⟨rfl, ⟨nd, rfl⟩⟩))
   go_ret2
   exact ⟨_, by first | rfl | (simp [errW_none, errW_some] <;> rfl) | (simp [*, errW_none, errW_some] <;> rfl), by first | exact Kd.R_nil _ _ _ _ _ | exact Kd.N_nil _ _ _ _ _ | exact Kd.V_nil _ _ _ _ _ | exact Kd.Q_nil _ _ _ _ _ | exact Kd.S_nil _ _ _ _ _, bw_⟩
 ·replace c5 := Bool.eq_false_iff.mpr c5
  subst c5
  have H1 : (some (([] : List Int), false)) = some (r1, r2) := by rw [if_neg (show ¬ (false = true) by decide)] at H; exact H
  clear H
  have H := H1
  clear H1
  simp only [Option.some.injEq, Prod.mk.injEq] at H
  obtain ⟨rfl, rfl⟩ := H
  go_enter Tryz.func32, Tryz.ntmps32
  go_wp2_with (first | ((with_reducible refine gate_callee (f := 23) rfl ?_); refine goesL_ (some 9) rfl rfl Tryz.func23 (by kernel_rfl) rfl #[.slice A0 l0.length c0] rfl (by (try simp only [List.map_toArray, List.map_cons, List.map_nil]); first | done | rfl | (simp only [List.length_drop, List.length_take]; rfl)) ?_; (with_reducible refine (impl_AreChapters.calls k _ _ l0 false _ ?side1 ?side2 A4.out).mono ?_); (case side1 => exact cr_ HR0.out); (case side2 => exact HC0.out); rintro e w' ⟨rfl, ⟨nd, rfl⟩⟩; refine ⟨_, rfl, ?_⟩))
  go_ret2
  exact ⟨_, by first | rfl | (simp [errW_none, errW_some] <;> rfl) | (simp [*, errW_none, errW_some] <;> rfl), by first | exact Kd.R_nil _ _ _ _ _ | exact Kd.N_nil _ _ _ _ _ | exact Kd.V_nil _ _ _ _ _ | exact Kd.Q_nil _ _ _ _ _ | exact Kd.S_nil _ _ _ _ _, bw_⟩

end Go.Proofs.YtpedlkhfeoeogaaGreatDoor.PFnChaptersBegin
