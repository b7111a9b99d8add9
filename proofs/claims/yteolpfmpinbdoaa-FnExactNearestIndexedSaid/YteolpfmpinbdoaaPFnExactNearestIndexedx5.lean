-- Printed by a program of this repository (wip/xprint.py), over contracts of its own for what the kit's print does not take. Lean checks it.
import Derived.Test.YteolpfmpinbdoaaPFnExactNearestIndexedx0
import Derived.Test.YteolpfmpinbdoaaPFnExactNearestIndexedx1
import Derived.Test.YteolpfmpinbdoaaPFnExactNearestIndexedx3
import Derived.Test.YteolpfmpinbdoaaPFnExactNearestIndexedx4
namespace Go.Proofs.Yteolpfmpinbdoaa.PFnExactNearestIndexed
open Go.RowKit Go.Proofs.YteolpfmpinbdoaaW.PrintWords Go.Proofs.YteolpfmpinbdoaaW.PrintLast Go.Proofs.YteolpfmpinbdoaaW.PrintMore
attribute [local go_sem] max2_int min2_int max_two min_two max_three min_three max_four min_four   -- for this text's walks alone
set_option linter.unusedVariables false
set_option linter.unusedSimpArgs false

/-! ### impl_NearestIndexed: function 30 -/
set_option maxRecDepth 100000 in
theorem info63 : (Try.prog.info? 63).map (fun i => (i.zero, i.size, i.bytes)) = some (some (.agg (Array.replicate 2001 (.bool false))), 2001, 2001) := by kernel_rfl
set_option maxRecDepth 100000 in
theorem und63 : Try.prog.underlying 63 = some (.array 2001 4) := by kernel_rfl
theorem info4own : (Try.prog.info? 4).map (fun i => (i.zero, i.size, i.bytes)) = some (some (.bool false), 1, 1) := by kernel_rfl
theorem run_zero63 (W : World) : (zeroValue 63).run Try.prog W = .ok (.agg (Array.replicate 2001 (.bool false))) W := by
  obtain ⟨i, hi, hz, hs, _⟩ := info_parts info63
  generalize Array.replicate 2001 (Value.bool false) = Z at hz ⊢
  simp [hi, zeroValue, typeInfo, hz]
theorem R_arr63 {w : World} {g base : Nat} (hb : base ≤ g) (hh : w.heap[g]? = some (.cells (Array.replicate 2001 (.bool false)) 63 (0, 0))) : Kd.R Kd.bool 63 w base (fun _ => True) (.slice (some ⟨g, 0, none⟩) 2001 2001) (List.replicate 2001 false) := by
  refine Kd.R_of_own (enc := Value.bool) (h1 := fun _ => rfl) ?_ (fun _ _ => trivial)
  refine ⟨?_, .inr ⟨g, 2001, _, ?_, hb, hh, ?_, by decide, ?_, ?_⟩⟩
  · rw [encs_length, Nat.mul_one]
  · rw [List.length_replicate]
  · rw [List.length_replicate]; exact Nat.le_refl _
  · rw [Array.size_replicate]
  · rw [encs, List.map_replicate, List.length_replicate, Array.toList_replicate, List.take_replicate]; rfl
mutual
def impl_setOf.l0 : Nat → List Bool → List (S32) → Int → Int → Option (List Bool)
  | 0, _, _, _, _ => none
  | k + 1, x3, x8, x9, x10 => if x10 < x9 then (if 0 ≤ x10 then (if x10 < (x8.length : Int) then (impl_setOf.l1 k x3 ((rd_T32 x8 x10).f0) x8 x9 x10 ((rd_T32 x8 x10).f0) ((rd_T32 x8 x10).f1)) else (none)) else (none)) else (some x3)
def impl_setOf.l1 : Nat → List Bool → Int → List (S32) → Int → Int → Int → Int → Option (List Bool)
  | 0, _, _, _, _, _, _, _ => none
  | k + 1, x3, x6, x8, x9, x10, x130000, x130001 => if x6 ≤ x130001 then (if 0 ≤ x6 then (if x6 < 2001 then (impl_setOf.l1 k (x3.set (x6 : Int).toNat true) (wrap64 (x6 + 1)) x8 x9 x10 x130000 x130001) else (none)) else (none)) else (impl_setOf.l0 k x3 x8 x9 (wrap64 (x10 + 1)))
end
def impl_setOf.f (k : Nat) (l0 : List (S32)) : Option (List Bool) := impl_setOf.l0 k (List.replicate 2001 false) l0 (l0.length : Int) 0
theorem impl_setOf.mono_l : ∀ k, (∀ y0 y1 y2 y3, LeO (impl_setOf.l0 k y0 y1 y2 y3) (impl_setOf.l0 (k + 1) y0 y1 y2 y3)) ∧ (∀ y0 y1 y2 y3 y4 y5 y6, LeO (impl_setOf.l1 k y0 y1 y2 y3 y4 y5 y6) (impl_setOf.l1 (k + 1) y0 y1 y2 y3 y4 y5 y6))
  | 0 => ⟨fun _ _ _ _ r h => by simp [impl_setOf.l0] at h, fun _ _ _ _ _ _ _ r h => by simp [impl_setOf.l1] at h⟩
  | k + 1 => by
    obtain ⟨ih0, ih1⟩ := impl_setOf.mono_l k
    refine ⟨?_, ?_⟩
    · intro y0 y1 y2 y3
      unfold impl_setOf.l0
      repeat' first
      | exact ih0 _ _ _ _
      | exact ih1 _ _ _ _ _ _ _
      | exact LeO.none _
      | exact LeO.refl _
      | refine LeO.ite ?_ ?_
    · intro y0 y1 y2 y3 y4 y5 y6
      unfold impl_setOf.l1
      repeat' first
      | exact ih0 _ _ _ _
      | exact ih1 _ _ _ _ _ _ _
      | exact LeO.none _
      | exact LeO.refl _
      | refine LeO.ite ?_ ?_
theorem impl_setOf.mono : ∀ a0 k, LeO (impl_setOf.f k a0) (impl_setOf.f (k + 1) a0) := fun _ k => (impl_setOf.mono_l k).1 _ _ _ _
set_option maxHeartbeats 8000000 in
set_option maxRecDepth 100000 in
theorem impl_setOf.calls (k : Nat) (A0 : Option Addr) (c0 : Nat) (l0 : List (S32)) (r : List Bool) (w : World) (hr0 : Kd.C k32 w A0 l0.length l0) (hc0 : l0.length ≤ c0) (h : impl_setOf.f k l0 = some r) :
    Calls Try.prog 43 #[.slice A0 l0.length c0] w fun e w' => ∃ g, e = .returned (.pointer (some ⟨g, 0, none⟩)) ∧ Kd.R Kd.bool 63 w' w.heap.size (fun _ => True) (.slice (some ⟨g, 0, none⟩) 2001 2001) r ∧ Below w.heap.size w w' := by
  have hu32 := Try.underlying32
  have hu63 := und63
  obtain ⟨i4, hi4, _, hs4, _⟩ := info_parts info4own
  have HR0 := Aside0.mk hr0
  have HC0 := Aside0.mk hc0
  clear hr0 hc0
  have HB := Aside0.mk (Below.refl w.heap.size w)
  obtain ⟨y125, hy125⟩ : ∃ y_ : List Bool, y_ = (List.replicate 2001 false) := ⟨_, rfl⟩
  have H' : Aside0 (impl_setOf.l0 k y125 l0 (l0.length : Int) 0 = some r) := ⟨by rw [hy125]; exact h⟩
  clear h
  have Ny125 := Aside0.mk hy125
  clear hy125
  obtain ⟨Z, hZ⟩ : ∃ Z, Z = Array.replicate 2001 (Value.bool false) := ⟨_, rfl⟩
  have NZ := Aside0.mk hZ
  have hbd : ∀ W, (zeroValue 63).run Try.prog W = .ok (.agg Z) W := fun W => by rw [hZ]; exact run_zero63 W
  clear hZ
  go_enter Try.func43, Try.ntmps43
  go_wp2
  go_loopg [11] k (fun kq v10 w' => ∃ (x3_1 : List Bool) (x10_1 : Int), v10 = .int .i64 x10_1 ∧ Aside0 (impl_setOf.l0 kq x3_1 l0 (l0.length : Int) x10_1 = some r) ∧ Aside0 (kq ≤ k) ∧ Aside0 (Kd.R Kd.bool 63 w' w.heap.size (fun _ => True) (.slice (some ⟨w.heap.size, 0, none⟩) 2001 2001) x3_1) ∧ Aside0 (Below w.heap.size w w'))
  case atStart => exact ⟨(y125), (0), rfl, H', ⟨Nat.le_refl _⟩, ⟨by rw [Ny125.out]; exact R_arr63 (Nat.le_refl _) (by rw [NZ.out]; exact blk_new _ _)⟩, ⟨by repeat (first | (with_reducible first | exact HB.out | apply below_alloc | apply pw_below_drewN | apply below_drew1) | exact HB.out)⟩⟩
  case round =>
      clear H'
      obtain ⟨x3_1, x10_1, rfl, HA, HK1, HO_3, HB⟩ := hrel
      cases gk with
      | zero => exact absurd HA.out (by simp [impl_setOf.l0])
      | succ k1 =>
        have H := HA.out
        clear HA
        simp only [impl_setOf.l0] at H
        by_cases c5 : x10_1 < (l0.length : Int)
        · rw [if_pos c5] at H
          have c5b0 : decide (x10_1 < (l0.length : Int)) = true := decide_eq_true c5
          clear c5
          by_cases c6 : 0 ≤ x10_1
          · rw [if_pos c6] at H
            have c6b0 : decide (0 ≤ x10_1) = true := decide_eq_true c6
            clear c6
            by_cases c7 : x10_1 < (l0.length : Int)
            · rw [if_pos c7] at H
              have c7b0 : decide (x10_1 < (l0.length : Int)) = true := decide_eq_true c7
              clear c7
              have H' := Aside0.mk H
              clear H
              have p128 : 0 ≤ (x10_1 : Int) := of_decide_eq_true (by first | (with_reducible assumption) | assumption)
              have q128 : x10_1 < (l0.length : Int) := of_decide_eq_true (by first | (with_reducible assumption) | assumption)
              obtain ⟨ad128, e128, hx128_0, hx128_1⟩ := at_T32 HR0.out x10_1 p128 q128
              cases e128
              replace hx128_0 := (HB.out.cell (World.block_lt_of_cell? w _ hx128_0)).trans hx128_0
              replace hx128_1 := (HB.out.cell (World.block_lt_of_cell? w _ hx128_1)).trans hx128_1
              replace p128 := eq_true p128
              replace q128 := eq_true q128
              go_wp2_with (first | ((with_reducible refine gate_dst (N := 5) rfl ?_); refine box_event ?hg (N := 5) ?hd (cs := #[.int .i64 0, .int .i64 0]) (t := 32) ?hr ?_; (case hd => rfl); (case hg => rfl); (case hr => first | (go_simp; done) | (go_simp; rfl)); intro gb129 hg w8 hbox hb; have n0_ := Aside0.mk (Kd.R_below (by (with_reducible repeat (first | apply Kd.R_alloc | apply Kd.R_drewN | apply Kd.R_drew)); exact HO_3.out) hb); have n1_ := Aside0.mk (below_step (by repeat (first | (with_reducible first | exact HB.out | apply below_alloc | apply pw_below_drewN | apply below_drew1) | exact HB.out)) hb); have n2_ := Aside0.mk (hbox); have n3_ := Aside0.mk ((by rw [hg]; exact (below_size (by repeat (first | (with_reducible first | exact HB.out | apply below_alloc | apply pw_below_drewN | apply below_drew1) | exact HB.out))) : w.heap.size ≤ gb129)); have n4_ := Aside0.mk ((by rw [hg]; exact (below_size (by repeat (first | (with_reducible first | exact HB.out | apply below_alloc | apply pw_below_drewN | apply below_drew1) | exact HB.out))) : w.heap.size ≤ gb129)); clear HO_3; clear HB; have HO_3 := n0_; have HB := n1_; have BK129 := n2_; have GW129 := n3_; have GE129 := n4_; clear n0_ n1_ n2_ n3_ n4_; clear hb hbox hg; have hcz9_0 : w8.cell? ⟨gb129, 0, none⟩ = some (.int .i64 0) := (blk_cell BK129.out 0).trans rfl; have hcz9_1 : w8.cell? ⟨gb129, 1, none⟩ = some (.int .i64 0) := (blk_cell BK129.out 1).trans rfl; have hfz9_0 := blk_frozen BK129.out 0; have hfz9_1 := blk_frozen BK129.out 1))
              go_loopg [6] k1 (fun kq v6 w' => ∃ (x3_2 : List Bool) (x6_2 : Int), v6 = .int .i64 x6_2 ∧ Aside0 (impl_setOf.l1 kq x3_2 x6_2 l0 (l0.length : Int) x10_1 ((rd_T32 l0 x10_1).f0) ((rd_T32 l0 x10_1).f1) = some r) ∧ Aside0 (kq ≤ k1) ∧ Aside0 (Kd.R Kd.bool 63 w' w.heap.size (fun _ => True) (.slice (some ⟨w.heap.size, 0, none⟩) 2001 2001) x3_2) ∧ Aside0 (w'.heap[gb129]? = some (.cells #[.int .i64 ((rd_T32 l0 x10_1).f0), .int .i64 ((rd_T32 l0 x10_1).f1)] 32 (0, 0))) ∧ Aside0 (Below w.heap.size w w'))
              case atStart => exact ⟨(x3_1), ((rd_T32 l0 x10_1).f0), (by first | rfl | (simp; done) | (simp [*]; done)), H', ⟨Nat.le_refl _⟩, ⟨by (with_reducible repeat (first | apply Kd.R_alloc | apply Kd.R_drewN | apply Kd.R_drew)); exact Kd.R_mono (Kd.R_far (p := ⟨gb129, 1, none⟩) (Kd.R_far (p := ⟨gb129, 0, none⟩) (Kd.R_types HO_3.out BK129.out (by decide)) (fun _ hk => hk.2) (.int .i64 ((rd_T32 l0 x10_1).f0))) (fun _ hk => hk.2) (.int .i64 ((rd_T32 l0 x10_1).f1))) (fun _ hk => trivial)⟩, ⟨by (with_reducible repeat (first | refine blk_drewN ?_ _ | refine blk_drew ?_ | refine blk_alloc ?_ _)); refine blk_put (cs := #[.int .i64 ((rd_T32 l0 x10_1).f0), .int .i64 0]) ?_ 1 _ rfl; (with_reducible repeat (first | refine blk_drewN ?_ _ | refine blk_drew ?_ | refine blk_alloc ?_ _)); refine blk_put (cs := #[.int .i64 0, .int .i64 0]) ?_ 0 _ rfl; (with_reducible repeat (first | refine blk_drewN ?_ _ | refine blk_drew ?_ | refine blk_alloc ?_ _)); exact BK129.out⟩, ⟨by repeat (first | (with_reducible first | exact HB.out | apply below_alloc | apply pw_below_drewN | apply below_drew1 | refine below_set ?_ GE129.out) | exact HB.out)⟩⟩
              case round =>
                clear H' c5b0 c6b0 c7b0 hcz9_0 hcz9_1 hfz9_0 hfz9_1 hx128_0 hx128_1 p128 q128
                obtain ⟨x3_2, x6_2, rfl, HA, HK2, HO_3, BK129, HB⟩ := hrel
                cases gk with
                | zero => exact absurd HA.out (by simp [impl_setOf.l1])
                | succ k2 =>
                  have H := HA.out
                  clear HA
                  simp only [impl_setOf.l1] at H
                  by_cases c10 : x6_2 ≤ ((rd_T32 l0 x10_1).f1)
                  · rw [if_pos c10] at H
                    have c10b0 : decide (x6_2 ≤ ((rd_T32 l0 x10_1).f1)) = true := decide_eq_true c10
                    clear c10
                    by_cases c11 : 0 ≤ x6_2
                    · rw [if_pos c11] at H
                      have c11b0 : decide (0 ≤ x6_2) = true := decide_eq_true c11
                      clear c11
                      by_cases c12 : x6_2 < 2001
                      · rw [if_pos c12] at H
                        have c12b0 : decide (x6_2 < 2001) = true := decide_eq_true c12
                        clear c12
                        obtain ⟨y130, hy130⟩ : ∃ y_ : List Bool, y_ = (x3_2.set (x6_2 : Int).toNat true) := ⟨_, rfl⟩
                        replace H : (impl_setOf.l1 k2 y130 (wrap64 (x6_2 + 1)) l0 (l0.length : Int) x10_1 ((rd_T32 l0 x10_1).f0) ((rd_T32 l0 x10_1).f1)) = some r := by rw [hy130]; exact H
                        have Ny130 := Aside0.mk hy130
                        clear hy130
                        have H' := Aside0.mk H
                        clear H
                        have hcz14_0 : wr.cell? ⟨gb129, 0, none⟩ = some (.int .i64 ((rd_T32 l0 x10_1).f0)) := (blk_cell BK129.out 0).trans rfl
                        have hcz14_1 : wr.cell? ⟨gb129, 1, none⟩ = some (.int .i64 ((rd_T32 l0 x10_1).f1)) := (blk_cell BK129.out 1).trans rfl
                        have hfz14_0 := blk_frozen BK129.out 0
                        have hfz14_1 := blk_frozen BK129.out 1
                        have p13 : 0 ≤ (x6_2 : Int) := of_decide_eq_true (by first | (with_reducible assumption) | assumption)
                        have q13 : (x6_2 : Int) < 2001 := of_decide_eq_true (by first | (with_reducible assumption) | assumption)
                        have nl13 : ¬ x6_2 < 0 := by omega
                        obtain ⟨hx13_0, hf13_0⟩ := Kd.R_celln false HO_3.out (x6_2 : Int) p13 (by exact q13)
                        replace p13 := eq_true p13
                        replace q13 := eq_true q13
                        have HP15 := Kd.R_putg HO_3.out (x6_2 : Int) true
                        go_wp2_with (first | ((with_reducible refine gate_store (t := 4) (p := 26) rfl ?_); refine store_event (t := 4) (p := 26) (v := ?vo_w16) (w1 := (wr.setCell ⟨w.heap.size, (x6_2 : Int).toNat, none⟩ (.bool true))) ?hg ?ho ?hn ?hr ?_; (case ho => rfl); (case hg => rfl); (case hn => rfl); (case hr => first | (go_simp; done) | (go_simp; rfl)); intro w16 hw; have hg : wr.grownBy w16 (some w.heap.size) := (by rw [hw]; exact HP15.2); have hp_ : Kd.R Kd.bool 63 w16 w.heap.size (fun _ => True) (.slice (some ⟨w.heap.size, 0, none⟩) 2001 2001) y130 := (by rw [hw, Ny130.out]; exact HP15.1); clear HP15; have n0_ := Aside0.mk (hp_); have n1_ := Aside0.mk (blk_grown (g := gb129) (o := .cells #[.int .i64 ((rd_T32 l0 x10_1).f0), .int .i64 ((rd_T32 l0 x10_1).f1)] 32 (0, 0)) (by (with_reducible repeat (first | refine blk_drewN ?_ _ | refine blk_drew ?_ | refine blk_alloc ?_ _)); exact BK129.out) hg (Kd.R_ne HO_3.out BK129.out (by decide))); have n2_ := Aside0.mk ((by rw [hw]; exact below_set (HB.out) (Nat.le_refl _) : Below w.heap.size w w16)); clear HO_3; clear BK129; clear HB; have HO_3 := n0_; have BK129 := n1_; have HB := n2_; clear n0_ n1_ n2_; clear hg hw hp_))
                        go_roundg k2
                        case measure => have := HK1.out; have := HK2.out; omega
                        case rel => exact ⟨(y130), (wrap64 (x6_2 + 1)), (by first | rfl | (simp; done) | (simp [*]; done)), H', ⟨by have := HK1.out; have := HK2.out; omega⟩, ⟨by (with_reducible repeat (first | apply Kd.R_alloc | apply Kd.R_drewN | apply Kd.R_drew)); exact HO_3.out⟩, ⟨by (with_reducible repeat (first | refine blk_drewN ?_ _ | refine blk_drew ?_ | refine blk_alloc ?_ _)); exact BK129.out⟩, ⟨by repeat (first | (with_reducible first | exact HB.out | apply below_alloc | apply pw_below_drewN | apply below_drew1 | refine below_set ?_ GE129.out) | exact HB.out)⟩⟩
                      · rw [if_neg c12] at H
                        exact absurd H (by simp)
                    · rw [if_neg c11] at H
                      exact absurd H (by simp)
                  · rw [if_neg c10] at H
                    have c10b0 : decide (x6_2 ≤ ((rd_T32 l0 x10_1).f1)) = false := decide_eq_false c10
                    clear c10
                    have H' := Aside0.mk H
                    clear H
                    have hcz17_0 : wr.cell? ⟨gb129, 0, none⟩ = some (.int .i64 ((rd_T32 l0 x10_1).f0)) := (blk_cell BK129.out 0).trans rfl
                    have hcz17_1 : wr.cell? ⟨gb129, 1, none⟩ = some (.int .i64 ((rd_T32 l0 x10_1).f1)) := (blk_cell BK129.out 1).trans rfl
                    have hfz17_0 := blk_frozen BK129.out 0
                    have hfz17_1 := blk_frozen BK129.out 1
                    go_wp2
                    go_roundg k2
                    case measure => have := HK1.out; have := HK2.out; omega
                    case rel => exact ⟨(x3_2), (wrap64 (x10_1 + 1)), (by first | rfl | (simp; done) | (simp [*]; done)), H', ⟨by have := HK1.out; have := HK2.out; omega⟩, ⟨by (with_reducible repeat (first | apply Kd.R_alloc | apply Kd.R_drewN | apply Kd.R_drew)); exact HO_3.out⟩, ⟨by repeat (first | (with_reducible first | exact HB.out | apply below_alloc | apply pw_below_drewN | apply below_drew1 | refine below_set ?_ GE129.out) | exact HB.out)⟩⟩
            · rw [if_neg c7] at H
              exact absurd H (by simp)
          · rw [if_neg c6] at H
            exact absurd H (by simp)
        · rw [if_neg c5] at H
          have c5b0 : decide (x10_1 < (l0.length : Int)) = false := decide_eq_false c5
          clear c5
          obtain rfl := Option.some.inj H
          go_wp2
          go_ret
          exact ⟨_, by first | rfl | (simp [errW_none, errW_some] <;> rfl) | (simp [*, errW_none, errW_some] <;> rfl), by (with_reducible repeat (first | apply Kd.R_alloc | apply Kd.R_drewN | apply Kd.R_drew)); exact HO_3.out, by repeat (first | (with_reducible first | exact HB.out | apply below_alloc | apply pw_below_drewN | apply below_drew1) | exact HB.out)⟩
mutual
def impl_NearestIndexed.l0 : Nat → Int → List Bool → Int → Option (Int × Bool)
  | 0, _, _, _ => none
  | k + 1, a1, s, d => if d < 2000 then (impl_NearestIndexed.l1 k a1 s d 0) else (some (0, false))
def impl_NearestIndexed.l1 : Nat → Int → List Bool → Int → Int → Option (Int × Bool)
  | 0, _, _, _, _ => none
  | k + 1, a1, s, d, j => if j = 0 then ((impl_isIndexed.f (wrap64 (a1 - d))).bind fun t => (if t = true then (if 0 ≤ wrap64 (a1 - d) then (if wrap64 (a1 - d) < 2001 then (if rdOf false s (wrap64 (a1 - d)) = true then (some (wrap64 (a1 - d), true)) else (impl_NearestIndexed.l1 k a1 s d 1)) else none) else none) else (impl_NearestIndexed.l1 k a1 s d 1)))
    else (if j = 1 then ((impl_isIndexed.f (wrap64 (a1 + d))).bind fun t => (if t = true then (if 0 ≤ wrap64 (a1 + d) then (if wrap64 (a1 + d) < 2001 then (if rdOf false s (wrap64 (a1 + d)) = true then (some (wrap64 (a1 + d), true)) else (impl_NearestIndexed.l1 k a1 s d 2)) else none) else none) else (impl_NearestIndexed.l1 k a1 s d 2)))
    else (impl_NearestIndexed.l0 k a1 s (wrap64 (d + 1))))
end
def impl_NearestIndexed.f (k : Nat) (l0 : List (S32)) (a1 : Int) : Option (Int × Bool) := (impl_AreRanges.f k l0).bind fun t1 => (if t1 = true then ((impl_isIndexed.f a1).bind fun t2 => (if t2 = true then ((impl_setOf.f k l0).bind fun s => (impl_NearestIndexed.l0 k a1 s 0)) else (some (0, false)))) else (some (0, false)))
theorem impl_NearestIndexed.mono_l : ∀ k, (∀ y0 y1 y2, LeO (impl_NearestIndexed.l0 k y0 y1 y2) (impl_NearestIndexed.l0 (k + 1) y0 y1 y2)) ∧ (∀ y0 y1 y2 y3, LeO (impl_NearestIndexed.l1 k y0 y1 y2 y3) (impl_NearestIndexed.l1 (k + 1) y0 y1 y2 y3))
  | 0 => ⟨fun _ _ _ r h => by simp [impl_NearestIndexed.l0] at h, fun _ _ _ _ r h => by simp [impl_NearestIndexed.l1] at h⟩
  | k + 1 => by
    obtain ⟨ih0, ih1⟩ := impl_NearestIndexed.mono_l k
    refine ⟨?_, ?_⟩
    · intro y0 y1 y2
      unfold impl_NearestIndexed.l0
      repeat' first
      | exact ih1 _ _ _ _
      | exact LeO.none _
      | exact LeO.refl _
      | refine LeO.ite ?_ ?_
    · intro y0 y1 y2 y3
      unfold impl_NearestIndexed.l1
      repeat' first
      | exact ih0 _ _ _
      | exact ih1 _ _ _ _
      | exact LeO.none _
      | exact LeO.refl _
      | refine LeO.ite ?_ ?_
      | refine LeO.bind ?_ (fun _ => ?_)
theorem impl_NearestIndexed.mono : ∀ a0 a1 k, LeO (impl_NearestIndexed.f k a0 a1) (impl_NearestIndexed.f (k + 1) a0 a1) := by
  intro a0 a1 k
  unfold impl_NearestIndexed.f
  repeat' first
      | exact impl_AreRanges.mono _ _
      | exact impl_setOf.mono _ _
      | exact (impl_NearestIndexed.mono_l k).1 _ _ _
      | exact LeO.none _
      | exact LeO.refl _
      | refine LeO.ite ?_ ?_
      | refine LeO.bind ?_ (fun _ => ?_)
theorem info3own : (Try.prog.info? 3).map (fun i => (i.zero, i.size, i.bytes)) = some (some (.int .i64 0), 1, 8) := by kernel_rfl
theorem und61 : Try.prog.underlying 61 = some (.array 2 3) := by kernel_rfl
theorem info61 : (Try.prog.info? 61).map (fun i => (i.zero, i.size, i.bytes)) = some (some (.agg #[.int .i64 0, .int .i64 0]), 2, 16) := by kernel_rfl
theorem und3own : Try.prog.underlying 3 = some (.int .i64) := by kernel_rfl
theorem run_index0 (x y : Int) (W : World) : (Instr.index 61 (.agg #[.int .i64 x, .int .i64 y]) (.int .i64 0)).run Try.prog W = .ok (.int .i64 x) W := by
  obtain ⟨i3, hi3, _, hs3, _⟩ := info_parts info3own
  simp [Instr.index, asIntOf, run_underlying und61, part, isAgg, sizeOf, typeInfo, hi3, hs3, run_underlying und3own]
theorem run_index1 (x y : Int) (W : World) : (Instr.index 61 (.agg #[.int .i64 x, .int .i64 y]) (.int .i64 1)).run Try.prog W = .ok (.int .i64 y) W := by
  obtain ⟨i3, hi3, _, hs3, _⟩ := info_parts info3own
  simp [Instr.index, asIntOf, run_underlying und61, part, isAgg, sizeOf, typeInfo, hi3, hs3, run_underlying und3own]
theorem run_zero61 (W : World) : (zeroValue 61).run Try.prog W = .ok (.agg #[.int .i64 0, .int .i64 0]) W := by
  obtain ⟨i, hi, hz, hs, _⟩ := info_parts info61
  simp [hi, zeroValue, typeInfo, hz]
set_option maxHeartbeats 8000000 in
set_option maxRecDepth 100000 in
theorem impl_NearestIndexed.calls (k : Nat) (A0 : Option Addr) (c0 : Nat) (l0 : List (S32)) (a1 : Int) (r1 : Int) (r2 : Bool) (w : World) (hr0 : Kd.C k32 w A0 l0.length l0) (hc0 : l0.length ≤ c0) (h : impl_NearestIndexed.f k l0 a1 = some (r1, r2)) :
    Calls Try.prog 30 #[.slice A0 l0.length c0, .int .i64 a1] w fun e w' => e = .returned (.tuple #[.int .i64 r1, .bool r2]) ∧ Below w.heap.size w w' := by
  have hu63 := und63
  obtain ⟨i4, hi4, _, hs4, _⟩ := info_parts info4own
  have HR0 := Aside0.mk hr0
  have HC0 := Aside0.mk hc0
  have HB := Aside0.mk (Below.refl w.heap.size w)
  clear hr0 hc0
  have hu61 := und61
  have hz61 := run_zero61
  have hx0 := run_index0
  have hx1 := run_index1
  obtain ⟨i3, hi3, _, hs3, _⟩ := info_parts info3own
  unfold impl_NearestIndexed.f at h
  obtain ⟨t1, a1_, h⟩ := Option.bind_eq_some_iff.mp h
  have A1 := Aside0.mk a1_
  clear a1_
  by_cases c1 : t1 = true
  · subst c1
    rw [if_pos rfl] at h
    obtain ⟨t2, a2_, h⟩ := Option.bind_eq_some_iff.mp h
    have A2 := Aside0.mk a2_
    clear a2_
    by_cases c2 : t2 = true
    · subst c2
      rw [if_pos rfl] at h
      obtain ⟨s, a3_, h⟩ := Option.bind_eq_some_iff.mp h
      have A3 := Aside0.mk a3_
      clear a3_
      have H' := Aside0.mk h
      clear h
      go_enter Try.func30, Try.ntmps30
      go_wp2_with (first | ((with_reducible refine gate_callee (f := 14) rfl ?_); refine goesL_ (some 11) rfl rfl Try.func14 (by kernel_rfl) rfl #[.slice A0 l0.length c0] rfl (by (try simp only [List.map_toArray, List.map_cons, List.map_nil]); first | done | rfl) ?_; (with_reducible refine (impl_AreRanges.calls k _ _ l0 true _ ?side1 ?side2 A1.out).mono ?_); (case side1 => repeat (first | exact (Kd.C_below HR0.out HB.out) | (with_reducible refine Kd.C_alloc ?_ _) | (with_reducible refine Kd.C_drewN ?_ _) | (with_reducible refine Kd.C_drew ?_))); (case side2 => exact HC0.out); rintro e w8 ⟨rfl, hb⟩; refine ⟨_, rfl, ?_⟩; have n0_ := Aside0.mk (below_step (by repeat (first | (with_reducible first | exact HB.out | apply below_alloc | apply pw_below_drewN | apply below_drew1) | exact HB.out)) hb); clear HB; have HB := n0_; clear n0_; (try clear hb)) | (go_at_call 42; (with_reducible refine (impl_isIndexed.calls a1 true _ A2.out).mono ?_); rintro e w' ⟨rfl, ⟨nd, rfl⟩⟩) | ((with_reducible refine gate_callee (f := 43) rfl ?_); refine goesL_ (some 19) rfl rfl Try.func43 (by kernel_rfl) rfl #[.slice A0 l0.length c0] rfl (by (try simp only [List.map_toArray, List.map_cons, List.map_nil]); first | done | rfl) ?_; (with_reducible refine (impl_setOf.calls k _ _ l0 s _ ?side1 ?side2 A3.out).mono ?_); (case side1 => repeat (first | exact (Kd.C_below HR0.out HB.out) | (with_reducible refine Kd.C_alloc ?_ _) | (with_reducible refine Kd.C_drewN ?_ _) | (with_reducible refine Kd.C_drew ?_))); (case side2 => exact HC0.out); rintro e w9 ⟨g, rfl, ho0, hb⟩; refine ⟨_, rfl, ?_⟩; have n0_ := Aside0.mk (Kd.R_lower ho0 (below_size (by repeat (first | (with_reducible first | exact HB.out | apply below_alloc | apply pw_below_drewN | apply below_drew1) | exact HB.out)))); have n1_ := Aside0.mk (below_step (by repeat (first | (with_reducible first | exact HB.out | apply below_alloc | apply pw_below_drewN | apply below_drew1) | exact HB.out)) hb); clear HB; have HO := n0_; have HB := n1_; clear n0_ n1_; clear ho0 hb))
      go_loopg [20] k (fun kq v20 w' => ∃ (d : Int), v20 = .int .i64 d ∧ Aside0 (impl_NearestIndexed.l0 kq a1 s d = some (r1, r2)) ∧ Aside0 (kq ≤ k) ∧ Aside0 (Kd.R Kd.bool 63 w' w.heap.size (fun _ => True) (.slice (some ⟨g, 0, none⟩) 2001 2001) s) ∧ Aside0 (Below w.heap.size w w'))
      case atStart => exact ⟨(0), rfl, H', ⟨Nat.le_refl _⟩, ⟨by (with_reducible repeat (first | apply Kd.R_alloc | apply Kd.R_drewN | apply Kd.R_drew)); exact HO.out⟩, ⟨by repeat (first | (with_reducible first | exact HB.out | apply below_alloc | apply pw_below_drewN | apply below_drew1) | exact HB.out)⟩⟩
      case round =>
        clear H' HO HB
        obtain ⟨d, rfl, HA, HK1, HO, HB⟩ := hrel
        cases gk with
        | zero => exact absurd HA.out (by simp [impl_NearestIndexed.l0])
        | succ k1 =>
          have H := HA.out
          clear HA
          simp only [impl_NearestIndexed.l0] at H
          by_cases c3 : d < 2000
          · rw [if_pos c3] at H
            have c3b : decide (d < 2000) = true := decide_eq_true c3
            clear c3
            have H' := Aside0.mk H
            clear H
            go_wp2
            go_loopg [30] k1 (fun kq v30 w' => ∃ (j : Int), v30 = .int .i64 j ∧ Aside0 (j = 0 ∨ j = 1 ∨ j = 2) ∧ Aside0 (impl_NearestIndexed.l1 kq a1 s d j = some (r1, r2)) ∧ Aside0 (kq ≤ k1) ∧ Aside0 (Kd.R Kd.bool 63 w' w.heap.size (fun _ => True) (.slice (some ⟨g, 0, none⟩) 2001 2001) s) ∧ Aside0 (Below w.heap.size w w'))
            case atStart => exact ⟨(0), rfl, ⟨Or.inl rfl⟩, H', ⟨Nat.le_refl _⟩, ⟨by (with_reducible repeat (first | apply Kd.R_alloc | apply Kd.R_drewN | apply Kd.R_drew)); exact HO.out⟩, ⟨by repeat (first | (with_reducible first | exact HB.out | apply below_alloc | apply pw_below_drewN | apply below_drew1) | exact HB.out)⟩⟩
            case round =>
              clear H' HO HB
              obtain ⟨j, rfl, HJ, HA, HK2, HO, HB⟩ := hrel
              cases gk with
              | zero => exact absurd HA.out (by simp [impl_NearestIndexed.l1])
              | succ k2 =>
                have H := HA.out
                clear HA
                simp only [impl_NearestIndexed.l1] at H
                rcases HJ.out with rfl | rfl | rfl
                · rw [if_pos rfl] at H
                  clear HJ
                  obtain ⟨t5, a5_, H⟩ := Option.bind_eq_some_iff.mp H
                  have A5 := Aside0.mk a5_
                  clear a5_
                  by_cases c5 : t5 = true
                  · subst c5
                    rw [if_pos rfl] at H
                    by_cases c6 : 0 ≤ wrap64 (a1 - d)
                    · rw [if_pos c6] at H
                      by_cases c7 : wrap64 (a1 - d) < 2001
                      · rw [if_pos c7] at H
                        obtain ⟨hx_0, hf_0⟩ := Kd.R_celln false HO.out (wrap64 (a1 - d)) c6 (by exact c7)
                        have q6 := eq_true c6
                        have q7 := eq_true c7
                        have nl := eq_false (show ¬ wrap64 (a1 - d) < 0 by omega)
                        clear c6 c7
                        by_cases c8 : rdOf false s (wrap64 (a1 - d)) = true
                        · rw [if_pos c8] at H
                          rw [c8] at hx_0
                          simp only [Option.some.injEq, Prod.mk.injEq] at H
                          obtain ⟨rfl, rfl⟩ := H
                          go_wp2_with (first | (go_at_call 42; (with_reducible refine (impl_isIndexed.calls (wrap64 (a1 - d)) true _ A5.out).mono ?_); rintro e w' ⟨rfl, ⟨nd, rfl⟩⟩))
                          go_ret2
                          exact ⟨by first | rfl | (simp; done) | (simp [*]; done), by repeat (first | (with_reducible first | exact HB.out | apply below_alloc | apply pw_below_drewN | apply below_drew1) | exact HB.out)⟩
                        · rw [if_neg c8] at H
                          rw [Bool.eq_false_iff.mpr c8] at hx_0
                          have H' := Aside0.mk H
                          clear H
                          go_wp2_with (first | (go_at_call 42; (with_reducible refine (impl_isIndexed.calls (wrap64 (a1 - d)) true _ A5.out).mono ?_); rintro e w' ⟨rfl, ⟨nd, rfl⟩⟩))
                          go_roundg k2
                          case measure => have := HK1.out; have := HK2.out; omega
                          case rel => exact ⟨1, (by first | rfl | (simp; done) | (simp [*]; done)), ⟨by decide⟩, H', ⟨by have := HK1.out; have := HK2.out; omega⟩, ⟨by (with_reducible repeat (first | apply Kd.R_alloc | apply Kd.R_drewN | apply Kd.R_drew)); exact HO.out⟩, ⟨by repeat (first | (with_reducible first | exact HB.out | apply below_alloc | apply pw_below_drewN | apply below_drew1) | exact HB.out)⟩⟩
                      · rw [if_neg c7] at H
                        exact absurd H (by simp)
                    · rw [if_neg c6] at H
                      exact absurd H (by simp)
                  · replace c5 := Bool.eq_false_iff.mpr c5
                    subst c5
                    rw [if_neg (by decide)] at H
                    have H' := Aside0.mk H
                    clear H
                    go_wp2_with (first | (go_at_call 42; (with_reducible refine (impl_isIndexed.calls (wrap64 (a1 - d)) false _ A5.out).mono ?_); rintro e w' ⟨rfl, ⟨nd, rfl⟩⟩))
                    go_roundg k2
                    case measure => have := HK1.out; have := HK2.out; omega
                    case rel => exact ⟨1, (by first | rfl | (simp; done) | (simp [*]; done)), ⟨by decide⟩, H', ⟨by have := HK1.out; have := HK2.out; omega⟩, ⟨by (with_reducible repeat (first | apply Kd.R_alloc | apply Kd.R_drewN | apply Kd.R_drew)); exact HO.out⟩, ⟨by repeat (first | (with_reducible first | exact HB.out | apply below_alloc | apply pw_below_drewN | apply below_drew1) | exact HB.out)⟩⟩
                · rw [if_neg (by decide), if_pos rfl] at H
                  clear HJ
                  obtain ⟨t5, a5_, H⟩ := Option.bind_eq_some_iff.mp H
                  have A5 := Aside0.mk a5_
                  clear a5_
                  by_cases c5 : t5 = true
                  · subst c5
                    rw [if_pos rfl] at H
                    by_cases c6 : 0 ≤ wrap64 (a1 + d)
                    · rw [if_pos c6] at H
                      by_cases c7 : wrap64 (a1 + d) < 2001
                      · rw [if_pos c7] at H
                        obtain ⟨hx_0, hf_0⟩ := Kd.R_celln false HO.out (wrap64 (a1 + d)) c6 (by exact c7)
                        have q6 := eq_true c6
                        have q7 := eq_true c7
                        have nl := eq_false (show ¬ wrap64 (a1 + d) < 0 by omega)
                        clear c6 c7
                        by_cases c8 : rdOf false s (wrap64 (a1 + d)) = true
                        · rw [if_pos c8] at H
                          rw [c8] at hx_0
                          simp only [Option.some.injEq, Prod.mk.injEq] at H
                          obtain ⟨rfl, rfl⟩ := H
                          go_wp2_with (first | (go_at_call 42; (with_reducible refine (impl_isIndexed.calls (wrap64 (a1 + d)) true _ A5.out).mono ?_); rintro e w' ⟨rfl, ⟨nd, rfl⟩⟩))
                          go_ret2
                          exact ⟨by first | rfl | (simp; done) | (simp [*]; done), by repeat (first | (with_reducible first | exact HB.out | apply below_alloc | apply pw_below_drewN | apply below_drew1) | exact HB.out)⟩
                        · rw [if_neg c8] at H
                          rw [Bool.eq_false_iff.mpr c8] at hx_0
                          have H' := Aside0.mk H
                          clear H
                          go_wp2_with (first | (go_at_call 42; (with_reducible refine (impl_isIndexed.calls (wrap64 (a1 + d)) true _ A5.out).mono ?_); rintro e w' ⟨rfl, ⟨nd, rfl⟩⟩))
                          go_roundg k2
                          case measure => have := HK1.out; have := HK2.out; omega
                          case rel => exact ⟨2, (by first | rfl | (simp; done) | (simp [*]; done)), ⟨by decide⟩, H', ⟨by have := HK1.out; have := HK2.out; omega⟩, ⟨by (with_reducible repeat (first | apply Kd.R_alloc | apply Kd.R_drewN | apply Kd.R_drew)); exact HO.out⟩, ⟨by repeat (first | (with_reducible first | exact HB.out | apply below_alloc | apply pw_below_drewN | apply below_drew1) | exact HB.out)⟩⟩
                      · rw [if_neg c7] at H
                        exact absurd H (by simp)
                    · rw [if_neg c6] at H
                      exact absurd H (by simp)
                  · replace c5 := Bool.eq_false_iff.mpr c5
                    subst c5
                    rw [if_neg (by decide)] at H
                    have H' := Aside0.mk H
                    clear H
                    go_wp2_with (first | (go_at_call 42; (with_reducible refine (impl_isIndexed.calls (wrap64 (a1 + d)) false _ A5.out).mono ?_); rintro e w' ⟨rfl, ⟨nd, rfl⟩⟩))
                    go_roundg k2
                    case measure => have := HK1.out; have := HK2.out; omega
                    case rel => exact ⟨2, (by first | rfl | (simp; done) | (simp [*]; done)), ⟨by decide⟩, H', ⟨by have := HK1.out; have := HK2.out; omega⟩, ⟨by (with_reducible repeat (first | apply Kd.R_alloc | apply Kd.R_drewN | apply Kd.R_drew)); exact HO.out⟩, ⟨by repeat (first | (with_reducible first | exact HB.out | apply below_alloc | apply pw_below_drewN | apply below_drew1) | exact HB.out)⟩⟩
                · rw [if_neg (by decide), if_neg (by decide)] at H
                  clear HJ
                  have H' := Aside0.mk H
                  clear H
                  go_wp2
                  go_roundg k2
                  case measure => have := HK1.out; have := HK2.out; omega
                  case rel => exact ⟨(wrap64 (d + 1)), (by first | rfl | (simp; done) | (simp [*]; done)), H', ⟨by have := HK1.out; have := HK2.out; omega⟩, ⟨by (with_reducible repeat (first | apply Kd.R_alloc | apply Kd.R_drewN | apply Kd.R_drew)); exact HO.out⟩, ⟨by repeat (first | (with_reducible first | exact HB.out | apply below_alloc | apply pw_below_drewN | apply below_drew1) | exact HB.out)⟩⟩
          · rw [if_neg c3] at H
            have c3b : decide (d < 2000) = false := decide_eq_false c3
            clear c3
            simp only [Option.some.injEq, Prod.mk.injEq] at H
            obtain ⟨rfl, rfl⟩ := H
            go_wp2
            go_ret2
            exact ⟨by first | rfl | (simp; done) | (simp [*]; done), by repeat (first | (with_reducible first | exact HB.out | apply below_alloc | apply pw_below_drewN | apply below_drew1) | exact HB.out)⟩
    · replace c2 := Bool.eq_false_iff.mpr c2
      subst c2
      rw [if_neg (by decide)] at h
      simp only [Option.some.injEq, Prod.mk.injEq] at h
      obtain ⟨rfl, rfl⟩ := h
      go_enter Try.func30, Try.ntmps30
      go_wp2_with (first | ((with_reducible refine gate_callee (f := 14) rfl ?_); refine goesL_ (some 11) rfl rfl Try.func14 (by kernel_rfl) rfl #[.slice A0 l0.length c0] rfl (by (try simp only [List.map_toArray, List.map_cons, List.map_nil]); first | done | rfl) ?_; (with_reducible refine (impl_AreRanges.calls k _ _ l0 true _ ?side1 ?side2 A1.out).mono ?_); (case side1 => repeat (first | exact (Kd.C_below HR0.out HB.out) | (with_reducible refine Kd.C_alloc ?_ _) | (with_reducible refine Kd.C_drewN ?_ _) | (with_reducible refine Kd.C_drew ?_))); (case side2 => exact HC0.out); rintro e w8 ⟨rfl, hb⟩; refine ⟨_, rfl, ?_⟩; have n0_ := Aside0.mk (below_step (by repeat (first | (with_reducible first | exact HB.out | apply below_alloc | apply pw_below_drewN | apply below_drew1) | exact HB.out)) hb); clear HB; have HB := n0_; clear n0_; (try clear hb)) | (go_at_call 42; (with_reducible refine (impl_isIndexed.calls a1 false _ A2.out).mono ?_); rintro e w' ⟨rfl, ⟨nd, rfl⟩⟩))
      go_ret2
      exact ⟨by first | rfl | (simp; done) | (simp [*]; done), by repeat (first | (with_reducible first | exact HB.out | apply below_alloc | apply pw_below_drewN | apply below_drew1) | exact HB.out)⟩
  · replace c1 := Bool.eq_false_iff.mpr c1
    subst c1
    rw [if_neg (by decide)] at h
    simp only [Option.some.injEq, Prod.mk.injEq] at h
    obtain ⟨rfl, rfl⟩ := h
    go_enter Try.func30, Try.ntmps30
    go_wp2_with (first | ((with_reducible refine gate_callee (f := 14) rfl ?_); refine goesL_ (some 11) rfl rfl Try.func14 (by kernel_rfl) rfl #[.slice A0 l0.length c0] rfl (by (try simp only [List.map_toArray, List.map_cons, List.map_nil]); first | done | rfl) ?_; (with_reducible refine (impl_AreRanges.calls k _ _ l0 false _ ?side1 ?side2 A1.out).mono ?_); (case side1 => repeat (first | exact (Kd.C_below HR0.out HB.out) | (with_reducible refine Kd.C_alloc ?_ _) | (with_reducible refine Kd.C_drewN ?_ _) | (with_reducible refine Kd.C_drew ?_))); (case side2 => exact HC0.out); rintro e w8 ⟨rfl, hb⟩; refine ⟨_, rfl, ?_⟩; have n0_ := Aside0.mk (below_step (by repeat (first | (with_reducible first | exact HB.out | apply below_alloc | apply pw_below_drewN | apply below_drew1) | exact HB.out)) hb); clear HB; have HB := n0_; clear n0_; (try clear hb)))
    go_ret2
    exact ⟨by first | rfl | (simp; done) | (simp [*]; done), by repeat (first | (with_reducible first | exact HB.out | apply below_alloc | apply pw_below_drewN | apply below_drew1) | exact HB.out)⟩


/-! ### laws_FnExactNearestIndexed: function 9 -/
def laws_FnExactNearestIndexed.j0 : Nat → List (S50) → List (S32) → Bool → Option (Bool)
  | 0, _, _, _ => none
  | k + 1, x0, x8, x38 => if x38 = true then (some false) else ((laws_toRangeS.f k x0).bind fun t159 => ((laws_eqRangeS.f k x8 t159).bind fun t162 => (if t162 = true then (some true) else (some false))))
def laws_FnExactNearestIndexed.f (k : Nat) (l0 : List (S50)) (a1 : Int) : Option (Bool) := (laws_szRangeS.f l0 1048576).bind fun t148 => (if t148 < 0 then (some true) else ((laws_toRangeS.f k l0).bind fun t149 => ((spec_NearestIndexed.f k t149 a1).bind fun bt152 => ((laws_toRangeS.f k l0).bind fun t154 => ((impl_NearestIndexed.f k t154 a1).bind fun bt157 => (if bt157.1 = bt152.1 then (laws_FnExactNearestIndexed.j0 k l0 t154 (bt157.2 != bt152.2)) else (laws_FnExactNearestIndexed.j0 k l0 t154 true)))))))
theorem laws_FnExactNearestIndexed.mono_l : ∀ k, (∀ y0 y1 y2, LeO (laws_FnExactNearestIndexed.j0 k y0 y1 y2) (laws_FnExactNearestIndexed.j0 (k + 1) y0 y1 y2))
  | 0 => fun _ _ _ r h => by simp [laws_FnExactNearestIndexed.j0] at h
  | k + 1 => by
    have ih0 := laws_FnExactNearestIndexed.mono_l k
    · intro y0 y1 y2
      unfold laws_FnExactNearestIndexed.j0
      repeat' first
      | (with_reducible exact ih0 _ _ _)
      | (with_reducible exact impl_NearestIndexed.mono _ _ _)
      | (with_reducible exact laws_eqRangeS.mono _ _ _)
      | (with_reducible exact laws_toRangeS.mono _ _)
      | (with_reducible exact spec_NearestIndexed.mono _ _ _)
      | (with_reducible exact LeO.refl _)
      | (with_reducible exact LeO.none _)
      | (with_reducible refine LeO.ite ?_ ?_)
      | (with_reducible refine LeO.bind ?_ (fun _ => ?_))
      | exact ih0 _ _ _
      | exact impl_NearestIndexed.mono _ _ _
      | exact laws_eqRangeS.mono _ _ _
      | exact laws_toRangeS.mono _ _
      | exact spec_NearestIndexed.mono _ _ _
      | exact LeO.none _
      | refine LeO.ite ?_ ?_
      | refine LeO.bind ?_ (fun _ => ?_)
theorem laws_FnExactNearestIndexed.mono : ∀ a0 a1 k, LeO (laws_FnExactNearestIndexed.f k a0 a1) (laws_FnExactNearestIndexed.f (k + 1) a0 a1) := by
  intro a0 a1 k
  have ih0 := laws_FnExactNearestIndexed.mono_l k
  unfold laws_FnExactNearestIndexed.f
  repeat' first
      | (with_reducible exact ih0 _ _ _)
      | (with_reducible exact impl_NearestIndexed.mono _ _ _)
      | (with_reducible exact laws_eqRangeS.mono _ _ _)
      | (with_reducible exact laws_toRangeS.mono _ _)
      | (with_reducible exact spec_NearestIndexed.mono _ _ _)
      | (with_reducible exact LeO.refl _)
      | (with_reducible exact LeO.none _)
      | (with_reducible refine LeO.ite ?_ ?_)
      | (with_reducible refine LeO.bind ?_ (fun _ => ?_))
      | exact ih0 _ _ _
      | exact impl_NearestIndexed.mono _ _ _
      | exact laws_eqRangeS.mono _ _ _
      | exact laws_toRangeS.mono _ _
      | exact spec_NearestIndexed.mono _ _ _
      | exact LeO.none _
      | refine LeO.ite ?_ ?_
      | refine LeO.bind ?_ (fun _ => ?_)
set_option maxHeartbeats 8000000 in
set_option maxRecDepth 100000 in
theorem laws_FnExactNearestIndexed.calls (k : Nat) (A0 : Option Addr) (c0 : Nat) (l0 : List (S50)) (a1 : Int) (r : Bool) (w : World) (hr0 : Kd.C k50 w A0 l0.length l0) (hc0 : l0.length ≤ c0) (h : laws_FnExactNearestIndexed.f k l0 a1 = some r) :
    Calls Try.prog 9 #[.slice A0 l0.length c0, .int .i64 a1] w fun e w' => e = .returned (.bool r) ∧ Below w.heap.size w w' := by
  have HR0 := Aside0.mk hr0
  have HC0 := Aside0.mk hc0
  clear hr0 hc0
  have HB := Aside0.mk (Below.refl w.heap.size w)
  have H : ((laws_szRangeS.f l0 1048576).bind fun t148 => (if t148 < 0 then (some true) else ((laws_toRangeS.f k l0).bind fun t149 => ((spec_NearestIndexed.f k t149 a1).bind fun bt152 => ((laws_toRangeS.f k l0).bind fun t154 => ((impl_NearestIndexed.f k t154 a1).bind fun bt157 => (if bt157.1 = bt152.1 then (laws_FnExactNearestIndexed.j0 k l0 t154 (bt157.2 != bt152.2)) else (laws_FnExactNearestIndexed.j0 k l0 t154 true)))))))) = some r := h
  clear h
  replace H := Option.bind_eq_some_iff.mp H
  obtain ⟨t148, A30, H⟩ := H
  replace H : (if t148 < 0 then (some true) else ((laws_toRangeS.f k l0).bind fun t149 => ((spec_NearestIndexed.f k t149 a1).bind fun bt152 => ((laws_toRangeS.f k l0).bind fun t154 => ((impl_NearestIndexed.f k t154 a1).bind fun bt157 => (if bt157.1 = bt152.1 then (laws_FnExactNearestIndexed.j0 k l0 t154 (bt157.2 != bt152.2)) else (laws_FnExactNearestIndexed.j0 k l0 t154 true))))))) = some r := H
  have A3 := Aside0.mk A30
  clear A30
  by_cases c4 : t148 < 0
  · rw [if_pos c4] at H
    have c4b0 : decide (t148 < 0) = true := decide_eq_true c4
    clear c4
    obtain rfl := Option.some.inj H
    go_enter Try.func9, Try.ntmps9
    go_wp2_with (first | ((with_reducible refine gate_callee (f := 11) rfl ?_); refine goesL_ (some 13) rfl rfl Try.func11 (by kernel_rfl) rfl #[.slice A0 l0.length c0, .int .i64 1048576] rfl (by (try simp only [List.map_toArray, List.map_cons, List.map_nil]); first | done | rfl | (simp only [List.length_drop, List.length_take]; rfl)) ?_; (with_reducible refine (laws_szRangeS.calls _ _ l0 1048576 t148 _ ?side1 ?side2 A3.out).mono ?_); (case side1 => repeat (first | exact HR0.out | (with_reducible refine Kd.C_alloc ?_ _) | (with_reducible refine Kd.C_drewN ?_ _) | (with_reducible refine Kd.C_drew ?_))); (case side2 => exact HC0.out); rintro e w' ⟨rfl, ⟨nd, rfl⟩⟩; refine ⟨_, rfl, ?_⟩))
    go_ret
    exact ⟨by first | rfl | (simp [errW_none, errW_some] <;> rfl) | (simp [*, errW_none, errW_some] <;> rfl), by repeat (first | (with_reducible first | exact HB.out | apply below_alloc | apply pw_below_drewN | apply below_drew1) | exact HB.out)⟩
  · rw [if_neg c4] at H
    have c4b0 : decide (t148 < 0) = false := decide_eq_false c4
    clear c4
    replace H := Option.bind_eq_some_iff.mp H
    obtain ⟨t149, A50, H⟩ := H
    replace H : ((spec_NearestIndexed.f k t149 a1).bind fun bt152 => ((laws_toRangeS.f k l0).bind fun t154 => ((impl_NearestIndexed.f k t154 a1).bind fun bt157 => (if bt157.1 = bt152.1 then (laws_FnExactNearestIndexed.j0 k l0 t154 (bt157.2 != bt152.2)) else (laws_FnExactNearestIndexed.j0 k l0 t154 true))))) = some r := H
    have A5 := Aside0.mk A50
    clear A50
    replace H := Option.bind_eq_some_iff.mp H
    obtain ⟨⟨t152, t153⟩, A60, H⟩ := H
    replace H : ((laws_toRangeS.f k l0).bind fun t154 => ((impl_NearestIndexed.f k t154 a1).bind fun bt157 => (if bt157.1 = t152 then (laws_FnExactNearestIndexed.j0 k l0 t154 (bt157.2 != t153)) else (laws_FnExactNearestIndexed.j0 k l0 t154 true)))) = some r := H
    have A6 := Aside0.mk A60
    clear A60
    replace H := Option.bind_eq_some_iff.mp H
    obtain ⟨t154, A70, H⟩ := H
    replace H : ((impl_NearestIndexed.f k t154 a1).bind fun bt157 => (if bt157.1 = t152 then (laws_FnExactNearestIndexed.j0 k l0 t154 (bt157.2 != t153)) else (laws_FnExactNearestIndexed.j0 k l0 t154 true))) = some r := H
    have A7 := Aside0.mk A70
    clear A70
    replace H := Option.bind_eq_some_iff.mp H
    obtain ⟨⟨t157, t158⟩, A80, H⟩ := H
    replace H : (if t157 = t152 then (laws_FnExactNearestIndexed.j0 k l0 t154 (t158 != t153)) else (laws_FnExactNearestIndexed.j0 k l0 t154 true)) = some r := H
    have A8 := Aside0.mk A80
    clear A80
    have HC9 := Aside0.mk H
    clear H
    go_enter Try.func9, Try.ntmps9
    go_upto_region 8 with (first | ((with_reducible refine gate_callee (f := 11) rfl ?_); refine goesL_ (some 13) rfl rfl Try.func11 (by kernel_rfl) rfl #[.slice A0 l0.length c0, .int .i64 1048576] rfl (by (try simp only [List.map_toArray, List.map_cons, List.map_nil]); first | done | rfl | (simp only [List.length_drop, List.length_take]; rfl)) ?_; (with_reducible refine (laws_szRangeS.calls _ _ l0 1048576 t148 _ ?side1 ?side2 A3.out).mono ?_); (case side1 => repeat (first | exact HR0.out | (with_reducible refine Kd.C_alloc ?_ _) | (with_reducible refine Kd.C_drewN ?_ _) | (with_reducible refine Kd.C_drew ?_))); (case side2 => exact HC0.out); rintro e w' ⟨rfl, ⟨nd, rfl⟩⟩; refine ⟨_, rfl, ?_⟩) | ((with_reducible refine gate_callee (f := 13) rfl ?_); refine goesL_ (some 18) rfl rfl Try.func13 (by kernel_rfl) rfl #[.slice A0 l0.length c0] rfl (by (try simp only [List.map_toArray, List.map_cons, List.map_nil]); first | done | rfl | (simp only [List.length_drop, List.length_take]; rfl)) ?_; (with_reducible refine (laws_toRangeS.calls k _ _ l0 t149 _ ?side1 ?side2 A5.out).mono ?_); (case side1 => repeat (first | exact HR0.out | (with_reducible refine Kd.C_alloc ?_ _) | (with_reducible refine Kd.C_drewN ?_ _) | (with_reducible refine Kd.C_drew ?_))); (case side2 => exact HC0.out); rintro e w10 ⟨v150, rfl, ho0, hb⟩; refine ⟨_, rfl, ?_⟩; have n0_ := Aside0.mk (Kd.R_lower ho0 (below_size (by repeat (first | (with_reducible first | exact HB.out | apply below_alloc | apply pw_below_drewN | apply below_drew1) | exact HB.out)))); have n1_ := Aside0.mk (below_step (by repeat (first | (with_reducible first | exact HB.out | apply below_alloc | apply pw_below_drewN | apply below_drew1) | exact HB.out)) hb); clear HB; have HO151 := n0_; have HB := n1_; clear n0_ n1_; (try clear hb); (try clear hb2); (try clear hk); (try clear hi); (try clear ho0); obtain ⟨Ao11, co11, eo11⟩ := Kd.R_slice HO151.out; subst eo11) | ((with_reducible refine gate_callee (f := 29) rfl ?_); refine goesL_ (some 20) rfl rfl Try.func29 (by kernel_rfl) rfl #[.slice Ao11 t149.length co11, .int .i64 a1] rfl (by (try simp only [List.map_toArray, List.map_cons, List.map_nil]); first | done | rfl | (simp only [List.length_drop, List.length_take]; rfl)) ?_; (with_reducible refine (spec_NearestIndexed.calls k _ _ t149 a1 t152 t153 _ ?side1 ?side2 A6.out).mono ?_); (case side1 => repeat (first | exact (Kd.R_reads' HO151.out).2.2 | (with_reducible refine Kd.C_alloc ?_ _) | (with_reducible refine Kd.C_drewN ?_ _) | (with_reducible refine Kd.C_drew ?_))); (case side2 => exact (Kd.R_reads' HO151.out).2.1); rintro e w12 ⟨rfl, hb⟩; refine ⟨_, rfl, ?_⟩; have n0_ := Aside0.mk (Kd.R_below (by (with_reducible repeat (first | apply Kd.R_alloc | apply Kd.R_drewN | apply Kd.R_drew)); exact HO151.out) hb); have n1_ := Aside0.mk (below_step (by repeat (first | (with_reducible first | exact HB.out | apply below_alloc | apply pw_below_drewN | apply below_drew1) | exact HB.out)) hb); clear HO151; clear HB; have HO151 := n0_; have HB := n1_; clear n0_ n1_; (try clear hb); (try clear hb2); (try clear hk); (try clear hi)) | ((with_reducible refine gate_callee (f := 13) rfl ?_); refine goesL_ (some 24) rfl rfl Try.func13 (by kernel_rfl) rfl #[.slice A0 l0.length c0] rfl (by (try simp only [List.map_toArray, List.map_cons, List.map_nil]); first | done | rfl | (simp only [List.length_drop, List.length_take]; rfl)) ?_; (with_reducible refine (laws_toRangeS.calls k _ _ l0 t154 _ ?side1 ?side2 A7.out).mono ?_); (case side1 => repeat (first | exact (Kd.C_below HR0.out HB.out) | (with_reducible refine Kd.C_alloc ?_ _) | (with_reducible refine Kd.C_drewN ?_ _) | (with_reducible refine Kd.C_drew ?_))); (case side2 => exact HC0.out); rintro e w13 ⟨v155, rfl, ho0, hb⟩; refine ⟨_, rfl, ?_⟩; have n0_ := Aside0.mk (Kd.R_elder' (by (with_reducible repeat (first | apply Kd.R_alloc | apply Kd.R_drewN | apply Kd.R_drew)); exact HO151.out) (Kd.R_base ho0) hb); have n1_ := Aside0.mk (Kd.R_lower (Kd.R_new' ho0 (Kd.R_lt (by (with_reducible repeat (first | apply Kd.R_alloc | apply Kd.R_drewN | apply Kd.R_drew)); exact HO151.out))) (below_size (by repeat (first | (with_reducible first | exact HB.out | apply below_alloc | apply pw_below_drewN | apply below_drew1) | exact HB.out)))); have n2_ := Aside0.mk (below_step (by repeat (first | (with_reducible first | exact HB.out | apply below_alloc | apply pw_below_drewN | apply below_drew1) | exact HB.out)) hb); clear HO151; clear HB; have HO151 := n0_; have HO156 := n1_; have HB := n2_; clear n0_ n1_ n2_; (try clear hb); (try clear hb2); (try clear hk); (try clear hi); (try clear ho0); obtain ⟨Ao14, co14, eo14⟩ := Kd.R_slice HO156.out; subst eo14) | ((with_reducible refine gate_callee (f := 30) rfl ?_); refine goesL_ (some 28) rfl rfl Try.func30 (by kernel_rfl) rfl #[.slice Ao14 t154.length co14, .int .i64 a1] rfl (by (try simp only [List.map_toArray, List.map_cons, List.map_nil]); first | done | rfl | (simp only [List.length_drop, List.length_take]; rfl)) ?_; (with_reducible refine (impl_NearestIndexed.calls k _ _ t154 a1 t157 t158 _ ?side1 ?side2 A8.out).mono ?_); (case side1 => repeat (first | exact (Kd.R_reads' HO156.out).2.2 | (with_reducible refine Kd.C_alloc ?_ _) | (with_reducible refine Kd.C_drewN ?_ _) | (with_reducible refine Kd.C_drew ?_))); (case side2 => exact (Kd.R_reads' HO156.out).2.1); rintro e w15 ⟨rfl, hb⟩; refine ⟨_, rfl, ?_⟩; have n0_ := Aside0.mk (Kd.R_below (by (with_reducible repeat (first | apply Kd.R_alloc | apply Kd.R_drewN | apply Kd.R_drew)); exact HO151.out) hb); have n1_ := Aside0.mk (Kd.R_below (by (with_reducible repeat (first | apply Kd.R_alloc | apply Kd.R_drewN | apply Kd.R_drew)); exact HO156.out) hb); have n2_ := Aside0.mk (below_step (by repeat (first | (with_reducible first | exact HB.out | apply below_alloc | apply pw_below_drewN | apply below_drew1) | exact HB.out)) hb); clear HO151; clear HO156; clear HB; have HO151 := n0_; have HO156 := n1_; have HB := n2_; clear n0_ n1_ n2_; (try clear hb); (try clear hb2); (try clear hk); (try clear hi)))
    (try simp only [Act.put, List.setIfInBounds_toArray, List.set_cons_zero, List.set_cons_succ])
    go_cut [38] (fun v38 wc => ∃ (kq : Nat) (x38_8 : Bool), v38 = .bool x38_8 ∧ Aside0 (laws_FnExactNearestIndexed.j0 kq l0 t154 x38_8 = some r) ∧ Aside0 (kq ≤ k) ∧ Aside0 (Kd.R k32 32 wc w.heap.size (fun _ => True) (.slice Ao14 t154.length co14) t154) ∧ Aside0 (Below w.heap.size w wc))
    case first =>
      have H := HC9.out
      clear HC9
      by_cases c16 : t157 = t152
      · rw [if_pos c16] at H
        have c16b0 : (t157 == t152) = true := beq_iff_eq.mpr c16
        have c16b1 : (t157 != t152) = false := bne_eq_false_iff_eq.mpr c16
        clear c16
        (first | rw [c16b0] | (simp only [i64_w, i32_w]; rw [c16b0]) | skip)
        have H' := Aside0.mk H
        clear H
        go_wp2
        go_meet
        case rel => exact ⟨_, ((t158 != t153)), (by first | rfl | (simp; done) | (simp [*]; done)), H', ⟨by first | omega | exact Nat.le_refl _⟩, ⟨by (with_reducible repeat (first | apply Kd.R_alloc | apply Kd.R_drewN | apply Kd.R_drew)); exact Kd.R_mono HO156.out (fun _ hk => trivial)⟩, ⟨by repeat (first | (with_reducible first | exact HB.out | apply below_alloc | apply pw_below_drewN | apply below_drew1) | exact HB.out)⟩⟩
      · rw [if_neg c16] at H
        have c16b0 : (t157 == t152) = false := beq_eq_false_iff_ne.mpr c16
        have c16b1 : (t157 != t152) = true := bne_iff_ne.mpr c16
        (first | rw [c16b0] | (simp only [i64_w, i32_w]; rw [c16b0]) | skip)
        have H' := Aside0.mk H
        clear H
        go_wp2
        go_meet
        case rel => exact ⟨_, (true), (by first | rfl | (simp; done) | (simp [*]; done)), H', ⟨by first | omega | exact Nat.le_refl _⟩, ⟨by (with_reducible repeat (first | apply Kd.R_alloc | apply Kd.R_drewN | apply Kd.R_drew)); exact Kd.R_mono HO156.out (fun _ hk => trivial)⟩, ⟨by repeat (first | (with_reducible first | exact HB.out | apply below_alloc | apply pw_below_drewN | apply below_drew1) | exact HB.out)⟩⟩
    case rest =>
      clear HC9
      try clear c1
      try clear c2
      try clear p2
      try clear c3
      try clear c4
      try clear c4b0
      try clear c9
      try clear c11
      try clear c13
      try clear c16
      try clear c16b0
      try clear c16b1
      obtain ⟨kq, x38_8, rfl, HA, HJ8, HO_8, HB⟩ := hcut
      cases kq with
      | zero => exact absurd HA.out (by simp [laws_FnExactNearestIndexed.j0])
      | succ kj8 =>
        have H := HA.out
        clear HA
        simp only [laws_FnExactNearestIndexed.j0] at H
        by_cases c17 : x38_8 = true
        · subst c17
          have H1 : (some false) = some r := by rw [if_pos rfl] at H; exact H
          clear H
          have H := H1
          clear H1
          obtain rfl := Option.some.inj H
          go_wp2
          go_ret
          exact ⟨by first | rfl | (simp [errW_none, errW_some] <;> rfl) | (simp [*, errW_none, errW_some] <;> rfl), by repeat (first | (with_reducible first | exact HB.out | apply below_alloc | apply pw_below_drewN | apply below_drew1) | exact HB.out)⟩
        · replace c17 := Bool.eq_false_iff.mpr c17
          subst c17
          have H1 : ((laws_toRangeS.f kj8 l0).bind fun t159 => ((laws_eqRangeS.f kj8 t154 t159).bind fun t162 => (if t162 = true then (some true) else (some false)))) = some r := by rw [if_neg (show ¬ (false = true) by decide)] at H; exact H
          clear H
          have H := H1
          clear H1
          replace H := Option.bind_eq_some_iff.mp H
          obtain ⟨t159, A180, H⟩ := H
          replace H : ((laws_eqRangeS.f kj8 t154 t159).bind fun t162 => (if t162 = true then (some true) else (some false))) = some r := H
          have A18 := Aside0.mk A180
          clear A180
          replace H := Option.bind_eq_some_iff.mp H
          obtain ⟨t162, A190, H⟩ := H
          replace H : (if t162 = true then (some true) else (some false)) = some r := H
          have A19 := Aside0.mk A190
          clear A190
          by_cases c20 : t162 = true
          · subst c20
            have H1 : (some true) = some r := by rw [if_pos rfl] at H; exact H
            clear H
            have H := H1
            clear H1
            obtain rfl := Option.some.inj H
            go_wp2_with (first | ((with_reducible refine gate_callee (f := 13) rfl ?_); refine goesL_ (some 41) rfl rfl Try.func13 (by kernel_rfl) rfl #[.slice A0 l0.length c0] rfl (by (try simp only [List.map_toArray, List.map_cons, List.map_nil]); first | done | rfl | (simp only [List.length_drop, List.length_take]; rfl)) ?_; (with_reducible refine (laws_toRangeS.calls kj8 _ _ l0 t159 _ ?side1 ?side2 A18.out).mono ?_); (case side1 => repeat (first | exact (Kd.C_below HR0.out HB.out) | (with_reducible refine Kd.C_alloc ?_ _) | (with_reducible refine Kd.C_drewN ?_ _) | (with_reducible refine Kd.C_drew ?_))); (case side2 => exact HC0.out); rintro e w21 ⟨v160, rfl, ho0, hb⟩; refine ⟨_, rfl, ?_⟩; have n0_ := Aside0.mk (Kd.R_elder' (by (with_reducible repeat (first | apply Kd.R_alloc | apply Kd.R_drewN | apply Kd.R_drew)); exact HO_8.out) (Kd.R_base ho0) hb); have n1_ := Aside0.mk (Kd.R_lower (Kd.R_new' ho0 (Kd.R_lt (by (with_reducible repeat (first | apply Kd.R_alloc | apply Kd.R_drewN | apply Kd.R_drew)); exact HO_8.out))) (below_size (by repeat (first | (with_reducible first | exact HB.out | apply below_alloc | apply pw_below_drewN | apply below_drew1) | exact HB.out)))); have n2_ := Aside0.mk (below_step (by repeat (first | (with_reducible first | exact HB.out | apply below_alloc | apply pw_below_drewN | apply below_drew1) | exact HB.out)) hb); clear HO_8; clear HB; have HO_8 := n0_; have HO161 := n1_; have HB := n2_; clear n0_ n1_ n2_; (try clear hb); (try clear hb2); (try clear hk); (try clear hi); (try clear ho0); obtain ⟨Ao22, co22, eo22⟩ := Kd.R_slice HO161.out; subst eo22) | ((with_reducible refine gate_callee (f := 15) rfl ?_); refine goesL_ (some 42) rfl rfl Try.func15 (by kernel_rfl) rfl #[.slice Ao14 t154.length co14, .slice Ao22 t159.length co22] rfl (by (try simp only [List.map_toArray, List.map_cons, List.map_nil]); first | done | rfl | (simp only [List.length_drop, List.length_take]; rfl)) ?_; (with_reducible refine (laws_eqRangeS.calls kj8 _ _ t154 _ _ t159 true _ ?side1 ?side2 ?side3 ?side4 A19.out).mono ?_); (case side1 => repeat (first | exact (Kd.R_reads' HO_8.out).2.2 | (with_reducible refine Kd.C_alloc ?_ _) | (with_reducible refine Kd.C_drewN ?_ _) | (with_reducible refine Kd.C_drew ?_))); (case side2 => exact (Kd.R_reads' HO_8.out).2.1); (case side3 => repeat (first | exact (Kd.R_reads' HO161.out).2.2 | (with_reducible refine Kd.C_alloc ?_ _) | (with_reducible refine Kd.C_drewN ?_ _) | (with_reducible refine Kd.C_drew ?_))); (case side4 => exact (Kd.R_reads' HO161.out).2.1); rintro e w23 ⟨rfl, hb⟩; refine ⟨_, rfl, ?_⟩; have n0_ := Aside0.mk (Kd.R_below (by (with_reducible repeat (first | apply Kd.R_alloc | apply Kd.R_drewN | apply Kd.R_drew)); exact HO_8.out) hb); have n1_ := Aside0.mk (Kd.R_below (by (with_reducible repeat (first | apply Kd.R_alloc | apply Kd.R_drewN | apply Kd.R_drew)); exact HO161.out) hb); have n2_ := Aside0.mk (below_step (by repeat (first | (with_reducible first | exact HB.out | apply below_alloc | apply pw_below_drewN | apply below_drew1) | exact HB.out)) hb); clear HO_8; clear HO161; clear HB; have HO_8 := n0_; have HO161 := n1_; have HB := n2_; clear n0_ n1_ n2_; (try clear hb); (try clear hb2); (try clear hk); (try clear hi)))
            go_ret
            exact ⟨by first | rfl | (simp [errW_none, errW_some] <;> rfl) | (simp [*, errW_none, errW_some] <;> rfl), by repeat (first | (with_reducible first | exact HB.out | apply below_alloc | apply pw_below_drewN | apply below_drew1) | exact HB.out)⟩
          · replace c20 := Bool.eq_false_iff.mpr c20
            subst c20
            have H1 : (some false) = some r := by rw [if_neg (show ¬ (false = true) by decide)] at H; exact H
            clear H
            have H := H1
            clear H1
            obtain rfl := Option.some.inj H
            go_wp2_with (first | ((with_reducible refine gate_callee (f := 13) rfl ?_); refine goesL_ (some 41) rfl rfl Try.func13 (by kernel_rfl) rfl #[.slice A0 l0.length c0] rfl (by (try simp only [List.map_toArray, List.map_cons, List.map_nil]); first | done | rfl | (simp only [List.length_drop, List.length_take]; rfl)) ?_; (with_reducible refine (laws_toRangeS.calls kj8 _ _ l0 t159 _ ?side1 ?side2 A18.out).mono ?_); (case side1 => repeat (first | exact (Kd.C_below HR0.out HB.out) | (with_reducible refine Kd.C_alloc ?_ _) | (with_reducible refine Kd.C_drewN ?_ _) | (with_reducible refine Kd.C_drew ?_))); (case side2 => exact HC0.out); rintro e w24 ⟨v160, rfl, ho0, hb⟩; refine ⟨_, rfl, ?_⟩; have n0_ := Aside0.mk (Kd.R_elder' (by (with_reducible repeat (first | apply Kd.R_alloc | apply Kd.R_drewN | apply Kd.R_drew)); exact HO_8.out) (Kd.R_base ho0) hb); have n1_ := Aside0.mk (Kd.R_lower (Kd.R_new' ho0 (Kd.R_lt (by (with_reducible repeat (first | apply Kd.R_alloc | apply Kd.R_drewN | apply Kd.R_drew)); exact HO_8.out))) (below_size (by repeat (first | (with_reducible first | exact HB.out | apply below_alloc | apply pw_below_drewN | apply below_drew1) | exact HB.out)))); have n2_ := Aside0.mk (below_step (by repeat (first | (with_reducible first | exact HB.out | apply below_alloc | apply pw_below_drewN | apply below_drew1) | exact HB.out)) hb); clear HO_8; clear HB; have HO_8 := n0_; have HO161 := n1_; have HB := n2_; clear n0_ n1_ n2_; (try clear hb); (try clear hb2); (try clear hk); (try clear hi); (try clear ho0); obtain ⟨Ao25, co25, eo25⟩ := Kd.R_slice HO161.out; subst eo25) | ((with_reducible refine gate_callee (f := 15) rfl ?_); refine goesL_ (some 42) rfl rfl Try.func15 (by kernel_rfl) rfl #[.slice Ao14 t154.length co14, .slice Ao25 t159.length co25] rfl (by (try simp only [List.map_toArray, List.map_cons, List.map_nil]); first | done | rfl | (simp only [List.length_drop, List.length_take]; rfl)) ?_; (with_reducible refine (laws_eqRangeS.calls kj8 _ _ t154 _ _ t159 false _ ?side1 ?side2 ?side3 ?side4 A19.out).mono ?_); (case side1 => repeat (first | exact (Kd.R_reads' HO_8.out).2.2 | (with_reducible refine Kd.C_alloc ?_ _) | (with_reducible refine Kd.C_drewN ?_ _) | (with_reducible refine Kd.C_drew ?_))); (case side2 => exact (Kd.R_reads' HO_8.out).2.1); (case side3 => repeat (first | exact (Kd.R_reads' HO161.out).2.2 | (with_reducible refine Kd.C_alloc ?_ _) | (with_reducible refine Kd.C_drewN ?_ _) | (with_reducible refine Kd.C_drew ?_))); (case side4 => exact (Kd.R_reads' HO161.out).2.1); rintro e w26 ⟨rfl, hb⟩; refine ⟨_, rfl, ?_⟩; have n0_ := Aside0.mk (Kd.R_below (by (with_reducible repeat (first | apply Kd.R_alloc | apply Kd.R_drewN | apply Kd.R_drew)); exact HO_8.out) hb); have n1_ := Aside0.mk (Kd.R_below (by (with_reducible repeat (first | apply Kd.R_alloc | apply Kd.R_drewN | apply Kd.R_drew)); exact HO161.out) hb); have n2_ := Aside0.mk (below_step (by repeat (first | (with_reducible first | exact HB.out | apply below_alloc | apply pw_below_drewN | apply below_drew1) | exact HB.out)) hb); clear HO_8; clear HO161; clear HB; have HO_8 := n0_; have HO161 := n1_; have HB := n2_; clear n0_ n1_ n2_; (try clear hb); (try clear hb2); (try clear hk); (try clear hi)))
            go_ret
            exact ⟨by first | rfl | (simp [errW_none, errW_some] <;> rfl) | (simp [*, errW_none, errW_some] <;> rfl), by repeat (first | (with_reducible first | exact HB.out | apply below_alloc | apply pw_below_drewN | apply below_drew1) | exact HB.out)⟩

end Go.Proofs.Yteolpfmpinbdoaa.PFnExactNearestIndexed
