import Derived.Test.YtdjoegkoiapoaaaOwnPages
namespace Go.Proofs.Ytdjoegkoiapoaaa.Own
open Go.RowKit Go.Proofs.YtdjoegkoiapoaaaW.PrintWords Go.Proofs.YtdjoegkoiapoaaaW.PrintLast Go.Proofs.YtdjoegkoiapoaaaW.PrintMore
attribute [local go_sem] max2_int min2_int max_two min_two max_three min_three max_four min_four
set_option linter.unusedVariables false
set_option linter.unusedSimpArgs false
def openB (l : List Int) (p : Int) : Bool := goodB l && decide (0 ≤ p ∧ p ≤ (l.length : Int) - 1)
def openL (l : List Int) (p : Int) : Int := if openB l p = true then pg2 (rd l p) else 0
def openR (l : List Int) (p : Int) : Int := if openB l p = true then (if p + 1 < (l.length : Int) then pg1 (rd l (p + 1)) else 0) else 0
theorem rd_mem {l : List Int} {p : Int} (h0 : 0 ≤ p) (h1 : p < (l.length : Int)) : rd l p ∈ l := by
  unfold rd
  rw [List.getD_eq_getElem?_getD, List.getElem?_eq_getElem (show p.toNat < l.length by omega)]
  exact List.getElem_mem _
set_option maxHeartbeats 8000000 in
set_option maxRecDepth 100000 in
theorem specOpenAt_go (A0 : Option Addr) (n c0 : Nat) (l0 : List Int) (p : Int) (w : World) (hr0 : Kd.C (Kd.int .i64) w A0 n l0) (hc0 : n ≤ c0) (hn : n < 1073741824) :
    Calls Try.prog 26 #[.slice A0 n c0, .int .i64 p] w fun e w' => e = .returned (.tuple #[.int .i64 (openL l0 p), .int .i64 (openR l0 p), .bool (openB l0 p)]) ∧ Drawn0 w w' := by
  obtain rfl : l0.length = n := hr0.1
  have HR0 := Aside0.mk hr0
  have HC0 := Aside0.mk hc0
  have HN := Aside0.mk hn
  clear hr0 hc0 hn
  by_cases hg : goodB l0 = true
  · have HG := Aside0.mk hg
    have hgp : goodP l0 := of_decide_eq_true hg
    have hl8 := hgp.2.1
    have hl1 := hgp.1
    clear hg
    by_cases hp : 0 ≤ p ∧ p ≤ (l0.length : Int) - 1
    · have HP := Aside0.mk (decide_eq_true hp)
      have hB : Aside0 (openB l0 p = true) := ⟨by unfold openB; rw [HG.out, HP.out]; rfl⟩
      obtain ⟨hp0, hp1⟩ := hp
      have e1 : openL l0 p = pg2 (rd l0 p) := by unfold openL; rw [if_pos hB.out]
      have hy := hgp.2.2.1 _ (rd_mem hp0 (by omega))
      have HY1 : Aside0 (-8 ≤ rd l0 p) := ⟨by omega⟩
      have HY2 : Aside0 (rd l0 p ≤ 8) := ⟨by omega⟩
      obtain ⟨ad, rfl, hc⟩ := Kd.at_int HR0.out p hp0 (by omega)
      by_cases hq : p + 1 < (l0.length : Int)
      · have e2 : openR l0 p = pg1 (rd l0 (p + 1)) := by unfold openR; rw [if_pos hB.out, if_pos hq]
        rw [e1, e2, hB.out]
        have hz := hgp.2.2.1 _ (rd_mem (l := l0) (p := p + 1) (by omega) hq)
        have HZ1 : Aside0 (-8 ≤ rd l0 (p + 1)) := ⟨by omega⟩
        have HZ2 : Aside0 (rd l0 (p + 1) ≤ 8) := ⟨by omega⟩
        obtain ⟨ad2, e3, hc2⟩ := Kd.at_int HR0.out (p + 1) (by omega) hq
        cases e3
        clear e1 e2 hB hy hz hgp
        go_enter Try.func26, Try.ntmps26
        go_wp2_with (first | (go_at_call 38; (with_reducible refine (biGood_go _ _ _ l0 true _ ?side1 HC0.out ?side2 HG.out).mono ?_); (case side1 => repeat (first | exact HR0.out | (with_reducible refine Kd.C_alloc ?_ _) | (with_reducible refine Kd.C_drewN ?_ _) | (with_reducible refine Kd.C_drew ?_))); (case side2 => have := HN.out; omega); rintro e w' ⟨rfl, ⟨nd, rfl⟩⟩) | (go_at_call 43; (with_reducible refine (l1In_go _ _ _ true _ HP.out).mono ?_); rintro e w' ⟨rfl, ⟨nd, rfl⟩⟩) | (go_at_call 47; (with_reducible refine (biPages_go (rd l0 p) _ HY1.out HY2.out).mono ?_); rintro e w' ⟨rfl, rfl⟩) | (go_at_call 47; (with_reducible refine (biPages_go (rd l0 (p + 1)) _ HZ1.out HZ2.out).mono ?_); rintro e w' ⟨rfl, rfl⟩))
        go_ret3
        exact ⟨rfl, (by repeat (first | exact Drawn0.refl _ | apply Drawn0.step))⟩
      · have e2 : openR l0 p = 0 := by unfold openR; rw [if_pos hB.out, if_neg hq]
        rw [e1, e2, hB.out]
        clear e1 e2 hB hy hgp
        have hpe : p = (l0.length : Int) - 1 := by omega
        have HPE := Aside0.mk hpe
        clear hpe
        go_enter Try.func26, Try.ntmps26
        go_wp2_with (first | (go_at_call 38; (with_reducible refine (biGood_go _ _ _ l0 true _ ?side1 HC0.out ?side2 HG.out).mono ?_); (case side1 => repeat (first | exact HR0.out | (with_reducible refine Kd.C_alloc ?_ _) | (with_reducible refine Kd.C_drewN ?_ _) | (with_reducible refine Kd.C_drew ?_))); (case side2 => have := HN.out; omega); rintro e w' ⟨rfl, ⟨nd, rfl⟩⟩) | (go_at_call 43; (with_reducible refine (l1In_go _ _ _ true _ HP.out).mono ?_); rintro e w' ⟨rfl, ⟨nd, rfl⟩⟩) | (go_at_call 47; (with_reducible refine (biPages_go (rd l0 p) _ HY1.out HY2.out).mono ?_); rintro e w' ⟨rfl, rfl⟩))
        go_ret3
        exact ⟨rfl, (by repeat (first | exact Drawn0.refl _ | apply Drawn0.step))⟩
    · have HP := Aside0.mk (decide_eq_false hp)
      have hB : Aside0 (openB l0 p = false) := ⟨by unfold openB; rw [HG.out, HP.out]; rfl⟩
      have e1 : openL l0 p = 0 := by unfold openL; rw [hB.out]; rfl
      have e2 : openR l0 p = 0 := by unfold openR; rw [hB.out]; rfl
      rw [e1, e2, hB.out]
      clear e1 e2 hB hp hgp
      go_enter Try.func26, Try.ntmps26
      go_wp2_with (first | (go_at_call 38; (with_reducible refine (biGood_go _ _ _ l0 true _ ?side1 HC0.out ?side2 HG.out).mono ?_); (case side1 => repeat (first | exact HR0.out | (with_reducible refine Kd.C_alloc ?_ _) | (with_reducible refine Kd.C_drewN ?_ _) | (with_reducible refine Kd.C_drew ?_))); (case side2 => have := HN.out; omega); rintro e w' ⟨rfl, ⟨nd, rfl⟩⟩) | (go_at_call 43; (with_reducible refine (l1In_go _ _ _ false _ HP.out).mono ?_); rintro e w' ⟨rfl, ⟨nd, rfl⟩⟩))
      go_ret3
      exact ⟨rfl, (by repeat (first | exact Drawn0.refl _ | apply Drawn0.step))⟩
  · have HG := Aside0.mk (Bool.eq_false_iff.mpr hg)
    have hB : Aside0 (openB l0 p = false) := ⟨by unfold openB; rw [HG.out]; rfl⟩
    have e1 : openL l0 p = 0 := by unfold openL; rw [hB.out]; rfl
    have e2 : openR l0 p = 0 := by unfold openR; rw [hB.out]; rfl
    rw [e1, e2, hB.out]
    clear e1 e2 hB hg
    go_enter Try.func26, Try.ntmps26
    go_wp2_with (go_at_call 38; (with_reducible refine (biGood_go _ _ _ l0 false _ ?side1 HC0.out ?side2 HG.out).mono ?_); (case side1 => repeat (first | exact HR0.out | (with_reducible refine Kd.C_alloc ?_ _) | (with_reducible refine Kd.C_drewN ?_ _) | (with_reducible refine Kd.C_drew ?_))); (case side2 => have := HN.out; omega); rintro e w' ⟨rfl, ⟨nd, rfl⟩⟩)
    go_ret3
    exact ⟨rfl, (by repeat (first | exact Drawn0.refl _ | apply Drawn0.step))⟩
set_option maxHeartbeats 8000000 in
set_option maxRecDepth 100000 in
theorem implOpenAt_go (A0 : Option Addr) (n c0 : Nat) (l0 : List Int) (p : Int) (w : World) (hr0 : Kd.C (Kd.int .i64) w A0 n l0) (hc0 : n ≤ c0) (hn : n < 1073741824) :
    Calls Try.prog 27 #[.slice A0 n c0, .int .i64 p] w fun e w' => e = .returned (.tuple #[.int .i64 (openL l0 p), .int .i64 (openR l0 p), .bool (openB l0 p)]) ∧ Below w.heap.size w w' := by
  obtain rfl : l0.length = n := hr0.1
  have HR0 := Aside0.mk hr0
  have HC0 := Aside0.mk hc0
  have HN := Aside0.mk hn
  clear hr0 hc0 hn
  by_cases hg : goodB l0 = true
  · have HG := Aside0.mk hg
    have hgp : goodP l0 := of_decide_eq_true hg
    have hl8 := hgp.2.1
    have hl1 := hgp.1
    clear hg
    have HB := Aside0.mk (Below.refl w.heap.size w)
    by_cases hp : 0 ≤ p ∧ p ≤ (l0.length : Int) - 1
    · have HP := Aside0.mk (decide_eq_true hp)
      have hB : Aside0 (openB l0 p = true) := ⟨by unfold openB; rw [HG.out, HP.out]; rfl⟩
      obtain ⟨hp0, hp1⟩ := hp
      have e1 : openL l0 p = pg2 (rd l0 p) := by unfold openL; rw [if_pos hB.out]
      have hy := hgp.2.2.1 _ (rd_mem hp0 (by omega))
      have HY1 : Aside0 (-8 ≤ rd l0 p) := ⟨by omega⟩
      have HY2 : Aside0 (rd l0 p ≤ 8) := ⟨by omega⟩
      obtain ⟨ad, rfl, hc⟩ := Kd.at_int HR0.out p hp0 (by omega)
      by_cases hq : p + 1 < (l0.length : Int)
      · have e2 : openR l0 p = pg1 (rd l0 (p + 1)) := by unfold openR; rw [if_pos hB.out, if_pos hq]
        rw [e1, e2, hB.out]
        have hz := hgp.2.2.1 _ (rd_mem (l := l0) (p := p + 1) (by omega) hq)
        have HZ1 : Aside0 (-8 ≤ rd l0 (p + 1)) := ⟨by omega⟩
        have HZ2 : Aside0 (rd l0 (p + 1) ≤ 8) := ⟨by omega⟩
        obtain ⟨ad2, e3, hc2⟩ := Kd.at_int HR0.out (p + 1) (by omega) hq
        cases e3
        clear e1 e2 hB hy hz hgp
        go_enter Try.func27, Try.ntmps27
        go_wp2_with (first | (go_at_call 16; (with_reducible refine (implIsBinding_go _ _ _ l0 _ ?side1 HC0.out HN.out).mono ?_); (case side1 => repeat (first | exact HR0.out | (with_reducible refine Kd.C_alloc ?_ _) | (with_reducible refine Kd.C_drewN ?_ _) | (with_reducible refine Kd.C_drew ?_))); rintro e w1 ⟨rfl, hb⟩; rw [HG.out]; have HBq := Aside0.mk (below_step (by repeat (first | (with_reducible first | exact HB.out | apply below_alloc | apply pw_below_drewN | apply below_drew1) | exact HB.out)) hb); clear HB; have HB := HBq; clear HBq hb; have hcq := (HB.out.cell (World.block_lt_of_cell? w _ hc)).trans hc; clear hc; have hc := hcq; clear hcq; have hc2q := (HB.out.cell (World.block_lt_of_cell? w _ hc2)).trans hc2; clear hc2; have hc2 := hc2q; clear hc2q) | (go_at_call 36; (with_reducible refine (within_go _ _ _ true _ HP.out).mono ?_); rintro e w' ⟨rfl, ⟨nd, rfl⟩⟩) | (go_at_call 48; (with_reducible refine (pagesOf_go (rd l0 p) _ HY1.out HY2.out).mono ?_); rintro e w' ⟨rfl, rfl⟩) | (go_at_call 48; (with_reducible refine (pagesOf_go (rd l0 (p + 1)) _ HZ1.out HZ2.out).mono ?_); rintro e w' ⟨rfl, rfl⟩))
        go_ret3
        exact ⟨rfl, (by repeat (first | (with_reducible first | exact HB.out | apply below_alloc | apply pw_below_drewN | apply below_drew1) | exact HB.out))⟩
      · have e2 : openR l0 p = 0 := by unfold openR; rw [if_pos hB.out, if_neg hq]
        rw [e1, e2, hB.out]
        clear e1 e2 hB hy hgp
        have hpe : p = (l0.length : Int) - 1 := by omega
        have HPE := Aside0.mk hpe
        clear hpe
        go_enter Try.func27, Try.ntmps27
        go_wp2_with (first | (go_at_call 16; (with_reducible refine (implIsBinding_go _ _ _ l0 _ ?side1 HC0.out HN.out).mono ?_); (case side1 => repeat (first | exact HR0.out | (with_reducible refine Kd.C_alloc ?_ _) | (with_reducible refine Kd.C_drewN ?_ _) | (with_reducible refine Kd.C_drew ?_))); rintro e w1 ⟨rfl, hb⟩; rw [HG.out]; have HBq := Aside0.mk (below_step (by repeat (first | (with_reducible first | exact HB.out | apply below_alloc | apply pw_below_drewN | apply below_drew1) | exact HB.out)) hb); clear HB; have HB := HBq; clear HBq hb; have hcq := (HB.out.cell (World.block_lt_of_cell? w _ hc)).trans hc; clear hc; have hc := hcq; clear hcq) | (go_at_call 36; (with_reducible refine (within_go _ _ _ true _ HP.out).mono ?_); rintro e w' ⟨rfl, ⟨nd, rfl⟩⟩) | (go_at_call 48; (with_reducible refine (pagesOf_go (rd l0 p) _ HY1.out HY2.out).mono ?_); rintro e w' ⟨rfl, rfl⟩))
        go_ret3
        exact ⟨rfl, (by repeat (first | (with_reducible first | exact HB.out | apply below_alloc | apply pw_below_drewN | apply below_drew1) | exact HB.out))⟩
    · have HP := Aside0.mk (decide_eq_false hp)
      have hB : Aside0 (openB l0 p = false) := ⟨by unfold openB; rw [HG.out, HP.out]; rfl⟩
      have e1 : openL l0 p = 0 := by unfold openL; rw [hB.out]; rfl
      have e2 : openR l0 p = 0 := by unfold openR; rw [hB.out]; rfl
      rw [e1, e2, hB.out]
      clear e1 e2 hB hp hgp
      go_enter Try.func27, Try.ntmps27
      go_wp2_with (first | (go_at_call 16; (with_reducible refine (implIsBinding_go _ _ _ l0 _ ?side1 HC0.out HN.out).mono ?_); (case side1 => repeat (first | exact HR0.out | (with_reducible refine Kd.C_alloc ?_ _) | (with_reducible refine Kd.C_drewN ?_ _) | (with_reducible refine Kd.C_drew ?_))); rintro e w1 ⟨rfl, hb⟩; rw [HG.out]; have HBq := Aside0.mk (below_step (by repeat (first | (with_reducible first | exact HB.out | apply below_alloc | apply pw_below_drewN | apply below_drew1) | exact HB.out)) hb); clear HB; have HB := HBq; clear HBq hb) | (go_at_call 36; (with_reducible refine (within_go _ _ _ false _ HP.out).mono ?_); rintro e w' ⟨rfl, ⟨nd, rfl⟩⟩))
      go_ret3
      exact ⟨rfl, (by repeat (first | (with_reducible first | exact HB.out | apply below_alloc | apply pw_below_drewN | apply below_drew1) | exact HB.out))⟩
  · have HG := Aside0.mk (Bool.eq_false_iff.mpr hg)
    have hB : Aside0 (openB l0 p = false) := ⟨by unfold openB; rw [HG.out]; rfl⟩
    have e1 : openL l0 p = 0 := by unfold openL; rw [hB.out]; rfl
    have e2 : openR l0 p = 0 := by unfold openR; rw [hB.out]; rfl
    rw [e1, e2, hB.out]
    clear e1 e2 hB hg
    have HB := Aside0.mk (Below.refl w.heap.size w)
    go_enter Try.func27, Try.ntmps27
    go_wp2_with (go_at_call 16; (with_reducible refine (implIsBinding_go _ _ _ l0 _ ?side1 HC0.out HN.out).mono ?_); (case side1 => repeat (first | exact HR0.out | (with_reducible refine Kd.C_alloc ?_ _) | (with_reducible refine Kd.C_drewN ?_ _) | (with_reducible refine Kd.C_drew ?_))); rintro e w1 ⟨rfl, hb⟩; rw [HG.out]; have HBq := Aside0.mk (below_step (by repeat (first | (with_reducible first | exact HB.out | apply below_alloc | apply pw_below_drewN | apply below_drew1) | exact HB.out)) hb); clear HB; have HB := HBq; clear HBq hb)
    go_ret3
    exact ⟨rfl, (by repeat (first | (with_reducible first | exact HB.out | apply below_alloc | apply pw_below_drewN | apply below_drew1) | exact HB.out))⟩
end Go.Proofs.Ytdjoegkoiapoaaa.Own
