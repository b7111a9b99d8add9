/- The least cost and the least of the greatest rests: contracts of the program's and the reference's functions. -/
import Derived.Test.YtpedlkhfeoeogaaDoorLnBest
namespace Go.Proofs.YtpedlkhfeoeogaaDoor.Own
open Go.RowKit Go.Proofs.YtpedlkhfeoeogaaDoorW.PrintWords Go.Proofs.YtpedlkhfeoeogaaDoorW.PrintLast Go.Proofs.YtpedlkhfeoeogaaDoorW.PrintMore
attribute [local go_sem] max2_int min2_int max_two min_two max_three min_three max_four min_four
set_option linter.unusedVariables false
set_option linter.unusedSimpArgs false
def leastRagM (l : List Int) (wide : Int) : Int := if settingB l wide = true then bestM sqPut l wide else 0
def leastWorM (l : List Int) (wide : Int) : Int := if settingB l wide = true then bestM maxPut l wide else 0
set_option maxHeartbeats 8000000 in
set_option maxRecDepth 100000 in
theorem specLeastRag_go (A0 : Option Addr) (n c0 : Nat) (l0 : List Int) (wide : Int) (w : World) (hr0 : Kd.C (Kd.int .i64) w A0 n l0) (hc0 : n ≤ c0) (hn : n < 1073741824) :
  Calls Tryd.prog 39 #[.slice A0 n c0, .int .i64 wide] w fun e w' => e = .returned (.tuple #[.int .i64 (leastRagM l0 wide), .bool (settingB l0 wide)]) ∧ Below w.heap.size w w' := by
 obtain rfl : l0.length = n := hr0.1
 have HR0 := Aside0.mk hr0
 have HC0 := Aside0.mk hc0
 have HN := Aside0.mk hn
 have HB := Aside0.mk (Below.refl w.heap.size w)
 clear hr0 hc0 hn
 by_cases hg : settingB l0 wide = true
 ·have HW := Aside0.mk (settingB_true hg).1
  have HWW := Aside0.mk (settingB_true hg).2.1
  have HG := Aside0.mk hg
  have hM : leastRagM l0 wide = bestM sqPut l0 wide := if_pos hg
  rw [hM, hg]
  clear hM hg
  go_enter Tryd.func39, Tryd.ntmps39
  go_wp2_with (first | (go_at_call 119; (with_reducible refine (lnFits_go _ _ _ l0 wide true _ ?side1 HC0.out HN.out HG.out).mono ?_); (case side1 => exact cr_ HR0.out); rintro e w' ⟨rfl, ⟨nd, rfl⟩⟩) | ((with_reducible refine gate_callee (f := 123) rfl ?_); refine goesL_ (some 12) rfl rfl Tryd.func123 (by kernel_rfl) rfl #[.slice A0 l0.length c0, .int .i64 wide] rfl (by (try simp only [List.map_toArray, List.map_cons, List.map_nil]); first | done | rfl) ?_; (with_reducible refine (lnBest_go _ _ _ l0 wide _ ?side2 HC0.out HW.out HWW.out).mono ?_); (case side2 => exact cr_ HR0.out); rintro e w12 ⟨g, co, rfl, ho, hb⟩; refine ⟨_, rfl, ?_⟩; have HBq := Aside0.mk (below_step bw_ hb); clear HB; have HB := HBq; clear HBq; obtain ⟨hc0_, hf0_⟩ := Kd.R_celln 0 ho 0 (by omega) (by omega); rw [show rdOf 0 (bestL sqPut wide l0) 0 = bestM sqPut l0 wide from rfl] at hc0_; simp only [Int.toNat_zero] at hc0_ hf0_; have HO := Aside0.mk ho; clear ho hb))
  go_ret2
  exact ⟨rfl, bw_⟩
 ·have HG := Aside0.mk (Bool.eq_false_iff.mpr hg)
  have hM : leastRagM l0 wide = 0 := if_neg hg
  rw [hM, HG.out]
  clear hM hg
  go_enter Tryd.func39, Tryd.ntmps39
  go_wp2_with (first | (go_at_call 119; (with_reducible refine (lnFits_go _ _ _ l0 wide false _ ?side1 HC0.out HN.out HG.out).mono ?_); (case side1 => exact cr_ HR0.out); rintro e w' ⟨rfl, ⟨nd, rfl⟩⟩))
  go_ret2
  exact ⟨rfl, bw_⟩
set_option maxHeartbeats 8000000 in
set_option maxRecDepth 100000 in
theorem implLeastRag_go (A0 : Option Addr) (n c0 : Nat) (l0 : List Int) (wide : Int) (w : World) (hr0 : Kd.C (Kd.int .i64) w A0 n l0) (hc0 : n ≤ c0) (hn : n < 1073741824) :
  Calls Tryd.prog 38 #[.slice A0 n c0, .int .i64 wide] w fun e w' => e = .returned (.tuple #[.int .i64 (leastRagM l0 wide), .bool (settingB l0 wide)]) ∧ Below w.heap.size w w' := by
 obtain rfl : l0.length = n := hr0.1
 have HR0 := Aside0.mk hr0
 have HC0 := Aside0.mk hc0
 have HN := Aside0.mk hn
 have HB := Aside0.mk (Below.refl w.heap.size w)
 clear hr0 hc0 hn
 by_cases hg : settingB l0 wide = true
 ·have HW := Aside0.mk (settingB_true hg).1
  have HWW := Aside0.mk (settingB_true hg).2.1
  have HG := Aside0.mk hg
  have hM : leastRagM l0 wide = bestM sqPut l0 wide := if_pos hg
  rw [hM, hg]
  clear hM hg
  go_enter Tryd.func38, Tryd.ntmps38
  go_wp2_with (first | (go_at_call 117; (with_reducible refine (isSetting_go _ _ _ l0 wide true _ ?side1 HC0.out HN.out HG.out).mono ?_); (case side1 => exact cr_ HR0.out); rintro e w' ⟨rfl, ⟨nd, rfl⟩⟩) | ((with_reducible refine gate_callee (f := 121) rfl ?_); refine goesL_ (some 12) rfl rfl Tryd.func121 (by kernel_rfl) rfl #[.slice A0 l0.length c0, .int .i64 wide, .func (.func 122) #[] #[]] rfl (by (try simp only [List.map_toArray, List.map_cons, List.map_nil]); first | done | rfl) ?_; (with_reducible refine (bestSq_go _ _ _ l0 wide _ ?side2 HC0.out HW.out HWW.out).mono ?_); (case side2 => exact cr_ HR0.out); rintro e w12 ⟨g, co, rfl, ho, hb⟩; refine ⟨_, rfl, ?_⟩; have HBq := Aside0.mk (below_step bw_ hb); clear HB; have HB := HBq; clear HBq; obtain ⟨hc0_, hf0_⟩ := Kd.R_celln 0 ho 0 (by omega) (by omega); rw [show rdOf 0 (bestL sqPut wide l0) 0 = bestM sqPut l0 wide from rfl] at hc0_; simp only [Int.toNat_zero] at hc0_ hf0_; have HO := Aside0.mk ho; clear ho hb))
  go_ret2
  exact ⟨rfl, bw_⟩
 ·have HG := Aside0.mk (Bool.eq_false_iff.mpr hg)
  have hM : leastRagM l0 wide = 0 := if_neg hg
  rw [hM, HG.out]
  clear hM hg
  go_enter Tryd.func38, Tryd.ntmps38
  go_wp2_with (first | (go_at_call 117; (with_reducible refine (isSetting_go _ _ _ l0 wide false _ ?side1 HC0.out HN.out HG.out).mono ?_); (case side1 => exact cr_ HR0.out); rintro e w' ⟨rfl, ⟨nd, rfl⟩⟩))
  go_ret2
  exact ⟨rfl, bw_⟩
set_option maxHeartbeats 8000000 in
set_option maxRecDepth 100000 in
theorem implLeastWor_go (A0 : Option Addr) (n c0 : Nat) (l0 : List Int) (wide : Int) (w : World) (hr0 : Kd.C (Kd.int .i64) w A0 n l0) (hc0 : n ≤ c0) (hn : n < 1073741824) :
  Calls Tryd.prog 42 #[.slice A0 n c0, .int .i64 wide] w fun e w' => e = .returned (.tuple #[.int .i64 (leastWorM l0 wide), .bool (settingB l0 wide)]) ∧ Below w.heap.size w w' := by
 obtain rfl : l0.length = n := hr0.1
 have HR0 := Aside0.mk hr0
 have HC0 := Aside0.mk hc0
 have HN := Aside0.mk hn
 have HB := Aside0.mk (Below.refl w.heap.size w)
 clear hr0 hc0 hn
 by_cases hg : settingB l0 wide = true
 ·have HW := Aside0.mk (settingB_true hg).1
  have HWW := Aside0.mk (settingB_true hg).2.1
  have HG := Aside0.mk hg
  have hM : leastWorM l0 wide = bestM maxPut l0 wide := if_pos hg
  rw [hM, hg]
  clear hM hg
  go_enter Tryd.func42, Tryd.ntmps42
  go_wp2_with (first | (go_at_call 117; (with_reducible refine (isSetting_go _ _ _ l0 wide true _ ?side1 HC0.out HN.out HG.out).mono ?_); (case side1 => exact cr_ HR0.out); rintro e w' ⟨rfl, ⟨nd, rfl⟩⟩) | ((with_reducible refine gate_callee (f := 121) rfl ?_); refine goesL_ (some 12) rfl rfl Tryd.func121 (by kernel_rfl) rfl #[.slice A0 l0.length c0, .int .i64 wide, .func (.func 126) #[] #[]] rfl (by (try simp only [List.map_toArray, List.map_cons, List.map_nil]); first | done | rfl) ?_; (with_reducible refine (bestMax_go _ _ _ l0 wide _ ?side2 HC0.out HW.out HWW.out).mono ?_); (case side2 => exact cr_ HR0.out); rintro e w12 ⟨g, co, rfl, ho, hb⟩; refine ⟨_, rfl, ?_⟩; have HBq := Aside0.mk (below_step bw_ hb); clear HB; have HB := HBq; clear HBq; obtain ⟨hc0_, hf0_⟩ := Kd.R_celln 0 ho 0 (by omega) (by omega); rw [show rdOf 0 (bestL maxPut wide l0) 0 = bestM maxPut l0 wide from rfl] at hc0_; simp only [Int.toNat_zero] at hc0_ hf0_; have HO := Aside0.mk ho; clear ho hb))
  go_ret2
  exact ⟨rfl, bw_⟩
 ·have HG := Aside0.mk (Bool.eq_false_iff.mpr hg)
  have hM : leastWorM l0 wide = 0 := if_neg hg
  rw [hM, HG.out]
  clear hM hg
  go_enter Tryd.func42, Tryd.ntmps42
  go_wp2_with (first | (go_at_call 117; (with_reducible refine (isSetting_go _ _ _ l0 wide false _ ?side1 HC0.out HN.out HG.out).mono ?_); (case side1 => exact cr_ HR0.out); rintro e w' ⟨rfl, ⟨nd, rfl⟩⟩))
  go_ret2
  exact ⟨rfl, bw_⟩
set_option maxHeartbeats 8000000 in
set_option maxRecDepth 100000 in
theorem specLeastWor_go (A0 : Option Addr) (n c0 : Nat) (l0 : List Int) (wide : Int) (w : World) (hr0 : Kd.C (Kd.int .i64) w A0 n l0) (hc0 : n ≤ c0) (hn : n < 1073741824) :
  Calls Tryd.prog 43 #[.slice A0 n c0, .int .i64 wide] w fun e w' => e = .returned (.tuple #[.int .i64 (leastWorM l0 wide), .bool (settingB l0 wide)]) ∧ Below w.heap.size w w' := by
 obtain rfl : l0.length = n := hr0.1
 have HR0 := Aside0.mk hr0
 have HRW := Aside0.mk hr0
 have HC0 := Aside0.mk hc0
 have HN := Aside0.mk hn
 have HB := Aside0.mk (Below.refl w.heap.size w)
 clear hr0 hc0 hn
 by_cases hg : settingB l0 wide = true
 ·have HW := Aside0.mk (settingB_true hg).1
  have HWW := Aside0.mk (settingB_true hg).2.1
  have HG := Aside0.mk hg
  have hM : leastWorM l0 wide = bestM maxPut l0 wide := if_pos hg
  rw [hM]
  have HWM : Aside0 (∀ m, 0 ≤ m → 0 ≤ canM l0 wide m ∧ 0 ≤ bestM maxPut l0 wide ∧ (0 < canM l0 wide m ↔ bestM maxPut l0 wide ≤ m)) := ⟨fun m hm => worst_M l0 wide m hg hm⟩
  have HBD : Aside0 (bestM maxPut l0 wide ≤ 192000) := ⟨by
   have hws := wordsB_true HW.out
   have := (bestL_bd maxPut maxPut_ok wide HWW.out.2 l0 hws.2 0).2
   have h2 : bestM maxPut l0 wide ≤ 6400 * l0.length := this
   omega⟩
  rw [hg]
  clear hM hg
  obtain ⟨B, hB⟩ : ∃ B, bestM maxPut l0 wide = B := ⟨_, rfl⟩
  rw [hB] at HWM HBD ⊢
  have hB0 := (HWM.out 0 (by omega)).2.1
  have hB1 := HBD.out
  clear hB
  go_enter Tryd.func43, Tryd.ntmps43
  go_wp2_with (first | (go_at_call 119; (with_reducible refine (lnFits_go _ _ _ l0 wide true _ ?side1 HC0.out HN.out HG.out).mono ?_); (case side1 => exact cr_ HR0.out); rintro e w' ⟨rfl, ⟨nd, rfl⟩⟩))
  go_loopg [6] B.toNat (fun kq v6 w' => ∃ x : Int, v6 = .int .i64 x ∧ Aside0 (0 ≤ x ∧ x + kq = B) ∧ Aside0 (Kd.C (Kd.int .i64) w' A0 l0.length l0) ∧ Aside0 (Below w.heap.size w w'))
  case atStart => exact ⟨0, rfl, ⟨by omega⟩, ⟨by exact cr_ HR0.out⟩, ⟨bw_⟩⟩
  case round =>
   clear HR0 HB
   obtain ⟨x, rfl, HX, HR0, HB⟩ := hrel
   have hx0 := HX.out.1
   have hw2 := HWM.out x hx0
   have hwx : x ≤ 192000 := by have := HX.out; omega
   cases gk with
   | zero =>
    have HXB : Aside0 (x = B) := ⟨by have := HX.out; omega⟩
    have he : (canM l0 wide x == 0) = false := beq_eq_false_iff_ne.mpr (by have := hw2.2.2.2 (by have := HXB.out; omega); omega)
    clear hw2
    go_wp2_with (first | ((with_reducible refine gate_callee (f := 127) rfl ?_); refine goesL_ (some 14) rfl rfl Tryd.func127 (by kernel_rfl) rfl #[.slice A0 l0.length c0, .int .i64 wide, .int .i64 x] rfl (by (try simp only [List.map_toArray, List.map_cons, List.map_nil]); first | done | rfl) ?_; (with_reducible refine (lnCan_go _ _ _ l0 wide x _ ?side2 HC0.out HW.out HWW.out).mono ?_); (case side2 => exact cr_ HR0.out); rintro e w12 ⟨rfl, hb⟩; refine ⟨_, rfl, ?_⟩; have HBq := Aside0.mk (below_step bw_ hb); clear HB; have HB := HBq; have HRq := Aside0.mk (Kd.C_below HRW.out HB.out); clear HR0; have HR0 := HRq; clear HBq HRq hb))
    go_ret2
    exact ⟨ret_ib HXB.out rfl, bw_⟩
   | succ k1 =>
    have he : (canM l0 wide x == 0) = true := beq_iff_eq.mpr (by have := HX.out; have h3 := hw2.1; have h4 := hw2.2.2; omega)
    clear hw2
    go_wp2_with (first | ((with_reducible refine gate_callee (f := 127) rfl ?_); refine goesL_ (some 14) rfl rfl Tryd.func127 (by kernel_rfl) rfl #[.slice A0 l0.length c0, .int .i64 wide, .int .i64 x] rfl (by (try simp only [List.map_toArray, List.map_cons, List.map_nil]); first | done | rfl) ?_; (with_reducible refine (lnCan_go _ _ _ l0 wide x _ ?side2 HC0.out HW.out HWW.out).mono ?_); (case side2 => exact cr_ HR0.out); rintro e w12 ⟨rfl, hb⟩; refine ⟨_, rfl, ?_⟩; have HBq := Aside0.mk (below_step bw_ hb); clear HB; have HB := HBq; have HRq := Aside0.mk (Kd.C_below HRW.out HB.out); clear HR0; have HR0 := HRq; clear HBq HRq hb))
    go_roundg k1
    case measure => omega
    case rel => exact ⟨x + 1, rfl, ⟨by have := HX.out; omega⟩, ⟨by exact cr_ HR0.out⟩, ⟨bw_⟩⟩
 ·have HG := Aside0.mk (Bool.eq_false_iff.mpr hg)
  have hM : leastWorM l0 wide = 0 := if_neg hg
  rw [hM, HG.out]
  clear hM hg
  go_enter Tryd.func43, Tryd.ntmps43
  go_wp2_with (first | (go_at_call 119; (with_reducible refine (lnFits_go _ _ _ l0 wide false _ ?side1 HC0.out HN.out HG.out).mono ?_); (case side1 => exact cr_ HR0.out); rintro e w' ⟨rfl, ⟨nd, rfl⟩⟩))
  go_ret2
  exact ⟨rfl, bw_⟩
end Go.Proofs.YtpedlkhfeoeogaaDoor.Own
