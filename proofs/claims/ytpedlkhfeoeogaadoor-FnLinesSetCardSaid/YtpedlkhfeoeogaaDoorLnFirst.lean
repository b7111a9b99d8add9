/- The first lines with the least cost: contracts of the program's and the reference's functions. -/
import Derived.Test.YtpedlkhfeoeogaaDoorLnLeast
namespace Go.Proofs.YtpedlkhfeoeogaaDoor.Own
open Go.RowKit Go.Proofs.YtpedlkhfeoeogaaDoorW.PrintWords Go.Proofs.YtpedlkhfeoeogaaDoorW.PrintLast Go.Proofs.YtpedlkhfeoeogaaDoorW.PrintMore
attribute [local go_sem] max2_int min2_int max_two min_two max_three min_three max_four min_four
set_option linter.unusedVariables false
set_option linter.unusedSimpArgs false
theorem sq_bd2 {x : Int} (h1 : -3000 ≤ x) (h2 : x ≤ 3000) : 0 ≤ x * x ∧ x * x ≤ 9000000 := by
 rcases Int.le_total 0 x with h | h
 ·exact ⟨Int.mul_nonneg h h, by have := Int.mul_le_mul h2 h2 h (by omega : (0 : Int) ≤ 3000); omega⟩
 ·have h3 : 0 ≤ -x := by omega
  have h4 : -x ≤ 3000 := by omega
  have e : x * x = (-x) * (-x) := by rw [Int.neg_mul_neg]
  rw [e]
  exact ⟨Int.mul_nonneg h3 h3, by have := Int.mul_le_mul h4 h4 h3 (by omega : (0 : Int) ≤ 3000); omega⟩
set_option maxHeartbeats 8000000 in
set_option maxRecDepth 100000 in
theorem squareF_go (r c p : Int) (w : World) (h : sqPut r c = p) (h0 : -3000 ≤ r) (h1 : r ≤ 3000) (h2 : -1 ≤ c) (h3 : c ≤ 192000) :
  Calls Tryd.prog 122 #[.int .i64 r, .int .i64 c] w fun e w' => e = .returned (.int .i64 p) ∧ Drawn0 w w' := by
 have hb := sq_bd2 h0 h1
 unfold sqPut at h
 subst h
 go_enter Tryd.func122, Tryd.ntmps122
 go_wp2
 go_ret
 exact ⟨rfl, (by repeat (first | exact Drawn0.refl _ | apply Drawn0.step))⟩
set_option maxHeartbeats 8000000 in
set_option maxRecDepth 100000 in
theorem specFirst_go (A0 : Option Addr) (n c0 : Nat) (l0 : List Int) (wide : Int) (w : World) (hr0 : Kd.C (Kd.int .i64) w A0 n l0) (hc0 : n ≤ c0) (hn : n < 1073741824) :
  Calls Tryd.prog 41 #[.slice A0 n c0, .int .i64 wide] w fun e w' => ∃ v : Value, e = .returned (.tuple #[v, .bool (settingB l0 wide)]) ∧ Kd.R (Kd.int .i64) 3 w' w.heap.size (fun _ => True) v (firstM l0 wide) ∧ Below w.heap.size w w' := by
 obtain rfl : l0.length = n := hr0.1
 have HR0 := Aside0.mk hr0
 have HRW := Aside0.mk hr0
 have HC0 := Aside0.mk hc0
 have HN := Aside0.mk hn
 have HB := Aside0.mk (Below.refl w.heap.size w)
 clear hr0 hc0 hn
 by_cases hg : settingB l0 wide = true
 ·have HW := Aside0.mk (settingB_true hg).1
  have HWW := Aside0.mk (settingB_true hg).2.1
  have hwd := HWW.out
  have HWS0 := Aside0.mk (wordsB_true HW.out).2
  have hlen := (wordsB_true HW.out).1
  have HG := Aside0.mk hg
  have hM : firstM l0 wide = firstS wide l0 := if_pos hg
  rw [hM, hg]
  clear hM hg
  go_enter Tryd.func41, Tryd.ntmps41
  go_wp2_with (first | (go_at_call 119; (with_reducible refine (lnFits_go _ _ _ l0 wide true _ ?side1 HC0.out HN.out HG.out).mono ?_); (case side1 => exact cr_ HR0.out); rintro e w' ⟨rfl, ⟨nd, rfl⟩⟩) | ((with_reducible refine gate_callee (f := 123) rfl ?_); refine goesL_ (some 17) rfl rfl Tryd.func123 (by kernel_rfl) rfl #[.slice A0 l0.length c0, .int .i64 wide] rfl (by (try simp only [List.map_toArray, List.map_cons, List.map_nil]); first | done | rfl) ?_; (with_reducible refine (lnBest_go _ _ _ l0 wide _ ?side2 HC0.out HW.out HWW.out).mono ?_); (case side2 => exact cr_ HR0.out); rintro e w12 ⟨g, co, rfl, ho, hb⟩; refine ⟨_, rfl, ?_⟩; have hlt_ : g < w12.heap.size := Kd.R_lt ho g rfl; have hge_ := Kd.R_base ho g rfl; have HRCq : Aside0 (RowCells w12 g (bestL sqPut wide l0)) := ⟨⟨hlt_, fun i hi => by have h_ := (Kd.R_celln 0 ho (i : Int) (by omega) (by rw [bestL_length] at hi; omega)).1; rw [show ((i : Int)).toNat = i from (by omega)] at h_; rw [h_]; unfold rdOf; rw [show ((i : Int)).toNat = i from (by omega)]⟩⟩; skip; have HBq := Aside0.mk (below_step bw_ hb); clear HB; have HB := HBq; have HRC := HRCq; clear HBq hb ho HRCq))
  go_loopg [7, 8] (l0.length) (fun kq v7 v8 w' => ∃ (x8 : Int) (i : Nat) (out : List Int), v8 = .int .i64 x8 ∧ Aside0 (x8 = (i : Int) ∧ kq + i = l0.length ∧ out.length ≤ i) ∧ Aside0 (out ++ firstS wide (l0.drop i) = firstS wide l0) ∧ Aside0 (Kd.R (Kd.int .i64) 3 w' w.heap.size (fun _ => True) v7 out) ∧ Aside0 (v7.ownBlock ≠ some g) ∧ Aside0 (RowCells w' g (bestL sqPut wide l0)) ∧ Aside0 (Kd.C (Kd.int .i64) w' A0 l0.length l0) ∧ Aside0 (Below w.heap.size w w'))
  case atStart => exact ⟨0, 0, [], rfl, ⟨by simp⟩, ⟨by simp⟩, ⟨Kd.R_nil _ _ _ _ _⟩, ⟨by simp [Value.ownBlock]⟩, ⟨HRC.out⟩, ⟨Kd.C_below HRW.out bw_⟩, ⟨bw_⟩⟩
  case round =>
   clear HRC HR0 HB
   obtain ⟨x8, i, out, rfl, HX8, HE, HO, HNE, HRC, HR0, HB⟩ := hrel
   have HL : Aside0 (out.length ≤ 30) := ⟨by have := HX8.out; omega⟩
   by_cases hil : i < l0.length
   ·have hx8 : 0 ≤ x8 := by have := HX8.out; omega
    have hx8b : x8 < (l0.length : Int) := by have := HX8.out; omega
    have hx8c : x8 ≤ 30 := by omega
    obtain ⟨K, hK⟩ : ∃ K, endK wide (l0.drop i) (bestL sqPut wide (l0.drop i)) ((l0.drop i).length - 1) 1 = K := ⟨_, rfl⟩
    have HK := Aside0.mk hK
    clear hK
    go_wp2
    go_loopg [9] (l0.length - i - 1) (fun kq v9 w' => ∃ (x9 : Int) (j : Nat), v9 = .int .i64 x9 ∧ Aside0 (x9 = (i : Int) + j ∧ 1 ≤ j ∧ kq + j + i = l0.length) ∧ Aside0 (endK wide (l0.drop i) (bestL sqPut wide (l0.drop i)) kq j = K) ∧ Aside0 (Kd.R (Kd.int .i64) 3 w' w.heap.size (fun _ => True) u7 out) ∧ Aside0 (RowCells w' g (bestL sqPut wide l0)) ∧ Aside0 (Kd.C (Kd.int .i64) w' A0 l0.length l0) ∧ Aside0 (Below w.heap.size w w'))
    case atStart => exact ⟨x8 + 1, 1, rfl, ⟨by have := HX8.out; omega⟩, ⟨by have := HK.out; rw [List.length_drop] at this; exact this⟩, ⟨rr_ HO.out⟩, ⟨by repeat (first | exact HRC.out | apply RowCells.drewN)⟩, ⟨by exact cr_ HR0.out⟩, ⟨bw_⟩⟩
    case round =>
     clear HO HRC HR0 HB
     obtain ⟨x9, j, rfl, HX, HKK, HO, HRC, HR0, HB⟩ := hrel
     have hx98 : x8 ≤ x9 := by have := HX.out; have := HX8.out; omega
     have hx90 : 0 ≤ x9 := by omega
     have hx93 : x9 ≤ 30 := by have := HX.out; omega
     cases gk with
     | zero =>
      have hx9 : (l0.length : Int) ≤ x9 := by have := HX.out; omega
      have hd9 : decide (x9 < (l0.length : Int)) = false := decide_eq_false (by omega)
      have HKE : Aside0 (endK wide (l0.drop i) (bestL sqPut wide (l0.drop i)) ((l0.drop i).length - 1) 1 = j) := ⟨HK.out.trans HKK.out.symm⟩
      have HE2 : Aside0 ((out ++ [x9 - x8]) ++ firstS wide (l0.drop (i + j)) = firstS wide l0) := ⟨by
       have h := HE.out
       rw [firstS_step wide (l0.drop i) (by rw [List.length_drop]; omega), HKE.out] at h
       rw [show x9 - x8 = (j : Int) from by have := HX8.out; have := HX.out; omega, List.append_assoc, ← h, List.drop_drop]; rfl⟩
      go_wp2_with (first | ((with_reducible refine gate_builtin (b := .append) (xs := #[.tmp 50, .tmp 54]) rfl ?_); at_builtin; refine R_append1k (w0 := w) w.heap.size rfl (.tmp 50) (.tmp 54) 24 3 rfl Tryd.underlying24 infoI _ out (x9 - x8) rfl rfl ?aO ?aB ?aS ?aL ?_; (case aO => ((with_reducible repeat (first | apply Kd.R_alloc | apply Kd.R_drewN | apply Kd.R_drew)); exact HO.out)); (case aB => exact bw_); (case aS => exact (below_size bw_)); (case aL => have := HL.out; omega); intro v1 w1 ho hb hgb hnew; have HRCq := Aside0.mk (RowCells.grown (by first | exact HRC.out | exact RowCells.drewN HRC.out _ | exact RowCells.drewN (RowCells.drewN HRC.out _) _) hgb HNE.out); have HNEq : Aside0 (v1.ownBlock ≠ some g) := ⟨by rcases hnew with h_ | ⟨b_, h_, h2_⟩ <;> rw [h_]; exact HNE.out; (intro h3_; have h4_ := HRC.out.1; injection h3_ with h3_; rw [h3_] at h2_; exact absurd (Nat.le_trans h2_ (Nat.le_refl _)) (Nat.not_le.2 (by simpa using h4_)))⟩; clear HO HB HRC HNE hgb hnew; have HO := Aside0.mk ho; have HB := Aside0.mk hb; have HRC := HRCq; have HNE := HNEq; clear ho hb HRCq HNEq))
      go_roundg (l0.length - (i + j))
      case measure => have := HX8.out; have := HX.out; omega
      case rel => exact ⟨x9, i + j, _, rfl, ⟨by have := HX8.out; have := HX.out; have := HL.out; simp only [List.length_append, List.length_singleton]; omega⟩, ⟨HE2.out⟩, ⟨rr_ HO.out⟩, ⟨HNE.out⟩, ⟨by repeat (first | exact HRC.out | apply RowCells.drewN)⟩, ⟨Kd.C_below HRW.out bw_⟩, ⟨bw_⟩⟩
     | succ f =>
      have hx9 : x9 < (l0.length : Int) := by have := HX.out; omega
      have hd9 : decide (x9 < (l0.length : Int)) = true := decide_eq_true hx9
      have HJ := HX.out
      obtain ⟨i0, hi0, _, hsz0, _⟩ := info_parts infoI
      obtain ⟨A2, hcut, hA2, hC2⟩ := print_mid_of (P := Tryd.prog) (Value.int .i64) 0 24 3 .i64 .i64 Tryd.underlying24 hi0 hsz0 A0 c0 l0 x8 x9 hx8 hx98 (by omega) HC0.out
      have e9 : x9.toNat = i + j := by omega
      have e8 : x8.toNat = i := by have := HX8.out; omega
      have hst : (l0.take x9.toNat).drop x8.toNat = (l0.drop i).take j := by rw [e9, e8, List.drop_take, Nat.add_sub_cancel_left]
      obtain ⟨sg, hsg⟩ : ∃ sg, (l0.drop i).take j = sg := ⟨_, rfl⟩
      rw [hst, hsg] at hcut hA2 hC2
      have HRS := Aside0.mk (Kd.C_of_reads (h1 := fun _ => rfl) (hA2 _ (Kd.reads_of_C HR0.out)))
      have HCS := Aside0.mk hC2
      have HWS : Aside0 (sg.length ≤ 30 ∧ ∀ n ∈ sg, 1 ≤ n ∧ n ≤ 80) := ⟨by rw [← hsg, List.length_take, List.length_drop]; omega, fun n hn => HWS0.out n (List.mem_of_mem_drop (List.mem_of_mem_take (by rw [hsg]; exact hn)))⟩
      have hnb : -1 ≤ needL sg ∧ needL sg ≤ 2500 := by have := sum_bd _ HWS.out.2; have := HWS.out.1; unfold needL; omega
      replace HWS : Aside0 (sg.length ≤ 1000 ∧ ∀ n ∈ sg, 1 ≤ n ∧ n ≤ 80) := ⟨by have := HWS.out.1; omega, HWS.out.2⟩
      obtain ⟨nd0, hnd⟩ : ∃ nd0, needL sg = nd0 := ⟨_, rfl⟩
      rw [hnd] at hnb
      have HND := Aside0.mk hnd
      obtain ⟨v2, hv2⟩ : ∃ v2, (bestL sqPut wide (l0.drop i)).getD j 0 = v2 := ⟨_, rfl⟩
      obtain ⟨v0, hv0⟩ : ∃ v0, (bestL sqPut wide (l0.drop i)).getD 0 0 = v0 := ⟨_, rfl⟩
      have hbb := bestL_bd sqPut sqPut_ok wide hwd.2 (l0.drop i) (fun n hn => HWS0.out n (List.mem_of_mem_drop hn))
      have hdl := @List.length_drop Int i l0
      have hvb := hbb j
      have hvb0 := hbb 0
      rw [hv2] at hvb
      rw [hv0] at hvb0
      have hc9_ := HRC.out.2 x9.toNat (by rw [bestL_length]; omega)
      rw [show (bestL sqPut wide l0).getD x9.toNat 0 = v2 from by rw [e9, bestL_drop sqPut wide i l0 (by omega), hv2]] at hc9_
      have hc8_ := HRC.out.2 x8.toNat (by rw [bestL_length]; omega)
      rw [show (bestL sqPut wide l0).getD x8.toNat 0 = v0 from by rw [e8, show i = i + 0 from rfl, bestL_drop sqPut wide i l0 (by omega), hv0]] at hc8_
      have HCE := HKK.out
      rw [endK, hsg, hnd, hv2, hv0] at HCE
      have hvb1 : -1 ≤ v2 ∧ v2 ≤ 192000 := by omega
      have hvb2 : -1 ≤ v0 ∧ v0 ≤ 192000 := by omega
      have hlc : (bestL sqPut wide l0).length = l0.length + 1 := bestL_length ..
      rw [hlc] at *
      obtain ⟨pv, hpv⟩ : ∃ pv, sqPut (wide - nd0) v2 = pv := ⟨_, rfl⟩
      rw [hpv] at HCE
      have hpe : (wide - nd0) * (wide - nd0) + v2 = pv := hpv
      have hsq := sq_bd2 (x := wide - nd0) (by omega) (by omega)
      have HPV := Aside0.mk hpv
      clear HJ e9 e8 hst hsg hA2 hC2 hi0 hsz0 hnd hv2 hv0 hbb hdl hvb hvb0 hpv hlc
      by_cases c1 : pv = v0
      ·rw [if_pos c1] at HCE
       have HCJ := Aside0.mk HCE
       have he1 : ((wide - nd0) * (wide - nd0) + v2 == v0) = true := beq_iff_eq.mpr (by omega)
       have he2 : ((wide - nd0) * (wide - nd0) + v2 != v0) = false := bne_eq_false_iff_eq.mpr (by omega)
       have HKE : Aside0 (endK wide (l0.drop i) (bestL sqPut wide (l0.drop i)) ((l0.drop i).length - 1) 1 = j) := ⟨HK.out.trans HCJ.out.symm⟩
       clear HCE HKK c1 hpe
       have HE2 : Aside0 ((out ++ [x9 - x8]) ++ firstS wide (l0.drop (i + j)) = firstS wide l0) := ⟨by
        have h := HE.out
        rw [firstS_step wide (l0.drop i) (by rw [List.length_drop]; omega), HKE.out] at h
        rw [show x9 - x8 = (j : Int) from by have := HX8.out; have := HX.out; omega, List.append_assoc, ← h, List.drop_drop]; rfl⟩
       go_wp2_with (first | (go_at_call 125; (with_reducible refine (need_go _ _ _ sg nd0 _ ?side1 HCS.out HWS.out HND.out).mono ?_); (case side1 => exact cr_ HRS.out); rintro e w' ⟨rfl, ⟨nd, rfl⟩⟩))
       go_quiet (fail)
       go_wp2_with (first | ((with_reducible refine gate_builtin (b := .append) (xs := #[.tmp 50, .tmp 54]) rfl ?_); at_builtin; refine R_append1k (w0 := w) w.heap.size rfl (.tmp 50) (.tmp 54) 24 3 rfl Tryd.underlying24 infoI _ out (x9 - x8) rfl rfl ?aO ?aB ?aS ?aL ?_; (case aO => ((with_reducible repeat (first | apply Kd.R_alloc | apply Kd.R_drewN | apply Kd.R_drew)); exact HO.out)); (case aB => exact bw_); (case aS => exact (below_size bw_)); (case aL => have := HL.out; omega); intro v1 w1 ho hb hgb hnew; have HRCq := Aside0.mk (RowCells.grown (by first | exact HRC.out | exact RowCells.drewN HRC.out _ | exact RowCells.drewN (RowCells.drewN HRC.out _) _) hgb HNE.out); have HNEq : Aside0 (v1.ownBlock ≠ some g) := ⟨by rcases hnew with h_ | ⟨b_, h_, h2_⟩ <;> rw [h_]; exact HNE.out; (intro h3_; have h4_ := HRC.out.1; injection h3_ with h3_; rw [h3_] at h2_; exact absurd (Nat.le_trans h2_ (Nat.le_refl _)) (Nat.not_le.2 (by simpa using h4_)))⟩; clear HO HB HRC HNE hgb hnew; have HO := Aside0.mk ho; have HB := Aside0.mk hb; have HRC := HRCq; have HNE := HNEq; clear ho hb HRCq HNEq))
       go_roundg (l0.length - (i + j))
       case measure => have := HX8.out; have := HX.out; omega
       case rel => exact ⟨x9, i + j, _, rfl, ⟨by have := HX8.out; have := HX.out; have := HL.out; simp only [List.length_append, List.length_singleton]; omega⟩, ⟨HE2.out⟩, ⟨rr_ HO.out⟩, ⟨HNE.out⟩, ⟨by repeat (first | exact HRC.out | apply RowCells.drewN)⟩, ⟨Kd.C_below HRW.out bw_⟩, ⟨bw_⟩⟩
      ·rw [if_neg c1] at HCE
       have HCJ := Aside0.mk HCE
       have he1 : ((wide - nd0) * (wide - nd0) + v2 == v0) = false := beq_eq_false_iff_ne.mpr (by omega)
       have he2 : ((wide - nd0) * (wide - nd0) + v2 != v0) = true := bne_iff_ne.mpr (by omega)
       clear HCE HKK c1 hpe
       go_wp2_with (first | (go_at_call 125; (with_reducible refine (need_go _ _ _ sg nd0 _ ?side1 HCS.out HWS.out HND.out).mono ?_); (case side1 => exact cr_ HRS.out); rintro e w' ⟨rfl, ⟨nd, rfl⟩⟩))
       go_quiet (fail)
       go_wp2
       go_roundg f
       case measure => omega
       case rel => exact ⟨x9 + 1, j + 1, rfl, ⟨by have := HX.out; omega⟩, ⟨HCJ.out⟩, ⟨rr_ HO.out⟩, ⟨by repeat (first | exact HRC.out | apply RowCells.drewN)⟩, ⟨by exact cr_ HR0.out⟩, ⟨bw_⟩⟩
   ·have hx8 : (l0.length : Int) ≤ x8 := by have := HX8.out; omega
    have HE2 : Aside0 (out = firstS wide l0) := ⟨by have h := HE.out; rw [List.drop_eq_nil_iff.2 (by omega), firstS_nil, List.append_nil] at h; exact h⟩
    rw [HE2.out] at HO
    go_wp2
    go_ret2
    exact ⟨_, rfl, rr_ HO.out, bw_⟩
 ·have HG := Aside0.mk (Bool.eq_false_iff.mpr hg)
  have hM : firstM l0 wide = [] := if_neg hg
  rw [hM, HG.out]
  clear hM hg
  go_enter Tryd.func41, Tryd.ntmps41
  go_wp2_with (first | (go_at_call 119; (with_reducible refine (lnFits_go _ _ _ l0 wide false _ ?side1 HC0.out HN.out HG.out).mono ?_); (case side1 => exact cr_ HR0.out); rintro e w' ⟨rfl, ⟨nd, rfl⟩⟩))
  go_ret2
  exact ⟨_, rfl, Kd.R_nil _ _ _ _ _, bw_⟩
set_option maxHeartbeats 8000000 in
set_option maxRecDepth 100000 in
theorem implFirst_go (A0 : Option Addr) (n c0 : Nat) (l0 : List Int) (wide : Int) (w : World) (hr0 : Kd.C (Kd.int .i64) w A0 n l0) (hc0 : n ≤ c0) (hn : n < 1073741824) :
  Calls Tryd.prog 40 #[.slice A0 n c0, .int .i64 wide] w fun e w' => ∃ v : Value, e = .returned (.tuple #[v, .bool (settingB l0 wide)]) ∧ Kd.R (Kd.int .i64) 3 w' w.heap.size (fun _ => True) v (firstM l0 wide) ∧ Below w.heap.size w w' := by
 obtain rfl : l0.length = n := hr0.1
 have HR0 := Aside0.mk hr0
 have HRW := Aside0.mk hr0
 have HC0 := Aside0.mk hc0
 have HN := Aside0.mk hn
 have HB := Aside0.mk (Below.refl w.heap.size w)
 clear hr0 hc0 hn
 by_cases hg : settingB l0 wide = true
 ·have HW := Aside0.mk (settingB_true hg).1
  have HWW := Aside0.mk (settingB_true hg).2.1
  have hwd := HWW.out
  have HWS0 := Aside0.mk (wordsB_true HW.out).2
  have hlen := (wordsB_true HW.out).1
  have HG := Aside0.mk hg
  have hM : firstM l0 wide = firstS wide l0 := if_pos hg
  rw [hM, hg]
  clear hM hg
  go_enter Tryd.func40, Tryd.ntmps40
  go_wp2_with (first | (go_at_call 117; (with_reducible refine (isSetting_go _ _ _ l0 wide true _ ?side1 HC0.out HN.out HG.out).mono ?_); (case side1 => exact cr_ HR0.out); rintro e w' ⟨rfl, ⟨nd, rfl⟩⟩) | ((with_reducible refine gate_dst (N := 14) rfl ?_); refine Kd.R_lit (Kd.int .i64) _ 3 ?hg (N := 14) ?hd (xs := ([] : List Int)) (inner := []) (ok := fun _ => True) (okp := fun _ => True) ?hr ?hp (fun _ hk => hk) trivial (Below.refl _ _) (Nat.le_refl _) (by simp) ?_; (case hd => rfl); (case hg => rfl); (case hr => first | (go_simp; done) | (go_simp; rfl)); (case hp => exact (Reps.none _ _)); intro v14 w2 ho hb hg_ hnew_; clear hg_ hnew_; have HO0 := Aside0.mk (Kd.R_lower ho (below_size bw_)); have n1_ := Aside0.mk (below_step bw_ hb); have n2_ := Aside0.mk (Kd.C_below (by exact cr_ HR0.out) hb); clear HB HR0; have HB := n1_; have HR0 := n2_; clear n1_ n2_ hb ho) | ((with_reducible refine gate_callee (f := 121) rfl ?_); refine goesL_ (some 17) rfl rfl Tryd.func121 (by kernel_rfl) rfl #[.slice A0 l0.length c0, .int .i64 wide, .func (.func 122) #[] #[]] rfl (by (try simp only [List.map_toArray, List.map_cons, List.map_nil]); first | done | rfl) ?_; (with_reducible refine (bestSq_go _ _ _ l0 wide _ ?side2 HC0.out HW.out HWW.out).mono ?_); (case side2 => exact cr_ HR0.out); rintro e w12 ⟨g, co, rfl, ho, hb⟩; refine ⟨_, rfl, ?_⟩; have hlt_ : g < w12.heap.size := Kd.R_lt ho g rfl; have hge_ := Kd.R_base ho g rfl; have HRCq : Aside0 (RowCells w12 g (bestL sqPut wide l0)) := ⟨⟨hlt_, fun i hi => by have h_ := (Kd.R_celln 0 ho (i : Int) (by omega) (by rw [bestL_length] at hi; omega)).1; rw [show ((i : Int)).toNat = i from (by omega)] at h_; rw [h_]; unfold rdOf; rw [show ((i : Int)).toNat = i from (by omega)]⟩⟩; have HOq := Aside0.mk (Kd.R_below (rr_ HO0.out) hb); have HNE0 : Aside0 (v14.ownBlock ≠ some g) := ⟨fun h_ => by have h2_ := Kd.R_lt HO0.out g h_; exact absurd hge_ (by simpa using (Nat.not_le.2 h2_))⟩; clear HO0; have HO0 := HOq; clear HOq; have HBq := Aside0.mk (below_step bw_ hb); clear HB; have HB := HBq; have HRC := HRCq; clear HBq hb ho HRCq))
  go_loopg [6, 8] (l0.length) (fun kq v6 v8 w' => ∃ (x8 : Int) (i : Nat) (out : List Int), v8 = .int .i64 x8 ∧ Aside0 (x8 = (i : Int) ∧ kq + i = l0.length ∧ out.length ≤ i) ∧ Aside0 (out ++ firstS wide (l0.drop i) = firstS wide l0) ∧ Aside0 (Kd.R (Kd.int .i64) 3 w' w.heap.size (fun _ => True) v6 out) ∧ Aside0 (v6.ownBlock ≠ some g) ∧ Aside0 (RowCells w' g (bestL sqPut wide l0)) ∧ Aside0 (Kd.C (Kd.int .i64) w' A0 l0.length l0) ∧ Aside0 (Below w.heap.size w w'))
  case atStart => exact ⟨0, 0, [], rfl, ⟨by simp⟩, ⟨by simp⟩, ⟨rr_ HO0.out⟩, ⟨HNE0.out⟩, ⟨HRC.out⟩, ⟨Kd.C_below HRW.out bw_⟩, ⟨bw_⟩⟩
  case round =>
   clear HRC HR0 HB HO0 HNE0
   obtain ⟨x8, i, out, rfl, HX8, HE, HO, HNE, HRC, HR0, HB⟩ := hrel
   have HL : Aside0 (out.length ≤ 30) := ⟨by have := HX8.out; omega⟩
   by_cases hil : i < l0.length
   ·have hx8 : 0 ≤ x8 := by have := HX8.out; omega
    have hx8b : x8 < (l0.length : Int) := by have := HX8.out; omega
    have hx8c : x8 ≤ 30 := by omega
    obtain ⟨K, hK⟩ : ∃ K, endK wide (l0.drop i) (bestL sqPut wide (l0.drop i)) ((l0.drop i).length - 1) 1 = K := ⟨_, rfl⟩
    have HK := Aside0.mk hK
    clear hK
    go_wp2
    go_loopg [9] (l0.length - i - 1) (fun kq v9 w' => ∃ (x9 : Int) (j : Nat), v9 = .int .i64 x9 ∧ Aside0 (x9 = (i : Int) + j ∧ 1 ≤ j ∧ kq + j + i = l0.length) ∧ Aside0 (endK wide (l0.drop i) (bestL sqPut wide (l0.drop i)) kq j = K) ∧ Aside0 (Kd.R (Kd.int .i64) 3 w' w.heap.size (fun _ => True) u6 out) ∧ Aside0 (RowCells w' g (bestL sqPut wide l0)) ∧ Aside0 (Kd.C (Kd.int .i64) w' A0 l0.length l0) ∧ Aside0 (Below w.heap.size w w'))
    case atStart => exact ⟨x8 + 1, 1, rfl, ⟨by have := HX8.out; omega⟩, ⟨by have := HK.out; rw [List.length_drop] at this; exact this⟩, ⟨rr_ HO.out⟩, ⟨by repeat (first | exact HRC.out | apply RowCells.drewN)⟩, ⟨by exact cr_ HR0.out⟩, ⟨bw_⟩⟩
    case round =>
     clear HO HRC HR0 HB
     obtain ⟨x9, j, rfl, HX, HKK, HO, HRC, HR0, HB⟩ := hrel
     have hx98 : x8 ≤ x9 := by have := HX.out; have := HX8.out; omega
     have hx90 : 0 ≤ x9 := by omega
     have hx93 : x9 ≤ 30 := by have := HX.out; omega
     cases gk with
     | zero =>
      have hx9 : (l0.length : Int) ≤ x9 := by have := HX.out; omega
      have hd9 : decide (x9 < (l0.length : Int)) = false := decide_eq_false (by omega)
      have HKE : Aside0 (endK wide (l0.drop i) (bestL sqPut wide (l0.drop i)) ((l0.drop i).length - 1) 1 = j) := ⟨HK.out.trans HKK.out.symm⟩
      have HE2 : Aside0 ((out ++ [x9 - x8]) ++ firstS wide (l0.drop (i + j)) = firstS wide l0) := ⟨by
       have h := HE.out
       rw [firstS_step wide (l0.drop i) (by rw [List.length_drop]; omega), HKE.out] at h
       rw [show x9 - x8 = (j : Int) from by have := HX8.out; have := HX.out; omega, List.append_assoc, ← h, List.drop_drop]; rfl⟩
      go_wp2
      go_quiet (fail)
      go_wp2_with (first | ((with_reducible refine gate_builtin (b := .append) (xs := #[.tmp 49, .tmp 53]) rfl ?_); at_builtin; refine R_append1k (w0 := w) w.heap.size rfl (.tmp 49) (.tmp 53) 24 3 rfl Tryd.underlying24 infoI _ out (x9 - x8) rfl rfl ?aO ?aB ?aS ?aL ?_; (case aO => ((with_reducible repeat (first | apply Kd.R_alloc | apply Kd.R_drewN | apply Kd.R_drew)); exact HO.out)); (case aB => exact bw_); (case aS => exact (below_size bw_)); (case aL => have := HL.out; omega); intro v1 w1 ho hb hgb hnew; have HRCq := Aside0.mk (RowCells.grown (by first | exact HRC.out | exact RowCells.drewN HRC.out _ | exact RowCells.drewN (RowCells.drewN HRC.out _) _) hgb HNE.out); have HNEq : Aside0 (v1.ownBlock ≠ some g) := ⟨by rcases hnew with h_ | ⟨b_, h_, h2_⟩ <;> rw [h_]; exact HNE.out; (intro h3_; have h4_ := HRC.out.1; injection h3_ with h3_; rw [h3_] at h2_; exact absurd (Nat.le_trans h2_ (Nat.le_refl _)) (Nat.not_le.2 (by simpa using h4_)))⟩; clear HO HB HRC HNE hgb hnew; have HO := Aside0.mk ho; have HB := Aside0.mk hb; have HRC := HRCq; have HNE := HNEq; clear ho hb HRCq HNEq))
      go_roundg (l0.length - (i + j))
      case measure => have := HX8.out; have := HX.out; omega
      case rel => exact ⟨x9, i + j, _, rfl, ⟨by have := HX8.out; have := HX.out; have := HL.out; simp only [List.length_append, List.length_singleton]; omega⟩, ⟨HE2.out⟩, ⟨rr_ HO.out⟩, ⟨HNE.out⟩, ⟨by repeat (first | exact HRC.out | apply RowCells.drewN)⟩, ⟨Kd.C_below HRW.out bw_⟩, ⟨bw_⟩⟩
     | succ f =>
      have hx9 : x9 < (l0.length : Int) := by have := HX.out; omega
      have hd9 : decide (x9 < (l0.length : Int)) = true := decide_eq_true hx9
      have HJ := HX.out
      obtain ⟨i0, hi0, _, hsz0, _⟩ := info_parts infoI
      obtain ⟨A2, hcut, hA2, hC2⟩ := print_mid_of (P := Tryd.prog) (Value.int .i64) 0 24 3 .i64 .i64 Tryd.underlying24 hi0 hsz0 A0 c0 l0 x8 x9 hx8 hx98 (by omega) HC0.out
      have e9 : x9.toNat = i + j := by omega
      have e8 : x8.toNat = i := by have := HX8.out; omega
      have hst : (l0.take x9.toNat).drop x8.toNat = (l0.drop i).take j := by rw [e9, e8, List.drop_take, Nat.add_sub_cancel_left]
      obtain ⟨sg, hsg⟩ : ∃ sg, (l0.drop i).take j = sg := ⟨_, rfl⟩
      rw [hst, hsg] at hcut hA2 hC2
      have HRS := Aside0.mk (Kd.C_of_reads (h1 := fun _ => rfl) (hA2 _ (Kd.reads_of_C HR0.out)))
      have HCS := Aside0.mk hC2
      have HWS : Aside0 (sg.length ≤ 30 ∧ ∀ n ∈ sg, 1 ≤ n ∧ n ≤ 80) := ⟨by rw [← hsg, List.length_take, List.length_drop]; omega, fun n hn => HWS0.out n (List.mem_of_mem_drop (List.mem_of_mem_take (by rw [hsg]; exact hn)))⟩
      have hnb : -1 ≤ needL sg ∧ needL sg ≤ 2500 := by have := sum_bd _ HWS.out.2; have := HWS.out.1; unfold needL; omega
      replace HWS : Aside0 (sg.length ≤ 1000 ∧ ∀ n ∈ sg, 1 ≤ n ∧ n ≤ 80) := ⟨by have := HWS.out.1; omega, HWS.out.2⟩
      obtain ⟨nd0, hnd⟩ : ∃ nd0, needL sg = nd0 := ⟨_, rfl⟩
      rw [hnd] at hnb
      have HND := Aside0.mk hnd
      obtain ⟨v2, hv2⟩ : ∃ v2, (bestL sqPut wide (l0.drop i)).getD j 0 = v2 := ⟨_, rfl⟩
      obtain ⟨v0, hv0⟩ : ∃ v0, (bestL sqPut wide (l0.drop i)).getD 0 0 = v0 := ⟨_, rfl⟩
      have hbb := bestL_bd sqPut sqPut_ok wide hwd.2 (l0.drop i) (fun n hn => HWS0.out n (List.mem_of_mem_drop hn))
      have hdl := @List.length_drop Int i l0
      have hvb := hbb j
      have hvb0 := hbb 0
      rw [hv2] at hvb
      rw [hv0] at hvb0
      have hc9_ := HRC.out.2 x9.toNat (by rw [bestL_length]; omega)
      rw [show (bestL sqPut wide l0).getD x9.toNat 0 = v2 from by rw [e9, bestL_drop sqPut wide i l0 (by omega), hv2]] at hc9_
      have hc8_ := HRC.out.2 x8.toNat (by rw [bestL_length]; omega)
      rw [show (bestL sqPut wide l0).getD x8.toNat 0 = v0 from by rw [e8, show i = i + 0 from rfl, bestL_drop sqPut wide i l0 (by omega), hv0]] at hc8_
      have HCE := HKK.out
      rw [endK, hsg, hnd, hv2, hv0] at HCE
      have hvb1 : -1 ≤ v2 ∧ v2 ≤ 192000 := by omega
      have hvb2 : -1 ≤ v0 ∧ v0 ≤ 192000 := by omega
      have hlc : (bestL sqPut wide l0).length = l0.length + 1 := bestL_length ..
      rw [hlc] at *
      obtain ⟨pv, hpv⟩ : ∃ pv, sqPut (wide - nd0) v2 = pv := ⟨_, rfl⟩
      rw [hpv] at HCE
      have hpe : (wide - nd0) * (wide - nd0) + v2 = pv := hpv
      have hsq := sq_bd2 (x := wide - nd0) (by omega) (by omega)
      have HPV := Aside0.mk hpv
      clear HJ e9 e8 hst hsg hA2 hC2 hi0 hsz0 hnd hv2 hv0 hbb hdl hvb hvb0 hpv hlc
      by_cases c1 : pv = v0
      ·rw [if_pos c1] at HCE
       have HCJ := Aside0.mk HCE
       have he1 : (pv == v0) = true := beq_iff_eq.mpr (by omega)
       have he2 : (pv != v0) = false := bne_eq_false_iff_eq.mpr (by omega)
       have HKE : Aside0 (endK wide (l0.drop i) (bestL sqPut wide (l0.drop i)) ((l0.drop i).length - 1) 1 = j) := ⟨HK.out.trans HCJ.out.symm⟩
       clear HCE HKK c1 hpe
       have HE2 : Aside0 ((out ++ [x9 - x8]) ++ firstS wide (l0.drop (i + j)) = firstS wide l0) := ⟨by
        have h := HE.out
        rw [firstS_step wide (l0.drop i) (by rw [List.length_drop]; omega), HKE.out] at h
        rw [show x9 - x8 = (j : Int) from by have := HX8.out; have := HX.out; omega, List.append_assoc, ← h, List.drop_drop]; rfl⟩
       go_wp2
       go_quiet (first | (go_at_call 124; (with_reducible refine (needs_go _ _ _ sg nd0 _ ?side1 HCS.out HWS.out HND.out).mono ?_); (case side1 => exact cr_ HRS.out); rintro e w' ⟨rfl, ⟨nd, rfl⟩⟩; (exact dd_)) | (go_at_call 122; (with_reducible refine (squareF_go (wide - nd0) v2 pv _ HPV.out (by omega) (by omega) (by omega) (by omega)).mono ?_); rintro e w' ⟨rfl, ⟨nd, rfl⟩⟩; (exact dd_)))
       go_wp2_with (first | ((with_reducible refine gate_builtin (b := .append) (xs := #[.tmp 49, .tmp 53]) rfl ?_); at_builtin; refine R_append1k (w0 := w) w.heap.size rfl (.tmp 49) (.tmp 53) 24 3 rfl Tryd.underlying24 infoI _ out (x9 - x8) rfl rfl ?aO ?aB ?aS ?aL ?_; (case aO => ((with_reducible repeat (first | apply Kd.R_alloc | apply Kd.R_drewN | apply Kd.R_drew)); exact HO.out)); (case aB => exact bw_); (case aS => exact (below_size bw_)); (case aL => have := HL.out; omega); intro v1 w1 ho hb hgb hnew; have HRCq := Aside0.mk (RowCells.grown (by first | exact HRC.out | exact RowCells.drewN HRC.out _ | exact RowCells.drewN (RowCells.drewN HRC.out _) _) hgb HNE.out); have HNEq : Aside0 (v1.ownBlock ≠ some g) := ⟨by rcases hnew with h_ | ⟨b_, h_, h2_⟩ <;> rw [h_]; exact HNE.out; (intro h3_; have h4_ := HRC.out.1; injection h3_ with h3_; rw [h3_] at h2_; exact absurd (Nat.le_trans h2_ (Nat.le_refl _)) (Nat.not_le.2 (by simpa using h4_)))⟩; clear HO HB HRC HNE hgb hnew; have HO := Aside0.mk ho; have HB := Aside0.mk hb; have HRC := HRCq; have HNE := HNEq; clear ho hb HRCq HNEq))
       go_roundg (l0.length - (i + j))
       case measure => have := HX8.out; have := HX.out; omega
       case rel => exact ⟨x9, i + j, _, rfl, ⟨by have := HX8.out; have := HX.out; have := HL.out; simp only [List.length_append, List.length_singleton]; omega⟩, ⟨HE2.out⟩, ⟨rr_ HO.out⟩, ⟨HNE.out⟩, ⟨by repeat (first | exact HRC.out | apply RowCells.drewN)⟩, ⟨Kd.C_below HRW.out bw_⟩, ⟨bw_⟩⟩
      ·rw [if_neg c1] at HCE
       have HCJ := Aside0.mk HCE
       have he1 : (pv == v0) = false := beq_eq_false_iff_ne.mpr (by omega)
       have he2 : (pv != v0) = true := bne_iff_ne.mpr (by omega)
       clear HCE HKK c1 hpe
       go_wp2
       go_quiet (first | (go_at_call 124; (with_reducible refine (needs_go _ _ _ sg nd0 _ ?side1 HCS.out HWS.out HND.out).mono ?_); (case side1 => exact cr_ HRS.out); rintro e w' ⟨rfl, ⟨nd, rfl⟩⟩; (exact dd_)) | (go_at_call 122; (with_reducible refine (squareF_go (wide - nd0) v2 pv _ HPV.out (by omega) (by omega) (by omega) (by omega)).mono ?_); rintro e w' ⟨rfl, ⟨nd, rfl⟩⟩; (exact dd_)))
       go_wp2
       go_roundg f
       case measure => omega
       case rel => exact ⟨x9 + 1, j + 1, rfl, ⟨by have := HX.out; omega⟩, ⟨HCJ.out⟩, ⟨rr_ HO.out⟩, ⟨by repeat (first | exact HRC.out | apply RowCells.drewN)⟩, ⟨by exact cr_ HR0.out⟩, ⟨bw_⟩⟩
   ·have hx8 : (l0.length : Int) ≤ x8 := by have := HX8.out; omega
    have HE2 : Aside0 (out = firstS wide l0) := ⟨by have h := HE.out; rw [List.drop_eq_nil_iff.2 (by omega), firstS_nil, List.append_nil] at h; exact h⟩
    rw [HE2.out] at HO
    go_wp2
    go_ret2
    exact ⟨_, rfl, rr_ HO.out, bw_⟩
 ·have HG := Aside0.mk (Bool.eq_false_iff.mpr hg)
  have hM : firstM l0 wide = [] := if_neg hg
  rw [hM, HG.out]
  clear hM hg
  go_enter Tryd.func40, Tryd.ntmps40
  go_wp2_with (first | (go_at_call 117; (with_reducible refine (isSetting_go _ _ _ l0 wide false _ ?side1 HC0.out HN.out HG.out).mono ?_); (case side1 => exact cr_ HR0.out); rintro e w' ⟨rfl, ⟨nd, rfl⟩⟩))
  go_ret2
  exact ⟨_, rfl, Kd.R_nil _ _ _ _ _, bw_⟩
end Go.Proofs.YtpedlkhfeoeogaaDoor.Own
