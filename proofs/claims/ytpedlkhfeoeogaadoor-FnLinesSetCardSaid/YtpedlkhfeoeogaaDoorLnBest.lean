/- The least costs of the words from each one on: contracts of the program's and the reference's functions. -/
import Derived.Test.YtpedlkhfeoeogaaDoorLnCan
import Derived.Deep.QuietTactic
import Derived.BigQuiet
namespace Go.Proofs.YtpedlkhfeoeogaaDoor.Own
open Go.RowKit Go.Proofs.YtpedlkhfeoeogaaDoorW.PrintWords Go.Proofs.YtpedlkhfeoeogaaDoorW.PrintLast Go.Proofs.YtpedlkhfeoeogaaDoorW.PrintMore
attribute [local go_sem] max2_int min2_int max_two min_two max_three min_three max_four min_four
set_option linter.unusedVariables false
set_option linter.unusedSimpArgs false
theorem put_at0 {W : World} {e base : Nat} {ok : Nat → Prop} {g n co i : Nat} {acc : Int} {R : List Int} (h : Kd.R (Kd.int .i64) e W base ok (.slice (some ⟨g, 0, none⟩) n co) (rowAt i acc R)) (x8 : Int) (h8 : x8 = (i : Int)) (v : Int) :
  Kd.R (Kd.int .i64) e (W.setCell ⟨g, x8.toNat, none⟩ (.int .i64 v)) base ok (.slice (some ⟨g, 0, none⟩) n co) (rowAt i v R) := by
 have h2 := (Kd.R_putg h x8 v).1
 rw [show x8.toNat = i from by omega, rowAt_set] at h2
 rw [show x8.toNat = i from by omega]
 exact h2
set_option maxHeartbeats 8000000 in
set_option maxRecDepth 100000 in
theorem lnBest_go (A0 : Option Addr) (n c0 : Nat) (l0 : List Int) (wide : Int) (w : World) (hr0 : Kd.C (Kd.int .i64) w A0 n l0) (hc0 : n ≤ c0) (hw : wordsB l0 = true) (hwd : 1 ≤ wide ∧ wide ≤ 80) :
  Calls Tryd.prog 123 #[.slice A0 n c0, .int .i64 wide] w fun e w' => ∃ (g co : Nat), e = .returned (.slice (some ⟨g, 0, none⟩) (l0.length + 1) co) ∧ Kd.R (Kd.int .i64) 3 w' w.heap.size (fun _ => True) (.slice (some ⟨g, 0, none⟩) (l0.length + 1) co) (bestL sqPut wide l0) ∧ Below w.heap.size w w' := by
 obtain rfl : l0.length = n := hr0.1
 have hws := wordsB_true hw
 have hlen1 := hws.1.1
 have hlen2 := hws.1.2
 have HR0 := Aside0.mk hr0
 have HRW := Aside0.mk hr0
 have HC0 := Aside0.mk hc0
 have HWD := Aside0.mk hws.2
 have HB := Aside0.mk (Below.refl w.heap.size w)
 clear hr0 hc0 hw hws
 go_enter Tryd.func123, Tryd.ntmps123
 go_wp2_with (first | ((with_reducible refine gate_dst (N := 13) rfl ?_); refine Kd.R_make (Kd.int .i64) _ 3 rfl (N := 13) rfl 24 _ _ rfl ((l0.length : Int) + 1) rfl rfl Tryd.underlying24 (.int .i64 0) 8 infoI rfl (by decide) (by omega) 0 (ok := fun _ => True) (okp := fun _ => True) rfl (fun _ hk => hk) trivial (by omega) (by omega) (Below.refl _ _) (Nat.le_refl _) ?_; intro v13 w10 ho hb hg_ hnew_; clear hg_ hnew_; rw [show ((l0.length : Int) + 1).toNat = l0.length + 1 from (by omega)] at ho; have n0_ := Aside0.mk (Kd.R_lower ho (below_size bw_)); have n1_ := Aside0.mk (below_step bw_ hb); clear HB; have HO := n0_; have HB := n1_; clear n0_ n1_ hb ho; obtain ⟨g, co, eo, gb, gl, cl, HG_⟩ := Kd.R_form HO.out (by simp); rw [List.length_replicate] at eo; subst eo; have GB := Aside0.mk gb; clear gb gl HG_ cl; skip))
 go_loopg [6] (l0.length) (fun kq v8 w' => ∃ x8 : Int, v8 = .int .i64 x8 ∧ Aside0 (x8 = (kq : Int) - 1 ∧ kq ≤ l0.length) ∧ Aside0 (Kd.R (Kd.int .i64) 3 w' w.heap.size (fun _ => True) (.slice (some ⟨g, 0, none⟩) (l0.length + 1) co) (List.replicate kq 0 ++ bestL sqPut wide (l0.drop kq))) ∧ Aside0 (Kd.C (Kd.int .i64) w' A0 l0.length l0) ∧ Aside0 (Below w.heap.size w w'))
 case atStart => exact ⟨(l0.length : Int) - 1, rfl, ⟨rfl, Nat.le_refl _⟩, ⟨by rw [List.drop_length, bestL, ← rowAt_new0]; ((with_reducible repeat (first | apply Kd.R_alloc | apply Kd.R_drewN | apply Kd.R_drew)); exact HO.out)⟩, ⟨Kd.C_below HRW.out bw_⟩, ⟨bw_⟩⟩
 case round =>
  clear HO HR0 HB
  obtain ⟨x8, rfl, HX8, HO, HR0, HB⟩ := hrel
  cases gk with
  | zero =>
   have hx8 : x8 < 0 := by have := HX8.out; omega
   have HO2 : Aside0 (Kd.R (Kd.int .i64) 3 wr w.heap.size (fun _ => True) (.slice (some ⟨g, 0, none⟩) (l0.length + 1) co) (bestL sqPut wide l0)) := ⟨by simpa using HO.out⟩
   go_wp2
   go_ret
   exact ⟨_, _, rfl, rr_ HO2.out, bw_⟩
  | succ k1 =>
   have hx8 : 0 ≤ x8 := by have := HX8.out; omega
   have hk1 := HX8.out.2
   have HK1 : Aside0 (x8 = (k1 : Int) ∧ k1 < l0.length) := ⟨by have := HX8.out; omega⟩
   have hx8b : x8 < (l0.length : Int) := by have := HK1.out; omega
   rw [← rowAt_zero] at HO
   obtain ⟨R, hR⟩ : ∃ R, bestL sqPut wide (l0.drop (k1 + 1)) = R := ⟨_, rfl⟩
   have hdk : l0.drop k1 = l0[k1] :: l0.drop (k1 + 1) := List.drop_eq_getElem_cons (by omega)
   obtain ⟨T, hT⟩ : ∃ T, bestK sqPut wide (l0.drop k1) R (l0.length - k1) 1 (-1) = T := ⟨_, rfl⟩
   have HTR : Aside0 (bestL sqPut wide (l0.drop k1) = T :: R) := ⟨by rw [hdk, bestL, hR, ← hdk, show (l0.drop (k1 + 1)).length + 1 = l0.length - k1 from by rw [List.length_drop]; omega, hT]⟩
   have HRB : Aside0 (∀ k, -1 ≤ R.getD k 0 ∧ R.getD k 0 ≤ 192000) := ⟨by rw [← hR]; intro k; have := bestL_bd sqPut sqPut_ok wide hwd.2 (l0.drop (k1 + 1)) (fun n hn => HWD.out n (List.mem_of_mem_drop hn)) k; have := @List.length_drop Int (k1 + 1) l0; omega⟩
   have HT := Aside0.mk hT
   rw [hR] at HO
   obtain ⟨hc8_, hf8_⟩ := Kd.R_celln 0 HO.out x8 hx8 (by omega)
   clear hdk hT hR hk1 HX8
   go_wp2
   clear hc8_ hf8_
   go_loopg [7] (l0.length - k1) (fun kq v9 w' => ∃ (x9 : Int) (j : Nat) (acc : Int), v9 = .int .i64 x9 ∧ Aside0 (x9 = (k1 : Int) + j ∧ 1 ≤ j ∧ kq + j + k1 = l0.length + 1 ∧ -1 ≤ acc ∧ acc ≤ 198400) ∧ Aside0 (bestK sqPut wide (l0.drop k1) R kq j acc = T) ∧ Aside0 (Kd.R (Kd.int .i64) 3 w' w.heap.size (fun _ => True) (.slice (some ⟨g, 0, none⟩) (l0.length + 1) co) (rowAt k1 acc R)) ∧ Aside0 (Kd.C (Kd.int .i64) w' A0 l0.length l0) ∧ Aside0 (Below w.heap.size w w'))
   case atStart => exact ⟨x8 + 1, 1, -1, rfl, ⟨by have := HK1.out; omega⟩, ⟨HT.out⟩, ⟨put_at0 HO.out _ HK1.out.1 _⟩, ⟨Kd.C_below HRW.out bg_⟩, ⟨bg_⟩⟩
   case round =>
    clear HO HR0 HB
    obtain ⟨x9, j, acc, rfl, HX, HC, HO, HR0, HB⟩ := hrel
    cases gk with
    | zero =>
     have hx9 : (l0.length : Int) < x9 := by have := HX.out; have := HK1.out; omega
     have HRo : Aside0 (rowAt k1 acc R = List.replicate k1 0 ++ bestL sqPut wide (l0.drop k1)) := ⟨by rw [HTR.out, ← HC.out]; rfl⟩
     rw [HRo.out] at HO
     go_wp2
     go_roundg k1
     case measure => omega
     case rel => exact ⟨x8 - 1, rfl, ⟨by have := HK1.out; omega⟩, ⟨rr_ HO.out⟩, ⟨by exact cr_ HR0.out⟩, ⟨bw_⟩⟩
    | succ f =>
     have hx9 : x9 ≤ (l0.length : Int) := by have := HX.out; have := HK1.out; omega
     have hx98 : x8 ≤ x9 := by have := HX.out; have := HK1.out; omega
     have hx90 : 0 ≤ x9 := by omega
     have hacc0 : -1 ≤ acc := HX.out.2.2.2.1
     have hacc1 : acc ≤ 198400 := HX.out.2.2.2.2
     have HJ := HX.out
     obtain ⟨i0, hi0, _, hsz0, _⟩ := info_parts infoI
     obtain ⟨A2, hcut, hA2, hC2⟩ := print_mid_of (P := Tryd.prog) (Value.int .i64) 0 24 3 .i64 .i64 Tryd.underlying24 hi0 hsz0 A0 c0 l0 x8 x9 hx8 hx98 hx9 HC0.out
     have e9 : x9.toNat = k1 + j := by have := HK1.out; omega
     have e8 : x8.toNat = k1 := by have := HK1.out; omega
     have hst : (l0.take x9.toNat).drop x8.toNat = (l0.drop k1).take j := by rw [e9, e8, List.drop_take, Nat.add_sub_cancel_left]
     obtain ⟨sg, hsg⟩ : ∃ sg, (l0.drop k1).take j = sg := ⟨_, rfl⟩
     rw [hst, hsg] at hcut hA2 hC2
     have HRS := Aside0.mk (Kd.C_of_reads (h1 := fun _ => rfl) (hA2 _ (Kd.reads_of_C HR0.out)))
     have HCS := Aside0.mk hC2
     have HWS : Aside0 (sg.length ≤ 1000 ∧ ∀ n ∈ sg, 1 ≤ n ∧ n ≤ 80) := ⟨by rw [← hsg, List.length_take, List.length_drop]; omega, fun n hn => HWD.out n (List.mem_of_mem_drop (List.mem_of_mem_take (by rw [hsg]; exact hn)))⟩
     have hnb : 1 ≤ needL sg ∧ needL sg ≤ 90000 := by have := sum_bd _ HWS.out.2; have := HWS.out.1; have hsl : 1 ≤ sg.length := (by rw [← hsg, List.length_take, List.length_drop]; omega); unfold needL; omega
     obtain ⟨nd0, hnd⟩ : ∃ nd0, needL sg = nd0 := ⟨_, rfl⟩
     rw [hnd] at hnb
     have HND := Aside0.mk hnd
     obtain ⟨hc8_, hf8_⟩ := Kd.R_celln 0 HO.out x8 hx8 (by omega)
     rw [show rdOf 0 (rowAt k1 acc R) x8 = acc from by rw [show x8 = (k1 : Int) from HK1.out.1]; exact rowAt_rd k1 acc R] at hc8_
     obtain ⟨v2, hv2⟩ : ∃ v2, R.getD (j - 1) 0 = v2 := ⟨_, rfl⟩
     have hvb := HRB.out (j - 1)
     rw [hv2] at hvb
     obtain ⟨hc9_, hf9_⟩ := Kd.R_celln 0 HO.out x9 hx90 (by omega)
     rw [show rdOf 0 (rowAt k1 acc R) x9 = v2 from by rw [← hv2, show x9 = (k1 : Int) + (j : Int) from HJ.1]; exact rowAt_rd2 k1 j acc R HJ.2.1] at hc9_
     have HCE := HC.out
     rw [bestK, hsg, hnd, hv2] at HCE
     have hlj : (j < (l0.drop k1).length ↔ x9 < (l0.length : Int)) := by rw [List.length_drop]; have := HK1.out; omega
     have HJA := Aside0.mk HJ
     clear HJ e9 e8 hst hsg hA2 hC2 hi0 hsz0 hnd hv2 HX HC hf9_
     by_cases c1 : nd0 ≤ wide
     ·rw [if_pos c1] at HCE
      have hd1 : decide (nd0 ≤ wide) = true := decide_eq_true c1
      by_cases c2 : x9 < (l0.length : Int)
      ·simp only [if_pos (hlj.2 c2)] at HCE
       have he1 : (x9 == (l0.length : Int)) = false := beq_eq_false_iff_ne.mpr (by omega)
       have hq := sqPut_ok (wide - nd0) v2 192000 (by omega) (by omega) hvb.1 hvb.2 (by omega)
       have hq0 := Int.mul_nonneg (by omega : 0 ≤ wide - nd0) (by omega : 0 ≤ wide - nd0)
       unfold sqPut at hq
       try unfold sqPut at HCE
       clear hlj
       by_cases c4 : acc < 0
       ·rw [if_pos (Or.inl c4)] at HCE
        have HCA := Aside0.mk HCE
        have hd4 : decide (acc < 0) = true := decide_eq_true c4
        clear HCE
        go_wp2_with (first | (go_at_call 125; (with_reducible refine (need_go _ _ _ sg nd0 _ ?side1 HCS.out HWS.out HND.out).mono ?_); (case side1 => exact cr_ HRS.out); rintro e w' ⟨rfl, ⟨nd, rfl⟩⟩))
        go_roundg f
        case measure => omega
        case rel => exact ⟨x9 + 1, j + 1, _, rfl, ⟨by have := HJA.out; omega⟩, ⟨HCA.out⟩, ⟨put_at _ HO.out _ HK1.out.1 _⟩, ⟨Kd.C_below HRW.out bg_⟩, ⟨bg_⟩⟩
       ·have hd4 : decide (acc < 0) = false := decide_eq_false c4
        by_cases c5 : ((wide - nd0) * (wide - nd0) + v2) < acc
        ·rw [if_pos (Or.inr c5)] at HCE
         have HCA := Aside0.mk HCE
         have hd5 : decide (((wide - nd0) * (wide - nd0) + v2) < acc) = true := decide_eq_true c5
         clear HCE
         go_wp2_with (first | (go_at_call 125; (with_reducible refine (need_go _ _ _ sg nd0 _ ?side1 HCS.out HWS.out HND.out).mono ?_); (case side1 => exact cr_ HRS.out); rintro e w' ⟨rfl, ⟨nd, rfl⟩⟩))
         go_roundg f
         case measure => omega
         case rel => exact ⟨x9 + 1, j + 1, _, rfl, ⟨by have := HJA.out; omega⟩, ⟨HCA.out⟩, ⟨put_at _ HO.out _ HK1.out.1 _⟩, ⟨Kd.C_below HRW.out bg_⟩, ⟨bg_⟩⟩
        ·rw [if_neg (fun h => h.elim c4 c5)] at HCE
         have HCA := Aside0.mk HCE
         have hd5 : decide (((wide - nd0) * (wide - nd0) + v2) < acc) = false := decide_eq_false c5
         clear HCE
         go_wp2_with (first | (go_at_call 125; (with_reducible refine (need_go _ _ _ sg nd0 _ ?side1 HCS.out HWS.out HND.out).mono ?_); (case side1 => exact cr_ HRS.out); rintro e w' ⟨rfl, ⟨nd, rfl⟩⟩))
         go_roundg f
         case measure => omega
         case rel => exact ⟨x9 + 1, j + 1, acc, rfl, ⟨by have := HJA.out; omega⟩, ⟨HCA.out⟩, ⟨rr_ HO.out⟩, ⟨by exact cr_ HR0.out⟩, ⟨bw_⟩⟩
      ·simp only [if_neg (fun h => c2 (hlj.1 h))] at HCE
       have he0 : x9 = (l0.length : Int) := by omega
       have he1 : (x9 == (l0.length : Int)) = true := beq_iff_eq.mpr he0
       have C2 := Aside0.mk he0
       have hq := sqPut_ok (wide - nd0) v2 192000 (by omega) (by omega) hvb.1 hvb.2 (by omega)
       have hq0 := Int.mul_nonneg (by omega : 0 ≤ wide - nd0) (by omega : 0 ≤ wide - nd0)
       unfold sqPut at hq
       try unfold sqPut at HCE
       clear hlj he0
       by_cases c4 : acc < 0
       ·rw [if_pos (Or.inl c4)] at HCE
        have HCA := Aside0.mk HCE
        have hd4 : decide (acc < 0) = true := decide_eq_true c4
        clear HCE
        go_wp2_with (first | (go_at_call 125; (with_reducible refine (need_go _ _ _ sg nd0 _ ?side1 HCS.out HWS.out HND.out).mono ?_); (case side1 => exact cr_ HRS.out); rintro e w' ⟨rfl, ⟨nd, rfl⟩⟩))
        go_roundg f
        case measure => omega
        case rel => exact ⟨x9 + 1, j + 1, _, rfl, ⟨by have := HJA.out; omega⟩, ⟨HCA.out⟩, ⟨put_at _ HO.out _ HK1.out.1 _⟩, ⟨Kd.C_below HRW.out bg_⟩, ⟨bg_⟩⟩
       ·have hd4 : decide (acc < 0) = false := decide_eq_false c4
        by_cases c5 : 0 < acc
        ·rw [if_pos (Or.inr c5)] at HCE
         have HCA := Aside0.mk HCE
         have hd5 : decide (0 < acc) = true := decide_eq_true c5
         clear HCE
         go_wp2_with (first | (go_at_call 125; (with_reducible refine (need_go _ _ _ sg nd0 _ ?side1 HCS.out HWS.out HND.out).mono ?_); (case side1 => exact cr_ HRS.out); rintro e w' ⟨rfl, ⟨nd, rfl⟩⟩))
         go_roundg f
         case measure => omega
         case rel => exact ⟨x9 + 1, j + 1, _, rfl, ⟨by have := HJA.out; omega⟩, ⟨HCA.out⟩, ⟨put_at _ HO.out _ HK1.out.1 _⟩, ⟨Kd.C_below HRW.out bg_⟩, ⟨bg_⟩⟩
        ·rw [if_neg (fun h => h.elim c4 c5)] at HCE
         have HCA := Aside0.mk HCE
         have hd5 : decide (0 < acc) = false := decide_eq_false c5
         clear HCE
         go_wp2_with (first | (go_at_call 125; (with_reducible refine (need_go _ _ _ sg nd0 _ ?side1 HCS.out HWS.out HND.out).mono ?_); (case side1 => exact cr_ HRS.out); rintro e w' ⟨rfl, ⟨nd, rfl⟩⟩))
         go_roundg f
         case measure => omega
         case rel => exact ⟨x9 + 1, j + 1, acc, rfl, ⟨by have := HJA.out; omega⟩, ⟨HCA.out⟩, ⟨rr_ HO.out⟩, ⟨by exact cr_ HR0.out⟩, ⟨bw_⟩⟩
     ·rw [if_neg c1] at HCE
      have HCA := Aside0.mk HCE
      have hd1 : decide (nd0 ≤ wide) = false := decide_eq_false c1
      have HRo : Aside0 (rowAt k1 acc R = List.replicate k1 0 ++ bestL sqPut wide (l0.drop k1)) := ⟨by rw [HTR.out, ← HCA.out]; rfl⟩
      rw [HRo.out] at HO
      clear HCE hlj HRo
      go_wp2_with (first | (go_at_call 125; (with_reducible refine (need_go _ _ _ sg nd0 _ ?side1 HCS.out HWS.out HND.out).mono ?_); (case side1 => exact cr_ HRS.out); rintro e w' ⟨rfl, ⟨nd, rfl⟩⟩))
      go_roundg k1
      case measure => omega
      case rel => exact ⟨x8 - 1, rfl, ⟨by have := HK1.out; omega⟩, ⟨rr_ HO.out⟩, ⟨by exact cr_ HR0.out⟩, ⟨bw_⟩⟩
set_option maxHeartbeats 8000000 in
set_option maxRecDepth 100000 in
theorem square_go (r c p : Int) (w : World) (h : sqPut r c = p) (h0 : 0 ≤ r) (h1 : r ≤ 80) (h2 : -1 ≤ c) (h3 : c ≤ 192000) :
  Calls Tryd.prog 122 #[.int .i64 r, .int .i64 c] w fun e w' => e = .returned (.int .i64 p) ∧ Drawn0 w w' := by
 have hb := sqPut_ok r c 192000 h0 h1 h2 h3 (by omega)
 unfold sqPut at h hb
 subst h
 have hm := Int.mul_nonneg h0 h0
 go_enter Tryd.func122, Tryd.ntmps122
 go_wp2
 go_ret
 exact ⟨rfl, (by repeat (first | exact Drawn0.refl _ | apply Drawn0.step))⟩
set_option maxHeartbeats 8000000 in
set_option maxRecDepth 100000 in
theorem maxclos_go (r c p : Int) (w : World) (h : maxPut r c = p) (h0 : 0 ≤ r) (h1 : r ≤ 80) (h2 : -1 ≤ c) (h3 : c ≤ 192000) :
  Calls Tryd.prog 126 #[.int .i64 r, .int .i64 c] w fun e w' => e = .returned (.int .i64 p) ∧ Drawn0 w w' := by
 unfold maxPut at h
 by_cases hc : r < c
 ·rw [if_pos hc] at h
  subst h
  go_enter Tryd.func126, Tryd.ntmps126
  go_wp2
  go_ret
  exact ⟨ret_i (by omega), (by repeat (first | exact Drawn0.refl _ | apply Drawn0.step))⟩
 ·rw [if_neg hc] at h
  subst h
  go_enter Tryd.func126, Tryd.ntmps126
  go_wp2
  go_ret
  exact ⟨ret_i (by omega), (by repeat (first | exact Drawn0.refl _ | apply Drawn0.step))⟩
set_option maxHeartbeats 8000000 in
set_option maxRecDepth 100000 in
theorem bestSq_go (A0 : Option Addr) (n c0 : Nat) (l0 : List Int) (wide : Int) (w : World) (hr0 : Kd.C (Kd.int .i64) w A0 n l0) (hc0 : n ≤ c0) (hw : wordsB l0 = true) (hwd : 1 ≤ wide ∧ wide ≤ 80) :
  Calls Tryd.prog 121 #[.slice A0 n c0, .int .i64 wide, .func (.func 122) #[] #[]] w fun e w' => ∃ (g co : Nat), e = .returned (.slice (some ⟨g, 0, none⟩) (l0.length + 1) co) ∧ Kd.R (Kd.int .i64) 3 w' w.heap.size (fun _ => True) (.slice (some ⟨g, 0, none⟩) (l0.length + 1) co) (bestL sqPut wide l0) ∧ Below w.heap.size w w' := by
 obtain rfl : l0.length = n := hr0.1
 have hws := wordsB_true hw
 have hlen1 := hws.1.1
 have hlen2 := hws.1.2
 have HR0 := Aside0.mk hr0
 have HRW := Aside0.mk hr0
 have HC0 := Aside0.mk hc0
 have HWD := Aside0.mk hws.2
 have HB := Aside0.mk (Below.refl w.heap.size w)
 clear hr0 hc0 hw hws
 go_enter Tryd.func121, Tryd.ntmps121
 go_wp2_with (first | ((with_reducible refine gate_dst (N := 14) rfl ?_); refine Kd.R_make (Kd.int .i64) _ 3 rfl (N := 14) rfl 24 _ _ rfl ((l0.length : Int) + 1) rfl rfl Tryd.underlying24 (.int .i64 0) 8 infoI rfl (by decide) (by omega) 0 (ok := fun _ => True) (okp := fun _ => True) rfl (fun _ hk => hk) trivial (by omega) (by omega) (Below.refl _ _) (Nat.le_refl _) ?_; intro v14 w10 ho hb hg_ hnew_; clear hg_ hnew_; rw [show ((l0.length : Int) + 1).toNat = l0.length + 1 from (by omega)] at ho; have n0_ := Aside0.mk (Kd.R_lower ho (below_size bw_)); have n1_ := Aside0.mk (below_step bw_ hb); clear HB; have HO := n0_; have HB := n1_; clear n0_ n1_ hb ho; obtain ⟨g, co, eo, gb, gl, cl, HG_⟩ := Kd.R_form HO.out (by simp); rw [List.length_replicate] at eo; subst eo; have GB := Aside0.mk gb; clear gb gl HG_ cl; skip))
 go_loopg [8] (l0.length) (fun kq v8 w' => ∃ x8 : Int, v8 = .int .i64 x8 ∧ Aside0 (x8 = (kq : Int) - 1 ∧ kq ≤ l0.length) ∧ Aside0 (Kd.R (Kd.int .i64) 3 w' w.heap.size (fun _ => True) (.slice (some ⟨g, 0, none⟩) (l0.length + 1) co) (List.replicate kq 0 ++ bestL sqPut wide (l0.drop kq))) ∧ Aside0 (Kd.C (Kd.int .i64) w' A0 l0.length l0) ∧ Aside0 (Below w.heap.size w w'))
 case atStart => exact ⟨(l0.length : Int) - 1, rfl, ⟨rfl, Nat.le_refl _⟩, ⟨by rw [List.drop_length, bestL, ← rowAt_new0]; ((with_reducible repeat (first | apply Kd.R_alloc | apply Kd.R_drewN | apply Kd.R_drew)); exact HO.out)⟩, ⟨Kd.C_below HRW.out bw_⟩, ⟨bw_⟩⟩
 case round =>
  clear HO HR0 HB
  obtain ⟨x8, rfl, HX8, HO, HR0, HB⟩ := hrel
  cases gk with
  | zero =>
   have hx8 : x8 < 0 := by have := HX8.out; omega
   have HO2 : Aside0 (Kd.R (Kd.int .i64) 3 wr w.heap.size (fun _ => True) (.slice (some ⟨g, 0, none⟩) (l0.length + 1) co) (bestL sqPut wide l0)) := ⟨by simpa using HO.out⟩
   go_wp2
   go_ret
   exact ⟨_, _, rfl, rr_ HO2.out, bw_⟩
  | succ k1 =>
   have hx8 : 0 ≤ x8 := by have := HX8.out; omega
   have hk1 := HX8.out.2
   have HK1 : Aside0 (x8 = (k1 : Int) ∧ k1 < l0.length) := ⟨by have := HX8.out; omega⟩
   have hx8b : x8 < (l0.length : Int) := by have := HK1.out; omega
   rw [← rowAt_zero] at HO
   obtain ⟨R, hR⟩ : ∃ R, bestL sqPut wide (l0.drop (k1 + 1)) = R := ⟨_, rfl⟩
   have hdk : l0.drop k1 = l0[k1] :: l0.drop (k1 + 1) := List.drop_eq_getElem_cons (by omega)
   obtain ⟨T, hT⟩ : ∃ T, bestK sqPut wide (l0.drop k1) R (l0.length - k1) 1 (-1) = T := ⟨_, rfl⟩
   have HTR : Aside0 (bestL sqPut wide (l0.drop k1) = T :: R) := ⟨by rw [hdk, bestL, hR, ← hdk, show (l0.drop (k1 + 1)).length + 1 = l0.length - k1 from by rw [List.length_drop]; omega, hT]⟩
   have HRB : Aside0 (∀ k, -1 ≤ R.getD k 0 ∧ R.getD k 0 ≤ 192000) := ⟨by rw [← hR]; intro k; have := bestL_bd sqPut sqPut_ok wide hwd.2 (l0.drop (k1 + 1)) (fun n hn => HWD.out n (List.mem_of_mem_drop hn)) k; have := @List.length_drop Int (k1 + 1) l0; omega⟩
   have HT := Aside0.mk hT
   rw [hR] at HO
   obtain ⟨hc8_, hf8_⟩ := Kd.R_celln 0 HO.out x8 hx8 (by omega)
   clear hdk hT hR hk1 HX8
   go_wp2
   clear hc8_ hf8_
   go_loopg [9] (l0.length - k1) (fun kq v9 w' => ∃ (x9 : Int) (j : Nat) (acc : Int), v9 = .int .i64 x9 ∧ Aside0 (x9 = (k1 : Int) + j ∧ 1 ≤ j ∧ kq + j + k1 = l0.length + 1 ∧ -1 ≤ acc ∧ acc ≤ 198400) ∧ Aside0 (bestK sqPut wide (l0.drop k1) R kq j acc = T) ∧ Aside0 (Kd.R (Kd.int .i64) 3 w' w.heap.size (fun _ => True) (.slice (some ⟨g, 0, none⟩) (l0.length + 1) co) (rowAt k1 acc R)) ∧ Aside0 (Kd.C (Kd.int .i64) w' A0 l0.length l0) ∧ Aside0 (Below w.heap.size w w'))
   case atStart => exact ⟨x8 + 1, 1, -1, rfl, ⟨by have := HK1.out; omega⟩, ⟨HT.out⟩, ⟨put_at0 HO.out _ HK1.out.1 _⟩, ⟨Kd.C_below HRW.out bg_⟩, ⟨bg_⟩⟩
   case round =>
    clear HO HR0 HB
    obtain ⟨x9, j, acc, rfl, HX, HC, HO, HR0, HB⟩ := hrel
    cases gk with
    | zero =>
     have hx9 : (l0.length : Int) < x9 := by have := HX.out; have := HK1.out; omega
     have HRo : Aside0 (rowAt k1 acc R = List.replicate k1 0 ++ bestL sqPut wide (l0.drop k1)) := ⟨by rw [HTR.out, ← HC.out]; rfl⟩
     rw [HRo.out] at HO
     go_wp2
     go_roundg k1
     case measure => omega
     case rel => exact ⟨x8 - 1, rfl, ⟨by have := HK1.out; omega⟩, ⟨rr_ HO.out⟩, ⟨by exact cr_ HR0.out⟩, ⟨bw_⟩⟩
    | succ f =>
     have hx9 : x9 ≤ (l0.length : Int) := by have := HX.out; have := HK1.out; omega
     have hx98 : x8 ≤ x9 := by have := HX.out; have := HK1.out; omega
     have hx90 : 0 ≤ x9 := by omega
     have hacc0 : -1 ≤ acc := HX.out.2.2.2.1
     have hacc1 : acc ≤ 198400 := HX.out.2.2.2.2
     have HJ := HX.out
     obtain ⟨i0, hi0, _, hsz0, _⟩ := info_parts infoI
     obtain ⟨A2, hcut, hA2, hC2⟩ := print_mid_of (P := Tryd.prog) (Value.int .i64) 0 24 3 .i64 .i64 Tryd.underlying24 hi0 hsz0 A0 c0 l0 x8 x9 hx8 hx98 hx9 HC0.out
     have e9 : x9.toNat = k1 + j := by have := HK1.out; omega
     have e8 : x8.toNat = k1 := by have := HK1.out; omega
     have hst : (l0.take x9.toNat).drop x8.toNat = (l0.drop k1).take j := by rw [e9, e8, List.drop_take, Nat.add_sub_cancel_left]
     obtain ⟨sg, hsg⟩ : ∃ sg, (l0.drop k1).take j = sg := ⟨_, rfl⟩
     rw [hst, hsg] at hcut hA2 hC2
     have HRS := Aside0.mk (Kd.C_of_reads (h1 := fun _ => rfl) (hA2 _ (Kd.reads_of_C HR0.out)))
     have HCS := Aside0.mk hC2
     have HWS : Aside0 (sg.length ≤ 1000 ∧ ∀ n ∈ sg, 1 ≤ n ∧ n ≤ 80) := ⟨by rw [← hsg, List.length_take, List.length_drop]; omega, fun n hn => HWD.out n (List.mem_of_mem_drop (List.mem_of_mem_take (by rw [hsg]; exact hn)))⟩
     have hnb : 1 ≤ needL sg ∧ needL sg ≤ 90000 := by have := sum_bd _ HWS.out.2; have := HWS.out.1; have hsl : 1 ≤ sg.length := (by rw [← hsg, List.length_take, List.length_drop]; omega); unfold needL; omega
     obtain ⟨nd0, hnd⟩ : ∃ nd0, needL sg = nd0 := ⟨_, rfl⟩
     rw [hnd] at hnb
     have HND := Aside0.mk hnd
     obtain ⟨hc8_, hf8_⟩ := Kd.R_celln 0 HO.out x8 hx8 (by omega)
     rw [show rdOf 0 (rowAt k1 acc R) x8 = acc from by rw [show x8 = (k1 : Int) from HK1.out.1]; exact rowAt_rd k1 acc R] at hc8_
     obtain ⟨v2, hv2⟩ : ∃ v2, R.getD (j - 1) 0 = v2 := ⟨_, rfl⟩
     have hvb := HRB.out (j - 1)
     rw [hv2] at hvb
     obtain ⟨hc9_, hf9_⟩ := Kd.R_celln 0 HO.out x9 hx90 (by omega)
     rw [show rdOf 0 (rowAt k1 acc R) x9 = v2 from by rw [← hv2, show x9 = (k1 : Int) + (j : Int) from HJ.1]; exact rowAt_rd2 k1 j acc R HJ.2.1] at hc9_
     have HCE := HC.out
     rw [bestK, hsg, hnd, hv2] at HCE
     have hlj : (j < (l0.drop k1).length ↔ x9 < (l0.length : Int)) := by rw [List.length_drop]; have := HK1.out; omega
     have HJA := Aside0.mk HJ
     clear HJ e9 e8 hst hsg hA2 hC2 hi0 hsz0 hnd hv2 HX HC hf9_
     by_cases c1 : nd0 ≤ wide
     ·rw [if_pos c1] at HCE
      have hd1 : decide (nd0 ≤ wide) = true := decide_eq_true c1
      by_cases c2 : x9 < (l0.length : Int)
      ·simp only [if_pos (hlj.2 c2)] at HCE
       have he1 : (x9 == (l0.length : Int)) = false := beq_eq_false_iff_ne.mpr (by omega)
       obtain ⟨pv, hpv⟩ : ∃ pv, sqPut (wide - nd0) v2 = pv := ⟨_, rfl⟩
       have hpb := sqPut_ok (wide - nd0) v2 192000 (by omega) (by omega) hvb.1 hvb.2 (by omega)
       try rw [hpv] at HCE
       rw [hpv] at hpb
       have HPV := Aside0.mk hpv
       clear hpv
       clear hlj
       by_cases c4 : acc < 0
       ·rw [if_pos (Or.inl c4)] at HCE
        have HCA := Aside0.mk HCE
        have hd4 : decide (acc < 0) = true := decide_eq_true c4
        clear HCE
        go_wp2_with (first | (go_at_call 124; (with_reducible refine (needs_go _ _ _ sg nd0 _ ?side1 HCS.out HWS.out HND.out).mono ?_); (case side1 => exact cr_ HRS.out); rintro e w' ⟨rfl, ⟨nd, rfl⟩⟩))
        go_quiet (first | (go_at_call 124; (with_reducible refine (needs_go _ _ _ sg nd0 _ ?side1 HCS.out HWS.out HND.out).mono ?_); (case side1 => exact cr_ HRS.out); rintro e w' ⟨rfl, ⟨nd, rfl⟩⟩; (exact dd_)) | (go_at_call 122; (with_reducible refine (square_go (wide - nd0) v2 pv _ HPV.out (by omega) (by omega) (by omega) (by omega)).mono ?_); rintro e w' ⟨rfl, ⟨nd, rfl⟩⟩; (exact dd_)))
        go_wp2
        go_roundg f
        case measure => omega
        case rel => exact ⟨x9 + 1, j + 1, _, rfl, ⟨by have := HJA.out; omega⟩, ⟨HCA.out⟩, ⟨put_at _ HO.out _ HK1.out.1 _⟩, ⟨Kd.C_below HRW.out bg_⟩, ⟨bg_⟩⟩
       ·have hd4 : decide (acc < 0) = false := decide_eq_false c4
        by_cases c5 : pv < acc
        ·rw [if_pos (Or.inr c5)] at HCE
         have HCA := Aside0.mk HCE
         have hd5 : decide (pv < acc) = true := decide_eq_true c5
         clear HCE
         go_wp2_with (first | (go_at_call 124; (with_reducible refine (needs_go _ _ _ sg nd0 _ ?side1 HCS.out HWS.out HND.out).mono ?_); (case side1 => exact cr_ HRS.out); rintro e w' ⟨rfl, ⟨nd, rfl⟩⟩))
         go_quiet (first | (go_at_call 124; (with_reducible refine (needs_go _ _ _ sg nd0 _ ?side1 HCS.out HWS.out HND.out).mono ?_); (case side1 => exact cr_ HRS.out); rintro e w' ⟨rfl, ⟨nd, rfl⟩⟩; (exact dd_)) | (go_at_call 122; (with_reducible refine (square_go (wide - nd0) v2 pv _ HPV.out (by omega) (by omega) (by omega) (by omega)).mono ?_); rintro e w' ⟨rfl, ⟨nd, rfl⟩⟩; (exact dd_)))
         go_wp2
         go_roundg f
         case measure => omega
         case rel => exact ⟨x9 + 1, j + 1, _, rfl, ⟨by have := HJA.out; omega⟩, ⟨HCA.out⟩, ⟨put_at _ HO.out _ HK1.out.1 _⟩, ⟨Kd.C_below HRW.out bg_⟩, ⟨bg_⟩⟩
        ·rw [if_neg (fun h => h.elim c4 c5)] at HCE
         have HCA := Aside0.mk HCE
         have hd5 : decide (pv < acc) = false := decide_eq_false c5
         clear HCE
         go_wp2_with (first | (go_at_call 124; (with_reducible refine (needs_go _ _ _ sg nd0 _ ?side1 HCS.out HWS.out HND.out).mono ?_); (case side1 => exact cr_ HRS.out); rintro e w' ⟨rfl, ⟨nd, rfl⟩⟩))
         go_quiet (first | (go_at_call 124; (with_reducible refine (needs_go _ _ _ sg nd0 _ ?side1 HCS.out HWS.out HND.out).mono ?_); (case side1 => exact cr_ HRS.out); rintro e w' ⟨rfl, ⟨nd, rfl⟩⟩; (exact dd_)) | (go_at_call 122; (with_reducible refine (square_go (wide - nd0) v2 pv _ HPV.out (by omega) (by omega) (by omega) (by omega)).mono ?_); rintro e w' ⟨rfl, ⟨nd, rfl⟩⟩; (exact dd_)))
         go_wp2
         go_roundg f
         case measure => omega
         case rel => exact ⟨x9 + 1, j + 1, acc, rfl, ⟨by have := HJA.out; omega⟩, ⟨HCA.out⟩, ⟨rr_ HO.out⟩, ⟨by exact cr_ HR0.out⟩, ⟨bw_⟩⟩
      ·simp only [if_neg (fun h => c2 (hlj.1 h))] at HCE
       have he0 : x9 = (l0.length : Int) := by omega
       have he1 : (x9 == (l0.length : Int)) = true := beq_iff_eq.mpr he0
       have C2 := Aside0.mk he0
       obtain ⟨pv, hpv⟩ : ∃ pv, sqPut (wide - nd0) v2 = pv := ⟨_, rfl⟩
       have hpb := sqPut_ok (wide - nd0) v2 192000 (by omega) (by omega) hvb.1 hvb.2 (by omega)
       try rw [hpv] at HCE
       rw [hpv] at hpb
       have HPV := Aside0.mk hpv
       clear hpv
       clear hlj he0
       by_cases c4 : acc < 0
       ·rw [if_pos (Or.inl c4)] at HCE
        have HCA := Aside0.mk HCE
        have hd4 : decide (acc < 0) = true := decide_eq_true c4
        clear HCE
        go_wp2_with (first | (go_at_call 124; (with_reducible refine (needs_go _ _ _ sg nd0 _ ?side1 HCS.out HWS.out HND.out).mono ?_); (case side1 => exact cr_ HRS.out); rintro e w' ⟨rfl, ⟨nd, rfl⟩⟩))
        go_roundg f
        case measure => omega
        case rel => exact ⟨x9 + 1, j + 1, _, rfl, ⟨by have := HJA.out; omega⟩, ⟨HCA.out⟩, ⟨put_at _ HO.out _ HK1.out.1 _⟩, ⟨Kd.C_below HRW.out bg_⟩, ⟨bg_⟩⟩
       ·have hd4 : decide (acc < 0) = false := decide_eq_false c4
        by_cases c5 : 0 < acc
        ·rw [if_pos (Or.inr c5)] at HCE
         have HCA := Aside0.mk HCE
         have hd5 : decide (0 < acc) = true := decide_eq_true c5
         clear HCE
         go_wp2_with (first | (go_at_call 124; (with_reducible refine (needs_go _ _ _ sg nd0 _ ?side1 HCS.out HWS.out HND.out).mono ?_); (case side1 => exact cr_ HRS.out); rintro e w' ⟨rfl, ⟨nd, rfl⟩⟩))
         go_roundg f
         case measure => omega
         case rel => exact ⟨x9 + 1, j + 1, _, rfl, ⟨by have := HJA.out; omega⟩, ⟨HCA.out⟩, ⟨put_at _ HO.out _ HK1.out.1 _⟩, ⟨Kd.C_below HRW.out bg_⟩, ⟨bg_⟩⟩
        ·rw [if_neg (fun h => h.elim c4 c5)] at HCE
         have HCA := Aside0.mk HCE
         have hd5 : decide (0 < acc) = false := decide_eq_false c5
         clear HCE
         go_wp2_with (first | (go_at_call 124; (with_reducible refine (needs_go _ _ _ sg nd0 _ ?side1 HCS.out HWS.out HND.out).mono ?_); (case side1 => exact cr_ HRS.out); rintro e w' ⟨rfl, ⟨nd, rfl⟩⟩))
         go_roundg f
         case measure => omega
         case rel => exact ⟨x9 + 1, j + 1, acc, rfl, ⟨by have := HJA.out; omega⟩, ⟨HCA.out⟩, ⟨rr_ HO.out⟩, ⟨by exact cr_ HR0.out⟩, ⟨bw_⟩⟩
     ·rw [if_neg c1] at HCE
      have HCA := Aside0.mk HCE
      have hd1 : decide (nd0 ≤ wide) = false := decide_eq_false c1
      have HRo : Aside0 (rowAt k1 acc R = List.replicate k1 0 ++ bestL sqPut wide (l0.drop k1)) := ⟨by rw [HTR.out, ← HCA.out]; rfl⟩
      rw [HRo.out] at HO
      clear HCE hlj HRo
      go_wp2_with (first | (go_at_call 124; (with_reducible refine (needs_go _ _ _ sg nd0 _ ?side1 HCS.out HWS.out HND.out).mono ?_); (case side1 => exact cr_ HRS.out); rintro e w' ⟨rfl, ⟨nd, rfl⟩⟩))
      go_roundg k1
      case measure => omega
      case rel => exact ⟨x8 - 1, rfl, ⟨by have := HK1.out; omega⟩, ⟨rr_ HO.out⟩, ⟨by exact cr_ HR0.out⟩, ⟨bw_⟩⟩
set_option maxHeartbeats 8000000 in
set_option maxRecDepth 100000 in
theorem bestMax_go (A0 : Option Addr) (n c0 : Nat) (l0 : List Int) (wide : Int) (w : World) (hr0 : Kd.C (Kd.int .i64) w A0 n l0) (hc0 : n ≤ c0) (hw : wordsB l0 = true) (hwd : 1 ≤ wide ∧ wide ≤ 80) :
  Calls Tryd.prog 121 #[.slice A0 n c0, .int .i64 wide, .func (.func 126) #[] #[]] w fun e w' => ∃ (g co : Nat), e = .returned (.slice (some ⟨g, 0, none⟩) (l0.length + 1) co) ∧ Kd.R (Kd.int .i64) 3 w' w.heap.size (fun _ => True) (.slice (some ⟨g, 0, none⟩) (l0.length + 1) co) (bestL maxPut wide l0) ∧ Below w.heap.size w w' := by
 obtain rfl : l0.length = n := hr0.1
 have hws := wordsB_true hw
 have hlen1 := hws.1.1
 have hlen2 := hws.1.2
 have HR0 := Aside0.mk hr0
 have HRW := Aside0.mk hr0
 have HC0 := Aside0.mk hc0
 have HWD := Aside0.mk hws.2
 have HB := Aside0.mk (Below.refl w.heap.size w)
 clear hr0 hc0 hw hws
 go_enter Tryd.func121, Tryd.ntmps121
 go_wp2_with (first | ((with_reducible refine gate_dst (N := 14) rfl ?_); refine Kd.R_make (Kd.int .i64) _ 3 rfl (N := 14) rfl 24 _ _ rfl ((l0.length : Int) + 1) rfl rfl Tryd.underlying24 (.int .i64 0) 8 infoI rfl (by decide) (by omega) 0 (ok := fun _ => True) (okp := fun _ => True) rfl (fun _ hk => hk) trivial (by omega) (by omega) (Below.refl _ _) (Nat.le_refl _) ?_; intro v14 w10 ho hb hg_ hnew_; clear hg_ hnew_; rw [show ((l0.length : Int) + 1).toNat = l0.length + 1 from (by omega)] at ho; have n0_ := Aside0.mk (Kd.R_lower ho (below_size bw_)); have n1_ := Aside0.mk (below_step bw_ hb); clear HB; have HO := n0_; have HB := n1_; clear n0_ n1_ hb ho; obtain ⟨g, co, eo, gb, gl, cl, HG_⟩ := Kd.R_form HO.out (by simp); rw [List.length_replicate] at eo; subst eo; have GB := Aside0.mk gb; clear gb gl HG_ cl; skip))
 go_loopg [8] (l0.length) (fun kq v8 w' => ∃ x8 : Int, v8 = .int .i64 x8 ∧ Aside0 (x8 = (kq : Int) - 1 ∧ kq ≤ l0.length) ∧ Aside0 (Kd.R (Kd.int .i64) 3 w' w.heap.size (fun _ => True) (.slice (some ⟨g, 0, none⟩) (l0.length + 1) co) (List.replicate kq 0 ++ bestL maxPut wide (l0.drop kq))) ∧ Aside0 (Kd.C (Kd.int .i64) w' A0 l0.length l0) ∧ Aside0 (Below w.heap.size w w'))
 case atStart => exact ⟨(l0.length : Int) - 1, rfl, ⟨rfl, Nat.le_refl _⟩, ⟨by rw [List.drop_length, bestL, ← rowAt_new0]; ((with_reducible repeat (first | apply Kd.R_alloc | apply Kd.R_drewN | apply Kd.R_drew)); exact HO.out)⟩, ⟨Kd.C_below HRW.out bw_⟩, ⟨bw_⟩⟩
 case round =>
  clear HO HR0 HB
  obtain ⟨x8, rfl, HX8, HO, HR0, HB⟩ := hrel
  cases gk with
  | zero =>
   have hx8 : x8 < 0 := by have := HX8.out; omega
   have HO2 : Aside0 (Kd.R (Kd.int .i64) 3 wr w.heap.size (fun _ => True) (.slice (some ⟨g, 0, none⟩) (l0.length + 1) co) (bestL maxPut wide l0)) := ⟨by simpa using HO.out⟩
   go_wp2
   go_ret
   exact ⟨_, _, rfl, rr_ HO2.out, bw_⟩
  | succ k1 =>
   have hx8 : 0 ≤ x8 := by have := HX8.out; omega
   have hk1 := HX8.out.2
   have HK1 : Aside0 (x8 = (k1 : Int) ∧ k1 < l0.length) := ⟨by have := HX8.out; omega⟩
   have hx8b : x8 < (l0.length : Int) := by have := HK1.out; omega
   rw [← rowAt_zero] at HO
   obtain ⟨R, hR⟩ : ∃ R, bestL maxPut wide (l0.drop (k1 + 1)) = R := ⟨_, rfl⟩
   have hdk : l0.drop k1 = l0[k1] :: l0.drop (k1 + 1) := List.drop_eq_getElem_cons (by omega)
   obtain ⟨T, hT⟩ : ∃ T, bestK maxPut wide (l0.drop k1) R (l0.length - k1) 1 (-1) = T := ⟨_, rfl⟩
   have HTR : Aside0 (bestL maxPut wide (l0.drop k1) = T :: R) := ⟨by rw [hdk, bestL, hR, ← hdk, show (l0.drop (k1 + 1)).length + 1 = l0.length - k1 from by rw [List.length_drop]; omega, hT]⟩
   have HRB : Aside0 (∀ k, -1 ≤ R.getD k 0 ∧ R.getD k 0 ≤ 192000) := ⟨by rw [← hR]; intro k; have := bestL_bd maxPut maxPut_ok wide hwd.2 (l0.drop (k1 + 1)) (fun n hn => HWD.out n (List.mem_of_mem_drop hn)) k; have := @List.length_drop Int (k1 + 1) l0; omega⟩
   have HT := Aside0.mk hT
   rw [hR] at HO
   obtain ⟨hc8_, hf8_⟩ := Kd.R_celln 0 HO.out x8 hx8 (by omega)
   clear hdk hT hR hk1 HX8
   go_wp2
   clear hc8_ hf8_
   go_loopg [9] (l0.length - k1) (fun kq v9 w' => ∃ (x9 : Int) (j : Nat) (acc : Int), v9 = .int .i64 x9 ∧ Aside0 (x9 = (k1 : Int) + j ∧ 1 ≤ j ∧ kq + j + k1 = l0.length + 1 ∧ -1 ≤ acc ∧ acc ≤ 198400) ∧ Aside0 (bestK maxPut wide (l0.drop k1) R kq j acc = T) ∧ Aside0 (Kd.R (Kd.int .i64) 3 w' w.heap.size (fun _ => True) (.slice (some ⟨g, 0, none⟩) (l0.length + 1) co) (rowAt k1 acc R)) ∧ Aside0 (Kd.C (Kd.int .i64) w' A0 l0.length l0) ∧ Aside0 (Below w.heap.size w w'))
   case atStart => exact ⟨x8 + 1, 1, -1, rfl, ⟨by have := HK1.out; omega⟩, ⟨HT.out⟩, ⟨put_at0 HO.out _ HK1.out.1 _⟩, ⟨Kd.C_below HRW.out bg_⟩, ⟨bg_⟩⟩
   case round =>
    clear HO HR0 HB
    obtain ⟨x9, j, acc, rfl, HX, HC, HO, HR0, HB⟩ := hrel
    cases gk with
    | zero =>
     have hx9 : (l0.length : Int) < x9 := by have := HX.out; have := HK1.out; omega
     have HRo : Aside0 (rowAt k1 acc R = List.replicate k1 0 ++ bestL maxPut wide (l0.drop k1)) := ⟨by rw [HTR.out, ← HC.out]; rfl⟩
     rw [HRo.out] at HO
     go_wp2
     go_roundg k1
     case measure => omega
     case rel => exact ⟨x8 - 1, rfl, ⟨by have := HK1.out; omega⟩, ⟨rr_ HO.out⟩, ⟨by exact cr_ HR0.out⟩, ⟨bw_⟩⟩
    | succ f =>
     have hx9 : x9 ≤ (l0.length : Int) := by have := HX.out; have := HK1.out; omega
     have hx98 : x8 ≤ x9 := by have := HX.out; have := HK1.out; omega
     have hx90 : 0 ≤ x9 := by omega
     have hacc0 : -1 ≤ acc := HX.out.2.2.2.1
     have hacc1 : acc ≤ 198400 := HX.out.2.2.2.2
     have HJ := HX.out
     obtain ⟨i0, hi0, _, hsz0, _⟩ := info_parts infoI
     obtain ⟨A2, hcut, hA2, hC2⟩ := print_mid_of (P := Tryd.prog) (Value.int .i64) 0 24 3 .i64 .i64 Tryd.underlying24 hi0 hsz0 A0 c0 l0 x8 x9 hx8 hx98 hx9 HC0.out
     have e9 : x9.toNat = k1 + j := by have := HK1.out; omega
     have e8 : x8.toNat = k1 := by have := HK1.out; omega
     have hst : (l0.take x9.toNat).drop x8.toNat = (l0.drop k1).take j := by rw [e9, e8, List.drop_take, Nat.add_sub_cancel_left]
     obtain ⟨sg, hsg⟩ : ∃ sg, (l0.drop k1).take j = sg := ⟨_, rfl⟩
     rw [hst, hsg] at hcut hA2 hC2
     have HRS := Aside0.mk (Kd.C_of_reads (h1 := fun _ => rfl) (hA2 _ (Kd.reads_of_C HR0.out)))
     have HCS := Aside0.mk hC2
     have HWS : Aside0 (sg.length ≤ 1000 ∧ ∀ n ∈ sg, 1 ≤ n ∧ n ≤ 80) := ⟨by rw [← hsg, List.length_take, List.length_drop]; omega, fun n hn => HWD.out n (List.mem_of_mem_drop (List.mem_of_mem_take (by rw [hsg]; exact hn)))⟩
     have hnb : 1 ≤ needL sg ∧ needL sg ≤ 90000 := by have := sum_bd _ HWS.out.2; have := HWS.out.1; have hsl : 1 ≤ sg.length := (by rw [← hsg, List.length_take, List.length_drop]; omega); unfold needL; omega
     obtain ⟨nd0, hnd⟩ : ∃ nd0, needL sg = nd0 := ⟨_, rfl⟩
     rw [hnd] at hnb
     have HND := Aside0.mk hnd
     obtain ⟨hc8_, hf8_⟩ := Kd.R_celln 0 HO.out x8 hx8 (by omega)
     rw [show rdOf 0 (rowAt k1 acc R) x8 = acc from by rw [show x8 = (k1 : Int) from HK1.out.1]; exact rowAt_rd k1 acc R] at hc8_
     obtain ⟨v2, hv2⟩ : ∃ v2, R.getD (j - 1) 0 = v2 := ⟨_, rfl⟩
     have hvb := HRB.out (j - 1)
     rw [hv2] at hvb
     obtain ⟨hc9_, hf9_⟩ := Kd.R_celln 0 HO.out x9 hx90 (by omega)
     rw [show rdOf 0 (rowAt k1 acc R) x9 = v2 from by rw [← hv2, show x9 = (k1 : Int) + (j : Int) from HJ.1]; exact rowAt_rd2 k1 j acc R HJ.2.1] at hc9_
     have HCE := HC.out
     rw [bestK, hsg, hnd, hv2] at HCE
     have hlj : (j < (l0.drop k1).length ↔ x9 < (l0.length : Int)) := by rw [List.length_drop]; have := HK1.out; omega
     have HJA := Aside0.mk HJ
     clear HJ e9 e8 hst hsg hA2 hC2 hi0 hsz0 hnd hv2 HX HC hf9_
     by_cases c1 : nd0 ≤ wide
     ·rw [if_pos c1] at HCE
      have hd1 : decide (nd0 ≤ wide) = true := decide_eq_true c1
      by_cases c2 : x9 < (l0.length : Int)
      ·simp only [if_pos (hlj.2 c2)] at HCE
       have he1 : (x9 == (l0.length : Int)) = false := beq_eq_false_iff_ne.mpr (by omega)
       obtain ⟨pv, hpv⟩ : ∃ pv, maxPut (wide - nd0) v2 = pv := ⟨_, rfl⟩
       have hpb := maxPut_ok (wide - nd0) v2 192000 (by omega) (by omega) hvb.1 hvb.2 (by omega)
       try rw [hpv] at HCE
       rw [hpv] at hpb
       have HPV := Aside0.mk hpv
       clear hpv
       clear hlj
       by_cases c4 : acc < 0
       ·rw [if_pos (Or.inl c4)] at HCE
        have HCA := Aside0.mk HCE
        have hd4 : decide (acc < 0) = true := decide_eq_true c4
        clear HCE
        go_wp2_with (first | (go_at_call 124; (with_reducible refine (needs_go _ _ _ sg nd0 _ ?side1 HCS.out HWS.out HND.out).mono ?_); (case side1 => exact cr_ HRS.out); rintro e w' ⟨rfl, ⟨nd, rfl⟩⟩))
        go_quiet (first | (go_at_call 124; (with_reducible refine (needs_go _ _ _ sg nd0 _ ?side1 HCS.out HWS.out HND.out).mono ?_); (case side1 => exact cr_ HRS.out); rintro e w' ⟨rfl, ⟨nd, rfl⟩⟩; (exact dd_)) | (go_at_call 126; (with_reducible refine (maxclos_go (wide - nd0) v2 pv _ HPV.out (by omega) (by omega) (by omega) (by omega)).mono ?_); rintro e w' ⟨rfl, ⟨nd, rfl⟩⟩; (exact dd_)))
        go_wp2
        go_roundg f
        case measure => omega
        case rel => exact ⟨x9 + 1, j + 1, _, rfl, ⟨by have := HJA.out; omega⟩, ⟨HCA.out⟩, ⟨put_at _ HO.out _ HK1.out.1 _⟩, ⟨Kd.C_below HRW.out bg_⟩, ⟨bg_⟩⟩
       ·have hd4 : decide (acc < 0) = false := decide_eq_false c4
        by_cases c5 : pv < acc
        ·rw [if_pos (Or.inr c5)] at HCE
         have HCA := Aside0.mk HCE
         have hd5 : decide (pv < acc) = true := decide_eq_true c5
         clear HCE
         go_wp2_with (first | (go_at_call 124; (with_reducible refine (needs_go _ _ _ sg nd0 _ ?side1 HCS.out HWS.out HND.out).mono ?_); (case side1 => exact cr_ HRS.out); rintro e w' ⟨rfl, ⟨nd, rfl⟩⟩))
         go_quiet (first | (go_at_call 124; (with_reducible refine (needs_go _ _ _ sg nd0 _ ?side1 HCS.out HWS.out HND.out).mono ?_); (case side1 => exact cr_ HRS.out); rintro e w' ⟨rfl, ⟨nd, rfl⟩⟩; (exact dd_)) | (go_at_call 126; (with_reducible refine (maxclos_go (wide - nd0) v2 pv _ HPV.out (by omega) (by omega) (by omega) (by omega)).mono ?_); rintro e w' ⟨rfl, ⟨nd, rfl⟩⟩; (exact dd_)))
         go_wp2
         go_roundg f
         case measure => omega
         case rel => exact ⟨x9 + 1, j + 1, _, rfl, ⟨by have := HJA.out; omega⟩, ⟨HCA.out⟩, ⟨put_at _ HO.out _ HK1.out.1 _⟩, ⟨Kd.C_below HRW.out bg_⟩, ⟨bg_⟩⟩
        ·rw [if_neg (fun h => h.elim c4 c5)] at HCE
         have HCA := Aside0.mk HCE
         have hd5 : decide (pv < acc) = false := decide_eq_false c5
         clear HCE
         go_wp2_with (first | (go_at_call 124; (with_reducible refine (needs_go _ _ _ sg nd0 _ ?side1 HCS.out HWS.out HND.out).mono ?_); (case side1 => exact cr_ HRS.out); rintro e w' ⟨rfl, ⟨nd, rfl⟩⟩))
         go_quiet (first | (go_at_call 124; (with_reducible refine (needs_go _ _ _ sg nd0 _ ?side1 HCS.out HWS.out HND.out).mono ?_); (case side1 => exact cr_ HRS.out); rintro e w' ⟨rfl, ⟨nd, rfl⟩⟩; (exact dd_)) | (go_at_call 126; (with_reducible refine (maxclos_go (wide - nd0) v2 pv _ HPV.out (by omega) (by omega) (by omega) (by omega)).mono ?_); rintro e w' ⟨rfl, ⟨nd, rfl⟩⟩; (exact dd_)))
         go_wp2
         go_roundg f
         case measure => omega
         case rel => exact ⟨x9 + 1, j + 1, acc, rfl, ⟨by have := HJA.out; omega⟩, ⟨HCA.out⟩, ⟨rr_ HO.out⟩, ⟨by exact cr_ HR0.out⟩, ⟨bw_⟩⟩
      ·simp only [if_neg (fun h => c2 (hlj.1 h))] at HCE
       have he0 : x9 = (l0.length : Int) := by omega
       have he1 : (x9 == (l0.length : Int)) = true := beq_iff_eq.mpr he0
       have C2 := Aside0.mk he0
       obtain ⟨pv, hpv⟩ : ∃ pv, maxPut (wide - nd0) v2 = pv := ⟨_, rfl⟩
       have hpb := maxPut_ok (wide - nd0) v2 192000 (by omega) (by omega) hvb.1 hvb.2 (by omega)
       try rw [hpv] at HCE
       rw [hpv] at hpb
       have HPV := Aside0.mk hpv
       clear hpv
       clear hlj he0
       by_cases c4 : acc < 0
       ·rw [if_pos (Or.inl c4)] at HCE
        have HCA := Aside0.mk HCE
        have hd4 : decide (acc < 0) = true := decide_eq_true c4
        clear HCE
        go_wp2_with (first | (go_at_call 124; (with_reducible refine (needs_go _ _ _ sg nd0 _ ?side1 HCS.out HWS.out HND.out).mono ?_); (case side1 => exact cr_ HRS.out); rintro e w' ⟨rfl, ⟨nd, rfl⟩⟩))
        go_roundg f
        case measure => omega
        case rel => exact ⟨x9 + 1, j + 1, _, rfl, ⟨by have := HJA.out; omega⟩, ⟨HCA.out⟩, ⟨put_at _ HO.out _ HK1.out.1 _⟩, ⟨Kd.C_below HRW.out bg_⟩, ⟨bg_⟩⟩
       ·have hd4 : decide (acc < 0) = false := decide_eq_false c4
        by_cases c5 : 0 < acc
        ·rw [if_pos (Or.inr c5)] at HCE
         have HCA := Aside0.mk HCE
         have hd5 : decide (0 < acc) = true := decide_eq_true c5
         clear HCE
         go_wp2_with (first | (go_at_call 124; (with_reducible refine (needs_go _ _ _ sg nd0 _ ?side1 HCS.out HWS.out HND.out).mono ?_); (case side1 => exact cr_ HRS.out); rintro e w' ⟨rfl, ⟨nd, rfl⟩⟩))
         go_roundg f
         case measure => omega
         case rel => exact ⟨x9 + 1, j + 1, _, rfl, ⟨by have := HJA.out; omega⟩, ⟨HCA.out⟩, ⟨put_at _ HO.out _ HK1.out.1 _⟩, ⟨Kd.C_below HRW.out bg_⟩, ⟨bg_⟩⟩
        ·rw [if_neg (fun h => h.elim c4 c5)] at HCE
         have HCA := Aside0.mk HCE
         have hd5 : decide (0 < acc) = false := decide_eq_false c5
         clear HCE
         go_wp2_with (first | (go_at_call 124; (with_reducible refine (needs_go _ _ _ sg nd0 _ ?side1 HCS.out HWS.out HND.out).mono ?_); (case side1 => exact cr_ HRS.out); rintro e w' ⟨rfl, ⟨nd, rfl⟩⟩))
         go_roundg f
         case measure => omega
         case rel => exact ⟨x9 + 1, j + 1, acc, rfl, ⟨by have := HJA.out; omega⟩, ⟨HCA.out⟩, ⟨rr_ HO.out⟩, ⟨by exact cr_ HR0.out⟩, ⟨bw_⟩⟩
     ·rw [if_neg c1] at HCE
      have HCA := Aside0.mk HCE
      have hd1 : decide (nd0 ≤ wide) = false := decide_eq_false c1
      have HRo : Aside0 (rowAt k1 acc R = List.replicate k1 0 ++ bestL maxPut wide (l0.drop k1)) := ⟨by rw [HTR.out, ← HCA.out]; rfl⟩
      rw [HRo.out] at HO
      clear HCE hlj HRo
      go_wp2_with (first | (go_at_call 124; (with_reducible refine (needs_go _ _ _ sg nd0 _ ?side1 HCS.out HWS.out HND.out).mono ?_); (case side1 => exact cr_ HRS.out); rintro e w' ⟨rfl, ⟨nd, rfl⟩⟩))
      go_roundg k1
      case measure => omega
      case rel => exact ⟨x8 - 1, rfl, ⟨by have := HK1.out; omega⟩, ⟨rr_ HO.out⟩, ⟨by exact cr_ HR0.out⟩, ⟨bw_⟩⟩
end Go.Proofs.YtpedlkhfeoeogaaDoor.Own
