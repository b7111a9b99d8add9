/- In how many ways words fit in lines: contracts of the program's and the reference's functions. -/
import Derived.Test.YtpedlkhfeoeogaaDoorLnBase
import Derived.RegionTactic
import Derived.ChangeAlike
namespace Go.Proofs.YtpedlkhfeoeogaaDoor.Own
open Go.RowKit Go.Proofs.YtpedlkhfeoeogaaDoorW.PrintWords Go.Proofs.YtpedlkhfeoeogaaDoorW.PrintLast Go.Proofs.YtpedlkhfeoeogaaDoorW.PrintMore
attribute [local go_sem] max2_int min2_int max_two min_two max_three min_three max_four min_four
set_option linter.unusedVariables false
set_option linter.unusedSimpArgs false
theorem put_at {W : World} {e base : Nat} {ok : Nat → Prop} {g n co i : Nat} {acc : Int} {R : List Int} (m : Nat) (h : Kd.R (Kd.int .i64) e W base ok (.slice (some ⟨g, 0, none⟩) n co) (rowAt i acc R)) (x8 : Int) (h8 : x8 = (i : Int)) (v : Int) :
  Kd.R (Kd.int .i64) e ((W.drewN m).setCell ⟨g, x8.toNat, none⟩ (.int .i64 v)) base ok (.slice (some ⟨g, 0, none⟩) n co) (rowAt i v R) := by
 have h2 := (Kd.R_putg (Kd.R_drewN h m) x8 v).1
 rw [show x8.toNat = i from by omega, rowAt_set] at h2
 rw [show x8.toNat = i from by omega]
 exact h2
set_option maxHeartbeats 8000000 in
set_option maxRecDepth 100000 in
theorem lnCan_go (A0 : Option Addr) (n c0 : Nat) (l0 : List Int) (wide most : Int) (w : World) (hr0 : Kd.C (Kd.int .i64) w A0 n l0) (hc0 : n ≤ c0) (hw : wordsB l0 = true) (hwd : 1 ≤ wide ∧ wide ≤ 80) :
  Calls Tryd.prog 127 #[.slice A0 n c0, .int .i64 wide, .int .i64 most] w fun e w' => e = .returned (.int .i64 (canM l0 wide most)) ∧ Below w.heap.size w w' := by
 obtain rfl : l0.length = n := hr0.1
 have hws := wordsB_true hw
 have hlen1 := hws.1.1
 have hlen2 := hws.1.2
 have HR0 := Aside0.mk hr0
 have HRW := Aside0.mk hr0
 have HC0 := Aside0.mk hc0
 have HWD := Aside0.mk hws.2
 have HB := Aside0.mk (Below.refl w.heap.size w)
 clear hr0 hc0 hw hws
 go_enter Tryd.func127, Tryd.ntmps127
 go_wp2_with (first | ((with_reducible refine gate_dst (N := 13) rfl ?_); refine Kd.R_make (Kd.int .i64) _ 3 rfl (N := 13) rfl 24 _ _ rfl ((l0.length : Int) + 1) rfl rfl Tryd.underlying24 (.int .i64 0) 8 infoI rfl (by decide) (by omega) 0 (ok := fun _ => True) (okp := fun _ => True) rfl (fun _ hk => hk) trivial (by omega) (by omega) (Below.refl _ _) (Nat.le_refl _) ?_; intro v13 w10 ho hb hg_ hnew_; clear hg_ hnew_; rw [show ((l0.length : Int) + 1).toNat = l0.length + 1 from (by omega)] at ho; have n0_ := Aside0.mk (Kd.R_lower ho (below_size bw_)); have n1_ := Aside0.mk (below_step bw_ hb); clear HB; have HO := n0_; have HB := n1_; clear n0_ n1_ hb ho; obtain ⟨g, co, eo, gb, gl, cl, HG_⟩ := Kd.R_form HO.out (by simp); rw [List.length_replicate] at eo; subst eo; have GB := Aside0.mk gb; clear gb gl HG_ cl; obtain ⟨hc0_, hf0_⟩ := Kd.R_celln 0 HO.out (l0.length : Int) (by omega) (by omega); have HP := Aside0.mk (Kd.R_putg HO.out (l0.length : Int) 1); rw [show ((l0.length : Int)).toNat = l0.length from (by omega), rowAt_new] at HP; rw [show ((l0.length : Int)).toNat = l0.length from (by omega)] at hc0_ hf0_))
 clear hc0_ hf0_
 go_loopg [8] (l0.length) (fun kq v8 w' => ∃ x8 : Int, v8 = .int .i64 x8 ∧ Aside0 (x8 = (kq : Int) - 1 ∧ kq ≤ l0.length) ∧ Aside0 (Kd.R (Kd.int .i64) 3 w' w.heap.size (fun _ => True) (.slice (some ⟨g, 0, none⟩) (l0.length + 1) co) (List.replicate kq 0 ++ canL wide most (l0.drop kq))) ∧ Aside0 (Kd.C (Kd.int .i64) w' A0 l0.length l0) ∧ Aside0 (Below w.heap.size w w'))
 case atStart => exact ⟨(l0.length : Int) - 1, rfl, ⟨rfl, Nat.le_refl _⟩, ⟨by rw [List.drop_length]; exact HP.out.1⟩, ⟨Kd.C_below HR0.out (below_set HB.out GB.out)⟩, ⟨below_set HB.out GB.out⟩⟩
 case round =>
  clear HP HO HR0 HB
  obtain ⟨x8, rfl, HX8, HO, HR0, HB⟩ := hrel
  cases gk with
  | zero =>
   have hx8 : x8 < 0 := by have := HX8.out; omega
   have HO2 : Aside0 (Kd.R (Kd.int .i64) 3 wr w.heap.size (fun _ => True) (.slice (some ⟨g, 0, none⟩) (l0.length + 1) co) (canL wide most l0)) := ⟨by simpa using HO.out⟩
   obtain ⟨hc0_, hf0_⟩ := Kd.R_celln 0 HO2.out 0 (by omega) (by omega)
   have he : rdOf 0 (canL wide most l0) 0 = canM l0 wide most := rfl
   rw [he] at hc0_
   simp only [Int.toNat_zero] at hc0_ hf0_
   clear he
   go_wp2
   go_ret
   exact ⟨rfl, bw_⟩
  | succ k1 =>
   have hx8 : 0 ≤ x8 := by have := HX8.out; omega
   have hk1 := HX8.out.2
   have HK1 : Aside0 (x8 = (k1 : Int) ∧ k1 < l0.length) := ⟨by have := HX8.out; omega⟩
   have hx8b : x8 < (l0.length : Int) := by have := HK1.out; omega
   rw [← rowAt_zero] at HO
   obtain ⟨R, hR⟩ : ∃ R, canL wide most (l0.drop (k1 + 1)) = R := ⟨_, rfl⟩
   have hdk : l0.drop k1 = l0[k1] :: l0.drop (k1 + 1) := List.drop_eq_getElem_cons (by omega)
   obtain ⟨T, hT⟩ : ∃ T, canK wide most (l0.drop k1) R (l0.length - k1) 1 0 = T := ⟨_, rfl⟩
   have HTR : Aside0 (canL wide most (l0.drop k1) = T :: R) := ⟨by rw [hdk, canL, hR, ← hdk, show (l0.drop (k1 + 1)).length + 1 = l0.length - k1 from by rw [List.length_drop]; omega, hT]⟩
   have HRB : Aside0 (∀ k, 0 ≤ R.getD k 0 ∧ R.getD k 0 ≤ 1073741824) := ⟨by rw [← hR]; exact canL_le wide most (l0.drop (k1 + 1)) (by rw [List.length_drop]; omega)⟩
   have HT := Aside0.mk hT
   rw [hR] at HO
   clear hdk hT hR hk1 HX8
   go_wp2
   go_loopg [9] (l0.length - k1) (fun kq v9 w' => ∃ (x9 : Int) (j : Nat) (acc : Int), v9 = .int .i64 x9 ∧ Aside0 (x9 = (k1 : Int) + j ∧ 1 ≤ j ∧ kq + j + k1 = l0.length + 1 ∧ 0 ≤ acc ∧ acc ≤ j * 1073741824) ∧ Aside0 (canK wide most (l0.drop k1) R kq j acc = T) ∧ Aside0 (Kd.R (Kd.int .i64) 3 w' w.heap.size (fun _ => True) (.slice (some ⟨g, 0, none⟩) (l0.length + 1) co) (rowAt k1 acc R)) ∧ Aside0 (Kd.C (Kd.int .i64) w' A0 l0.length l0) ∧ Aside0 (Below w.heap.size w w'))
   case atStart => exact ⟨x8 + 1, 1, 0, rfl, ⟨by have := HK1.out; omega⟩, ⟨HT.out⟩, ⟨rr_ HO.out⟩, ⟨by exact cr_ HR0.out⟩, ⟨bw_⟩⟩
   case round =>
    clear HO HR0 HB
    obtain ⟨x9, j, acc, rfl, HX, HC, HO, HR0, HB⟩ := hrel
    cases gk with
    | zero =>
     have hx9 : (l0.length : Int) < x9 := by have := HX.out; have := HK1.out; omega
     have HRo : Aside0 (rowAt k1 acc R = List.replicate k1 0 ++ canL wide most (l0.drop k1)) := ⟨by rw [HTR.out, ← HC.out]; rfl⟩
     rw [HRo.out] at HO
     go_wp2
     go_roundg k1
     case measure => omega
     case rel => exact ⟨x8 - 1, rfl, ⟨by have := HK1.out; omega⟩, ⟨rr_ HO.out⟩, ⟨by exact cr_ HR0.out⟩, ⟨bw_⟩⟩
    | succ f =>
     have hx9 : x9 ≤ (l0.length : Int) := by have := HX.out; have := HK1.out; omega
     have hx98 : x8 ≤ x9 := by have := HX.out; have := HK1.out; omega
     have hx90 : 0 ≤ x9 := by omega
     have hacc0 : 0 ≤ acc := HX.out.2.2.2.1
     have hacc1 : acc ≤ 34359738368 := by have := HX.out; have := HK1.out; omega
     have HJ := HX.out
     obtain ⟨i0, hi0, _, hsz0, _⟩ := info_parts infoI
     obtain ⟨A2, hcut, hA2, hC2⟩ := print_mid_of (P := Tryd.prog) (Value.int .i64) 0 24 3 .i64 .i64 Tryd.underlying24 hi0 hsz0 A0 c0 l0 x8 x9 hx8 hx98 hx9 HC0.out
     have e9 : x9.toNat = k1 + j := by have := HK1.out; omega
     have e8 : x8.toNat = k1 := by have := HK1.out; omega
     have hst : (l0.take x9.toNat).drop x8.toNat = (l0.drop k1).take j := by rw [e9, e8, List.drop_take, Nat.add_sub_cancel_left]
     obtain ⟨sg, hsg⟩ : ∃ sg, (l0.drop k1).take j = sg := ⟨_, rfl⟩
     rw [hst, hsg] at hcut hA2 hC2
     have HRS := Aside0.mk (Kd.C_of_reads (h1 := fun _ => rfl) (hA2 _ (Kd.reads_of_C HR0.out)))
     have HCS := Aside0.mk hC2
     have HWS : Aside0 (sg.length ≤ 1000 ∧ ∀ n ∈ sg, 1 ≤ n ∧ n ≤ 80) := ⟨by rw [← hsg, List.length_take, List.length_drop]; omega, fun n hn => HWD.out n (List.mem_of_mem_drop (List.mem_of_mem_take (by rw [hsg]; exact hn)))⟩
     have hnb : -1 ≤ needL sg ∧ needL sg ≤ 90000 := by have := sum_bd _ HWS.out.2; have := HWS.out.1; unfold needL; omega
     obtain ⟨nd0, hnd⟩ : ∃ nd0, needL sg = nd0 := ⟨_, rfl⟩
     rw [hnd] at hnb
     have HND := Aside0.mk hnd
     obtain ⟨hc8_, hf8_⟩ := Kd.R_celln 0 HO.out x8 hx8 (by omega)
     rw [show rdOf 0 (rowAt k1 acc R) x8 = acc from by rw [show x8 = (k1 : Int) from HK1.out.1]; exact rowAt_rd k1 acc R] at hc8_
     obtain ⟨v2, hv2⟩ : ∃ v2, R.getD (j - 1) 0 = v2 := ⟨_, rfl⟩
     have hvb := HRB.out (j - 1)
     rw [hv2] at hvb
     obtain ⟨hc9_, hf9_⟩ := Kd.R_celln 0 HO.out x9 hx90 (by omega)
     rw [show rdOf 0 (rowAt k1 acc R) x9 = v2 from by rw [← hv2, show x9 = (k1 : Int) + (j : Int) from HJ.1]; exact rowAt_rd2 k1 j acc R HJ.2.1] at hc9_
     have HP := Aside0.mk (Kd.R_putg HO.out x8 (acc + v2))
     rw [e8, rowAt_set, ← e8] at HP
     have HCE := HC.out
     rw [canK, hsg, hnd, hv2] at HCE
     have hlj : (j = (l0.drop k1).length ↔ x9 = (l0.length : Int)) := by rw [List.length_drop]; have := HK1.out; omega
     have HLS : Aside0 ((l0.drop k1).length = l0.length - k1) := ⟨List.length_drop⟩
     have HJA := Aside0.mk HJ
     clear HJ e9 e8 hst hsg hA2 hC2 hi0 hsz0 hnd hv2 HX HC hf9_
     by_cases c1 : nd0 ≤ wide
     ·rw [if_pos c1] at HCE
      have hd1 : decide (nd0 ≤ wide) = true := decide_eq_true c1
      by_cases c2 : x9 = (l0.length : Int)
      ·rw [if_pos (Or.inl (hlj.2 c2))] at HCE
       have HCA := Aside0.mk HCE
       have he1 : (x9 == (l0.length : Int)) = true := beq_iff_eq.mpr c2
       have C2 := Aside0.mk c2
       clear HCE hlj c2
       go_wp2_with (first | (go_at_call 125; (with_reducible refine (need_go _ _ _ sg nd0 _ ?side1 HCS.out HWS.out HND.out).mono ?_); (case side1 => exact cr_ HRS.out); rintro e w' ⟨rfl, ⟨nd, rfl⟩⟩))
       go_region
       go_wp2
       go_roundg f
       case measure => omega
       case rel => exact ⟨x9 + 1, j + 1, acc + v2, rfl, ⟨by have := HJA.out; omega⟩, ⟨HCA.out⟩, ⟨put_at _ HO.out _ HK1.out.1 _⟩, ⟨Kd.C_below HRW.out bg_⟩, ⟨bg_⟩⟩
      ·have he1 : (x9 == (l0.length : Int)) = false := beq_eq_false_iff_ne.mpr c2
       have hlt : x9 < (l0.length : Int) := by omega
       by_cases c3 : wide - nd0 ≤ most
       ·rw [if_pos (Or.inr c3)] at HCE
        have HCA := Aside0.mk HCE
        have hd2 : decide (wide - nd0 ≤ most) = true := decide_eq_true c3
        clear HCE hlj
        go_wp2_with (first | (go_at_call 125; (with_reducible refine (need_go _ _ _ sg nd0 _ ?side1 HCS.out HWS.out HND.out).mono ?_); (case side1 => exact cr_ HRS.out); rintro e w' ⟨rfl, ⟨nd, rfl⟩⟩))
        go_region
        go_wp2
        go_roundg f
        case measure => omega
        case rel => exact ⟨x9 + 1, j + 1, acc + v2, rfl, ⟨by have := HJA.out; omega⟩, ⟨HCA.out⟩, ⟨put_at _ HO.out _ HK1.out.1 _⟩, ⟨Kd.C_below HRW.out bg_⟩, ⟨bg_⟩⟩
       ·rw [if_neg (fun h => h.elim (fun h => c2 (hlj.1 h)) c3)] at HCE
        have HCA := Aside0.mk HCE
        have hd2 : decide (wide - nd0 ≤ most) = false := decide_eq_false c3
        clear HCE hlj
        go_wp2_with (first | (go_at_call 125; (with_reducible refine (need_go _ _ _ sg nd0 _ ?side1 HCS.out HWS.out HND.out).mono ?_); (case side1 => exact cr_ HRS.out); rintro e w' ⟨rfl, ⟨nd, rfl⟩⟩))
        go_roundg f
        case measure => omega
        case rel => exact ⟨x9 + 1, j + 1, acc, rfl, ⟨by have := HJA.out; omega⟩, ⟨HCA.out⟩, ⟨rr_ HO.out⟩, ⟨by exact cr_ HR0.out⟩, ⟨bw_⟩⟩
     ·rw [if_neg c1] at HCE
      have HCA := Aside0.mk HCE
      have hd1 : decide (nd0 ≤ wide) = false := decide_eq_false c1
      have HRo : Aside0 (rowAt k1 acc R = List.replicate k1 0 ++ canL wide most (l0.drop k1)) := ⟨by rw [HTR.out, ← HCA.out]; rfl⟩
      rw [HRo.out] at HO
      clear HCE hlj HRo
      go_wp2_with (first | (go_at_call 125; (with_reducible refine (need_go _ _ _ sg nd0 _ ?side1 HCS.out HWS.out HND.out).mono ?_); (case side1 => exact cr_ HRS.out); rintro e w' ⟨rfl, ⟨nd, rfl⟩⟩))
      go_roundg k1
      case measure => omega
      case rel => exact ⟨x8 - 1, rfl, ⟨by have := HK1.out; omega⟩, ⟨rr_ HO.out⟩, ⟨by exact cr_ HR0.out⟩, ⟨bw_⟩⟩
def breaksM (l : List Int) (wide : Int) : Int := if settingB l wide = true then canM l wide wide else 0
set_option maxHeartbeats 8000000 in
set_option maxRecDepth 100000 in
theorem implBreaks_go (A0 : Option Addr) (n c0 : Nat) (l0 : List Int) (wide : Int) (w : World) (hr0 : Kd.C (Kd.int .i64) w A0 n l0) (hc0 : n ≤ c0) (hn : n < 1073741824) :
  Calls Tryd.prog 44 #[.slice A0 n c0, .int .i64 wide] w fun e w' => e = .returned (.tuple #[.int .i64 (breaksM l0 wide), .bool (settingB l0 wide)]) ∧ Below w.heap.size w w' := by
 obtain rfl : l0.length = n := hr0.1
 have HN := Aside0.mk hn
 by_cases hg : settingB l0 wide = true
 ·have hw := (settingB_true hg).1
  have hwd := (settingB_true hg).2.1
  have hM : breaksM l0 wide = canM l0 wide wide := if_pos hg
  rw [hM, hg]
  have HG := Aside0.mk hg
  have hws := wordsB_true hw
  have hlen1 := hws.1.1
  have hlen2 := hws.1.2
  have HR0 := Aside0.mk hr0
  have HRW := Aside0.mk hr0
  have HC0 := Aside0.mk hc0
  have HWD := Aside0.mk hws.2
  have HB := Aside0.mk (Below.refl w.heap.size w)
  clear hr0 hc0 hw hws hM hg hn
  go_enter Tryd.func44, Tryd.ntmps44
  go_wp2_with (first | (go_at_call 117; (with_reducible refine (isSetting_go _ _ _ l0 wide true _ ?side1 HC0.out HN.out HG.out).mono ?_); (case side1 => exact cr_ HR0.out); rintro e w' ⟨rfl, ⟨nd, rfl⟩⟩) | ((with_reducible refine gate_dst (N := 16) rfl ?_); refine Kd.R_make (Kd.int .i64) _ 3 rfl (N := 16) rfl 24 _ _ rfl ((l0.length : Int) + 1) rfl rfl Tryd.underlying24 (.int .i64 0) 8 infoI rfl (by decide) (by omega) 0 (ok := fun _ => True) (okp := fun _ => True) rfl (fun _ hk => hk) trivial (by omega) (by omega) (Below.refl _ _) (Nat.le_refl _) ?_; intro v16 w10 ho hb hg_ hnew_; clear hg_ hnew_; rw [show ((l0.length : Int) + 1).toNat = l0.length + 1 from (by omega)] at ho; have n0_ := Aside0.mk (Kd.R_lower ho (below_size bw_)); have n1_ := Aside0.mk (below_step bw_ hb); clear HB; have HO := n0_; have HB := n1_; clear n0_ n1_ hb ho; obtain ⟨g, co, eo, gb, gl, cl, HG_⟩ := Kd.R_form HO.out (by simp); rw [List.length_replicate] at eo; subst eo; have GB := Aside0.mk gb; clear gb gl HG_ cl; obtain ⟨hc0_, hf0_⟩ := Kd.R_celln 0 HO.out (l0.length : Int) (by omega) (by omega); have HP := Aside0.mk (Kd.R_putg HO.out (l0.length : Int) 1); rw [show ((l0.length : Int)).toNat = l0.length from (by omega), rowAt_new] at HP; rw [show ((l0.length : Int)).toNat = l0.length from (by omega)] at hc0_ hf0_))
  clear hc0_ hf0_
  go_loopg [7] (l0.length) (fun kq v7 w' => ∃ x8 : Int, v7 = .int .i64 x8 ∧ Aside0 (x8 = (kq : Int) - 1 ∧ kq ≤ l0.length) ∧ Aside0 (Kd.R (Kd.int .i64) 3 w' w.heap.size (fun _ => True) (.slice (some ⟨g, 0, none⟩) (l0.length + 1) co) (List.replicate kq 0 ++ canL wide wide (l0.drop kq))) ∧ Aside0 (Kd.C (Kd.int .i64) w' A0 l0.length l0) ∧ Aside0 (Below w.heap.size w w'))
  case atStart => exact ⟨(l0.length : Int) - 1, rfl, ⟨rfl, Nat.le_refl _⟩, ⟨by rw [List.drop_length]; exact HP.out.1⟩, ⟨Kd.C_below HR0.out (below_set HB.out GB.out)⟩, ⟨below_set HB.out GB.out⟩⟩
  case round =>
   clear HP HO HR0 HB
   obtain ⟨x8, rfl, HX8, HO, HR0, HB⟩ := hrel
   cases gk with
   | zero =>
    have hx8 : x8 < 0 := by have := HX8.out; omega
    have HO2 : Aside0 (Kd.R (Kd.int .i64) 3 wr w.heap.size (fun _ => True) (.slice (some ⟨g, 0, none⟩) (l0.length + 1) co) (canL wide wide l0)) := ⟨by simpa using HO.out⟩
    obtain ⟨hc0_, hf0_⟩ := Kd.R_celln 0 HO2.out 0 (by omega) (by omega)
    have he : rdOf 0 (canL wide wide l0) 0 = canM l0 wide wide := rfl
    rw [he] at hc0_
    simp only [Int.toNat_zero] at hc0_ hf0_
    clear he
    go_wp2
    go_ret2
    exact ⟨rfl, bw_⟩
   | succ k1 =>
    have hx8 : 0 ≤ x8 := by have := HX8.out; omega
    have hk1 := HX8.out.2
    have HK1 : Aside0 (x8 = (k1 : Int) ∧ k1 < l0.length) := ⟨by have := HX8.out; omega⟩
    have hx8b : x8 < (l0.length : Int) := by have := HK1.out; omega
    rw [← rowAt_zero] at HO
    obtain ⟨R, hR⟩ : ∃ R, canL wide wide (l0.drop (k1 + 1)) = R := ⟨_, rfl⟩
    have hdk : l0.drop k1 = l0[k1] :: l0.drop (k1 + 1) := List.drop_eq_getElem_cons (by omega)
    obtain ⟨T, hT⟩ : ∃ T, canK wide wide (l0.drop k1) R (l0.length - k1) 1 0 = T := ⟨_, rfl⟩
    have HTR : Aside0 (canL wide wide (l0.drop k1) = T :: R) := ⟨by rw [hdk, canL, hR, ← hdk, show (l0.drop (k1 + 1)).length + 1 = l0.length - k1 from by rw [List.length_drop]; omega, hT]⟩
    have HRB : Aside0 (∀ k, 0 ≤ R.getD k 0 ∧ R.getD k 0 ≤ 1073741824) := ⟨by rw [← hR]; exact canL_le wide wide (l0.drop (k1 + 1)) (by rw [List.length_drop]; omega)⟩
    have HT := Aside0.mk hT
    rw [hR] at HO
    clear hdk hT hR hk1 HX8
    go_wp2
    go_loopg [8] (l0.length - k1) (fun kq v8 w' => ∃ (x9 : Int) (j : Nat) (acc : Int), v8 = .int .i64 x9 ∧ Aside0 (x9 = (k1 : Int) + j ∧ 1 ≤ j ∧ kq + j + k1 = l0.length + 1 ∧ 0 ≤ acc ∧ acc ≤ j * 1073741824) ∧ Aside0 (canK wide wide (l0.drop k1) R kq j acc = T) ∧ Aside0 (Kd.R (Kd.int .i64) 3 w' w.heap.size (fun _ => True) (.slice (some ⟨g, 0, none⟩) (l0.length + 1) co) (rowAt k1 acc R)) ∧ Aside0 (Kd.C (Kd.int .i64) w' A0 l0.length l0) ∧ Aside0 (Below w.heap.size w w'))
    case atStart => exact ⟨x8 + 1, 1, 0, rfl, ⟨by have := HK1.out; omega⟩, ⟨HT.out⟩, ⟨rr_ HO.out⟩, ⟨by exact cr_ HR0.out⟩, ⟨bw_⟩⟩
    case round =>
     clear HO HR0 HB
     obtain ⟨x9, j, acc, rfl, HX, HC, HO, HR0, HB⟩ := hrel
     cases gk with
     | zero =>
      have hx9 : (l0.length : Int) < x9 := by have := HX.out; have := HK1.out; omega
      have HRo : Aside0 (rowAt k1 acc R = List.replicate k1 0 ++ canL wide wide (l0.drop k1)) := ⟨by rw [HTR.out, ← HC.out]; rfl⟩
      rw [HRo.out] at HO
      go_wp2
      go_roundg k1
      case measure => omega
      case rel => exact ⟨x8 - 1, rfl, ⟨by have := HK1.out; omega⟩, ⟨rr_ HO.out⟩, ⟨by exact cr_ HR0.out⟩, ⟨bw_⟩⟩
     | succ f =>
      have hx9 : x9 ≤ (l0.length : Int) := by have := HX.out; have := HK1.out; omega
      have hx98 : x8 ≤ x9 := by have := HX.out; have := HK1.out; omega
      have hx90 : 0 ≤ x9 := by omega
      have hacc0 : 0 ≤ acc := HX.out.2.2.2.1
      have hacc1 : acc ≤ 34359738368 := by have := HX.out; have := HK1.out; omega
      have HJ := HX.out
      obtain ⟨i0, hi0, _, hsz0, _⟩ := info_parts infoI
      obtain ⟨A2, hcut, hA2, hC2⟩ := print_mid_of (P := Tryd.prog) (Value.int .i64) 0 24 3 .i64 .i64 Tryd.underlying24 hi0 hsz0 A0 c0 l0 x8 x9 hx8 hx98 hx9 HC0.out
      have e9 : x9.toNat = k1 + j := by have := HK1.out; omega
      have e8 : x8.toNat = k1 := by have := HK1.out; omega
      have hst : (l0.take x9.toNat).drop x8.toNat = (l0.drop k1).take j := by rw [e9, e8, List.drop_take, Nat.add_sub_cancel_left]
      obtain ⟨sg, hsg⟩ : ∃ sg, (l0.drop k1).take j = sg := ⟨_, rfl⟩
      rw [hst, hsg] at hcut hA2 hC2
      have HRS := Aside0.mk (Kd.C_of_reads (h1 := fun _ => rfl) (hA2 _ (Kd.reads_of_C HR0.out)))
      have HCS := Aside0.mk hC2
      have HWS : Aside0 (sg.length ≤ 1000 ∧ ∀ n ∈ sg, 1 ≤ n ∧ n ≤ 80) := ⟨by rw [← hsg, List.length_take, List.length_drop]; omega, fun n hn => HWD.out n (List.mem_of_mem_drop (List.mem_of_mem_take (by rw [hsg]; exact hn)))⟩
      have hnb : 1 ≤ needL sg ∧ needL sg ≤ 90000 := by have := sum_bd _ HWS.out.2; have := HWS.out.1; have hsl : 1 ≤ sg.length := (by rw [← hsg, List.length_take, List.length_drop]; omega); unfold needL; omega
      obtain ⟨nd0, hnd⟩ : ∃ nd0, needL sg = nd0 := ⟨_, rfl⟩
      rw [hnd] at hnb
      have HND := Aside0.mk hnd
      obtain ⟨hc8_, hf8_⟩ := Kd.R_celln 0 HO.out x8 hx8 (by omega)
      rw [show rdOf 0 (rowAt k1 acc R) x8 = acc from by rw [show x8 = (k1 : Int) from HK1.out.1]; exact rowAt_rd k1 acc R] at hc8_
      obtain ⟨v2, hv2⟩ : ∃ v2, R.getD (j - 1) 0 = v2 := ⟨_, rfl⟩
      have hvb := HRB.out (j - 1)
      rw [hv2] at hvb
      obtain ⟨hc9_, hf9_⟩ := Kd.R_celln 0 HO.out x9 hx90 (by omega)
      rw [show rdOf 0 (rowAt k1 acc R) x9 = v2 from by rw [← hv2, show x9 = (k1 : Int) + (j : Int) from HJ.1]; exact rowAt_rd2 k1 j acc R HJ.2.1] at hc9_
      have HP := Aside0.mk (Kd.R_putg HO.out x8 (acc + v2))
      rw [e8, rowAt_set, ← e8] at HP
      have HCE := HC.out
      rw [canK, hsg, hnd, hv2] at HCE
      have hlj : (j = (l0.drop k1).length ↔ x9 = (l0.length : Int)) := by rw [List.length_drop]; have := HK1.out; omega
      have HLS : Aside0 ((l0.drop k1).length = l0.length - k1) := ⟨List.length_drop⟩
      have HJA := Aside0.mk HJ
      clear HJ e9 e8 hst hsg hA2 hC2 hi0 hsz0 hnd hv2 HX HC hf9_
      by_cases c1 : nd0 ≤ wide
      ·rw [if_pos c1] at HCE
       have hd1 : decide (nd0 ≤ wide) = true := decide_eq_true c1
       rw [if_pos (Or.inr (by omega))] at HCE
       have HCA := Aside0.mk HCE
       clear HCE hlj
       go_wp2_with (first | (go_at_call 124; (with_reducible refine (needs_go _ _ _ sg nd0 _ ?side1 HCS.out HWS.out HND.out).mono ?_); (case side1 => exact cr_ HRS.out); rintro e w' ⟨rfl, ⟨nd, rfl⟩⟩))
       go_region
       go_wp2
       go_roundg f
       case measure => omega
       case rel => exact ⟨x9 + 1, j + 1, acc + v2, rfl, ⟨by have := HJA.out; omega⟩, ⟨HCA.out⟩, ⟨put_at _ HO.out _ HK1.out.1 _⟩, ⟨Kd.C_below HRW.out bg_⟩, ⟨bg_⟩⟩
      ·rw [if_neg c1] at HCE
       have HCA := Aside0.mk HCE
       have hd1 : decide (nd0 ≤ wide) = false := decide_eq_false c1
       have HRo : Aside0 (rowAt k1 acc R = List.replicate k1 0 ++ canL wide wide (l0.drop k1)) := ⟨by rw [HTR.out, ← HCA.out]; rfl⟩
       rw [HRo.out] at HO
       clear HCE hlj HRo
       go_wp2_with (first | (go_at_call 124; (with_reducible refine (needs_go _ _ _ sg nd0 _ ?side1 HCS.out HWS.out HND.out).mono ?_); (case side1 => exact cr_ HRS.out); rintro e w' ⟨rfl, ⟨nd, rfl⟩⟩))
       go_roundg k1
       case measure => omega
       case rel => exact ⟨x8 - 1, rfl, ⟨by have := HK1.out; omega⟩, ⟨rr_ HO.out⟩, ⟨by exact cr_ HR0.out⟩, ⟨bw_⟩⟩
 ·have hM : breaksM l0 wide = 0 := if_neg hg
  have HG := Aside0.mk (Bool.eq_false_iff.mpr hg)
  rw [hM, HG.out]
  have HR0 := Aside0.mk hr0
  have HC0 := Aside0.mk hc0
  have HB := Aside0.mk (Below.refl w.heap.size w)
  clear hr0 hc0 hM hg hn
  go_enter Tryd.func44, Tryd.ntmps44
  go_wp2_with (first | (go_at_call 117; (with_reducible refine (isSetting_go _ _ _ l0 wide false _ ?side1 HC0.out HN.out HG.out).mono ?_); (case side1 => exact cr_ HR0.out); rintro e w' ⟨rfl, ⟨nd, rfl⟩⟩))
  go_ret2
  exact ⟨rfl, bw_⟩
set_option maxHeartbeats 8000000 in
set_option maxRecDepth 100000 in
theorem specBreaks_go (A0 : Option Addr) (n c0 : Nat) (l0 : List Int) (wide : Int) (w : World) (hr0 : Kd.C (Kd.int .i64) w A0 n l0) (hc0 : n ≤ c0) (hn : n < 1073741824) :
  Calls Tryd.prog 45 #[.slice A0 n c0, .int .i64 wide] w fun e w' => e = .returned (.tuple #[.int .i64 (breaksM l0 wide), .bool (settingB l0 wide)]) ∧ Below w.heap.size w w' := by
 obtain rfl : l0.length = n := hr0.1
 have HR0 := Aside0.mk hr0
 have HC0 := Aside0.mk hc0
 have HN := Aside0.mk hn
 have HB := Aside0.mk (Below.refl w.heap.size w)
 clear hr0 hc0 hn
 by_cases hg : settingB l0 wide = true
 ·have HW := Aside0.mk (settingB_true hg).1
  have HWW := Aside0.mk (settingB_true hg).2.1
  have HG := Aside0.mk hg
  have hM : breaksM l0 wide = canM l0 wide wide := if_pos hg
  rw [hM, hg]
  clear hM hg
  go_enter Tryd.func45, Tryd.ntmps45
  go_wp2_with (first | (go_at_call 119; (with_reducible refine (lnFits_go _ _ _ l0 wide true _ ?side1 HC0.out HN.out HG.out).mono ?_); (case side1 => exact cr_ HR0.out); rintro e w' ⟨rfl, ⟨nd, rfl⟩⟩) | ((with_reducible refine gate_callee (f := 127) rfl ?_); refine goesL_ (some 13) rfl rfl Tryd.func127 (by kernel_rfl) rfl #[.slice A0 l0.length c0, .int .i64 wide, .int .i64 wide] rfl (by (try simp only [List.map_toArray, List.map_cons, List.map_nil]); first | done | rfl) ?_; (with_reducible refine (lnCan_go _ _ _ l0 wide wide _ ?side2 HC0.out HW.out HWW.out).mono ?_); (case side2 => exact cr_ HR0.out); rintro e w12 ⟨rfl, hb⟩; refine ⟨_, rfl, ?_⟩; have HBq := Aside0.mk (below_step bw_ hb); clear HB; have HB := HBq; clear HBq hb))
  go_ret2
  exact ⟨rfl, bw_⟩
 ·have HG := Aside0.mk (Bool.eq_false_iff.mpr hg)
  have hM : breaksM l0 wide = 0 := if_neg hg
  rw [hM, HG.out]
  clear hM hg
  go_enter Tryd.func45, Tryd.ntmps45
  go_wp2_with (first | (go_at_call 119; (with_reducible refine (lnFits_go _ _ _ l0 wide false _ ?side1 HC0.out HN.out HG.out).mono ?_); (case side1 => exact cr_ HR0.out); rintro e w' ⟨rfl, ⟨nd, rfl⟩⟩))
  go_ret2
  exact ⟨rfl, bw_⟩
end Go.Proofs.YtpedlkhfeoeogaaDoor.Own
