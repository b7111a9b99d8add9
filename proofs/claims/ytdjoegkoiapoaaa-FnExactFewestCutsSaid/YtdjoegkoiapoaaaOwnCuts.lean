import Derived.Test.YtdjoegkoiapoaaaOwnPlace
import Derived.RegionTactic
import Derived.ChangeAlike
import Derived.StillTailTactics
namespace Go.Proofs.Ytdjoegkoiapoaaa.Own
open Go.RowKit Go.Proofs.YtdjoegkoiapoaaaW.PrintWords Go.Proofs.YtdjoegkoiapoaaaW.PrintLast Go.Proofs.YtdjoegkoiapoaaaW.PrintMore
attribute [local go_sem] max2_int min2_int max_two min_two max_three min_three max_four min_four
set_option linter.unusedVariables false
set_option linter.unusedSimpArgs false
/-- The longest row that a leaf can follow. -/
def accK (l L : List Int) (leaf : Int) : Nat → Nat → Int → Int
  | 0, _, acc => acc
  | f + 1, k, acc => accK l L leaf f (k + 1) (if 0 < l.getD k 0 ∧ l.getD k 0 < leaf then (if acc < L.getD k 0 then L.getD k 0 else acc) else acc)
def cutL (l : List Int) : Nat → List Int
  | 0 => []
  | i + 1 => cutL l i ++ [if l.getD i 0 < 0 then 0 else accK l (cutL l i) (l.getD i 0) i 0 0 + 1]
def mostL (l : List Int) : Nat → Int
  | 0 => 0
  | i + 1 => if l.getD i 0 < 0 then mostL l i else if mostL l i < accK l (cutL l i) (l.getD i 0) i 0 0 + 1 then accK l (cutL l i) (l.getD i 0) i 0 0 + 1 else mostL l i
theorem cutL_length (l : List Int) : ∀ i, (cutL l i).length = i
  | 0 => rfl
  | i + 1 => by simp [cutL, cutL_length l i]
theorem accK_bd (l L : List Int) (leaf B : Int) (hL : ∀ k, 0 ≤ L.getD k 0 ∧ L.getD k 0 ≤ B) : ∀ (f k : Nat) (acc : Int), 0 ≤ acc → acc ≤ B → 0 ≤ accK l L leaf f k acc ∧ accK l L leaf f k acc ≤ B
  | 0, _, acc, h1, h2 => ⟨h1, h2⟩
  | f + 1, k, acc, h1, h2 => by
    have h3 := hL k
    have h4 : 0 ≤ (if 0 < l.getD k 0 ∧ l.getD k 0 < leaf then (if acc < L.getD k 0 then L.getD k 0 else acc) else acc) ∧ (if 0 < l.getD k 0 ∧ l.getD k 0 < leaf then (if acc < L.getD k 0 then L.getD k 0 else acc) else acc) ≤ B := by
      split
      · split <;> omega
      · omega
    rw [accK]
    exact accK_bd l L leaf B hL f (k + 1) _ h4.1 h4.2
theorem cutL_bd (l : List Int) : ∀ i k : Nat, 0 ≤ (cutL l i).getD k 0 ∧ (cutL l i).getD k 0 ≤ i
  | 0, k => by simp [cutL]
  | i + 1, k => by
    have ih := cutL_bd l i
    have ha := accK_bd l (cutL l i) (l.getD i 0) i ih i 0 0 (by omega) (by omega)
    have hl := cutL_length l i
    rw [cutL, List.getD_eq_getElem?_getD]
    rcases Nat.lt_trichotomy k i with h | h | h
    · rw [List.getElem?_append_left (by omega), ← List.getD_eq_getElem?_getD]
      have := ih k; omega
    · subst h
      rw [List.getElem?_append_right (by omega), hl, Nat.sub_self]
      simp only [List.getElem?_cons_zero, Option.getD_some]
      split <;> omega
    · rw [List.getElem?_eq_none (by simp; omega)]; simp; omega
theorem mostL_bd (l : List Int) : ∀ i : Nat, 0 ≤ mostL l i ∧ mostL l i ≤ i
  | 0 => by simp [mostL]
  | i + 1 => by
    have ih := mostL_bd l i
    have ha := accK_bd l (cutL l i) (l.getD i 0) i (cutL_bd l i) i 0 0 (by omega) (by omega)
    rw [mostL]
    split
    · omega
    · split <;> omega
def cutsM (l : List Int) : Int := if goodB l = true then (l.length : Int) - mostL l l.length else 0
/-! a row: what is known, the place in hand, zeros -/
def midAt (L : List Int) (v : Int) (m : Nat) : List Int := L ++ v :: List.replicate m 0
theorem midAt_length (L : List Int) (v : Int) (m : Nat) : (midAt L v m).length = L.length + 1 + m := by simp [midAt]; omega
theorem midAt_rd (L : List Int) (v : Int) (m : Nat) (i : Int) (hi : i = (L.length : Int)) : rd (midAt L v m) i = v := by
  unfold midAt rd
  rw [show i.toNat = L.length from by omega, List.getD_eq_getElem?_getD, List.getElem?_append_right (Nat.le_refl _)]; simp
theorem midAt_rd2 (L : List Int) (v : Int) (m : Nat) (k : Int) (h0 : 0 ≤ k) (hk : k < (L.length : Int)) : rd (midAt L v m) k = L.getD k.toNat 0 := by
  unfold midAt rd
  rw [List.getD_eq_getElem?_getD, List.getD_eq_getElem?_getD, List.getElem?_append_left (by omega)]
theorem midAt_set (L : List Int) (v v2 : Int) (m : Nat) (i : Int) (hi : i = (L.length : Int)) : (midAt L v m).set i.toNat v2 = midAt L v2 m := by
  unfold midAt
  rw [show i.toNat = L.length from by omega, List.set_append_right _ _ (Nat.le_refl _)]; simp
theorem midAt_zero (L : List Int) (m : Nat) : midAt L 0 m = L ++ List.replicate (m + 1) 0 := by
  unfold midAt; rw [List.replicate_succ]
theorem midAt_next (L : List Int) (v : Int) (m : Nat) : midAt L v m = (L ++ [v]) ++ List.replicate m 0 := by simp [midAt]
theorem put_mid0 {W : World} {e base : Nat} {ok : Nat → Prop} {g n co m : Nat} {acc : Int} {L : List Int} (h : Kd.R (Kd.int .i64) e W base ok (.slice (some ⟨g, 0, none⟩) n co) (midAt L acc m)) (x : Int) (h8 : x = (L.length : Int)) (v : Int) :
    Kd.R (Kd.int .i64) e (W.setCell ⟨g, x.toNat, none⟩ (.int .i64 v)) base ok (.slice (some ⟨g, 0, none⟩) n co) (midAt L v m) := by
  have h2 := (Kd.R_putg h x v).1
  rw [midAt_set L acc v m x h8] at h2
  exact h2
theorem put_mid {W : World} {e base : Nat} {ok : Nat → Prop} {g n co m : Nat} {acc : Int} {L : List Int} (j : Nat) (h : Kd.R (Kd.int .i64) e W base ok (.slice (some ⟨g, 0, none⟩) n co) (midAt L acc m)) (x : Int) (h8 : x = (L.length : Int)) (v : Int) :
    Kd.R (Kd.int .i64) e ((W.drewN j).setCell ⟨g, x.toNat, none⟩ (.int .i64 v)) base ok (.slice (some ⟨g, 0, none⟩) n co) (midAt L v m) := put_mid0 (Kd.R_drewN h j) x h8 v
set_option maxHeartbeats 8000000 in
set_option maxRecDepth 100000 in
theorem l1MostS_go (a b r : Int) (w : World) (h : (if a < b then b else a) = r) :
    Calls Try.prog 51 #[.int .i64 a, .int .i64 b] w fun e w' => e = .returned (.int .i64 r) ∧ w' = w := by
  by_cases c : a < b
  · rw [if_pos c] at h
    subst h
    have hd : decide (b < a) = false := decide_eq_false (by omega)
    go_enter Try.func51, Try.ntmps51
    go_wp2
    go_ret
    exact ⟨rfl, rfl⟩
  · rw [if_neg c] at h
    subst h
    by_cases d : b < a
    · go_enter Try.func51, Try.ntmps51
      go_wp2
      go_ret
      exact ⟨rfl, rfl⟩
    · have e : a = b := by omega
      have E := Aside0.mk e
      clear e c
      go_enter Try.func51, Try.ntmps51
      go_wp2
      go_ret
      exact ⟨ret_i E.out.symm, rfl⟩
set_option maxHeartbeats 8000000 in
set_option maxRecDepth 100000 in
theorem specCuts_go (A0 : Option Addr) (n c0 : Nat) (l0 : List Int) (w : World) (hr0 : Kd.C (Kd.int .i64) w A0 n l0) (hc0 : n ≤ c0) (hn : n < 1073741824) :
    Calls Try.prog 30 #[.slice A0 n c0] w fun e w' => e = .returned (.tuple #[.int .i64 (cutsM l0), .bool (goodB l0)]) ∧ Below w.heap.size w w' := by
  obtain rfl : l0.length = n := hr0.1
  have HR0 := Aside0.mk hr0
  have HRW := Aside0.mk hr0
  have HC0 := Aside0.mk hc0
  have HN := Aside0.mk hn
  have HB := Aside0.mk (Below.refl w.heap.size w)
  clear hr0 hc0 hn
  by_cases hg : goodB l0 = true
  · have HG := Aside0.mk hg
    have HP : Aside0 (goodP l0) := ⟨of_decide_eq_true hg⟩
    have hM : cutsM l0 = (l0.length : Int) - mostL l0 l0.length := if_pos hg
    rw [hM]
    rw [hg]
    have hl1 := HP.out.1
    have hl8 := HP.out.2.1
    have hc00 := HC0.out
    have HMB := Aside0.mk (mostL_bd l0)
    obtain ⟨M, hMM⟩ : ∃ M, mostL l0 l0.length = M := ⟨_, rfl⟩
    rw [hMM]
    have HMM := Aside0.mk hMM
    clear hM hg hMM
    go_enter Try.func30, Try.ntmps30
    go_wp2_with (first | (go_at_call 38; (with_reducible refine (biGood_go _ _ _ l0 true _ ?side1 HC0.out ?side2 HG.out).mono ?_); (case side1 => repeat (first | exact HR0.out | (with_reducible refine Kd.C_alloc ?_ _) | (with_reducible refine Kd.C_drewN ?_ _) | (with_reducible refine Kd.C_drew ?_))); (case side2 => have := HN.out; omega); rintro e w' ⟨rfl, ⟨nd, rfl⟩⟩) | ((with_reducible refine gate_dst (N := 14) rfl ?_); refine Kd.R_make (Kd.int .i64) _ 3 rfl (N := 14) rfl 25 _ _ rfl (l0.length : Int) rfl rfl Try.underlying25 (.int .i64 0) 8 infoI rfl (by decide) (by omega) 0 (ok := fun _ => True) (okp := fun _ => True) rfl (fun _ hk => hk) trivial (by omega) (by omega) (Below.refl _ _) (Nat.le_refl _) ?_; intro v14 w10 ho hb hg_ hnew_; clear hg_ hnew_; rw [show ((l0.length : Int)).toNat = l0.length from (by omega)] at ho; have n0_ := Aside0.mk (Kd.R_lower ho (below_size (by repeat (first | (with_reducible first | exact HB.out | apply below_alloc | apply pw_below_drewN | apply below_drew1) | exact HB.out)))); have n1_ := Aside0.mk (below_step (by repeat (first | (with_reducible first | exact HB.out | apply below_alloc | apply pw_below_drewN | apply below_drew1) | exact HB.out)) hb); clear HB; have HO := n0_; have HB := n1_; clear n0_ n1_ hb ho; obtain ⟨g, co, eo, gb, gl, cl, HG_⟩ := Kd.R_form HO.out (by rw [List.length_replicate]; omega); rw [List.length_replicate] at eo; subst eo; have GB := Aside0.mk gb; clear gb gl HG_ cl))
    go_loopg [5, 17] (l0.length) (fun kq v5 vx w' => ∃ (x m : Int) (i : Nat), vx = .int .i64 x ∧ v5 = .int .i64 m ∧ Aside0 (x = (i : Int) ∧ i + kq = l0.length ∧ m = mostL l0 i) ∧ Aside0 (Kd.R (Kd.int .i64) 3 w' w.heap.size (fun _ => True) (.slice (some ⟨g, 0, none⟩) l0.length co) (cutL l0 i ++ List.replicate kq 0)) ∧ Aside0 (Kd.C (Kd.int .i64) w' A0 l0.length l0) ∧ Aside0 (Below w.heap.size w w'))
    case atStart => exact ⟨0, 0, 0, rfl, rfl, ⟨rfl, by omega, rfl⟩, ⟨by rw [cutL, List.nil_append]; ((with_reducible repeat (first | apply Kd.R_alloc | apply Kd.R_drewN | apply Kd.R_drew)); exact HO.out)⟩, ⟨Kd.C_below HRW.out (by repeat (first | (with_reducible first | exact HB.out | apply below_alloc | apply pw_below_drewN | apply below_drew1) | exact HB.out))⟩, ⟨(by repeat (first | (with_reducible first | exact HB.out | apply below_alloc | apply pw_below_drewN | apply below_drew1) | exact HB.out))⟩⟩
    case round =>
      clear HO HR0 HB
      obtain ⟨x, m, i, rfl, rfl, HX, HO, HR0, HB⟩ := hrel
      have hx0 : 0 ≤ x := by have := HX.out; omega
      have hmb := HMB.out i
      have hm0 : 0 ≤ m := by have := HX.out; omega
      have hm8 : m ≤ 8 := by have := HX.out; omega
      cases gk with
      | zero =>
        have hx : (l0.length : Int) ≤ x := by have := HX.out; omega
        have HE : Aside0 (m = M) := ⟨by have h := HX.out; rw [h.2.2, show i = l0.length from by omega]; exact HMM.out⟩
        clear hmb
        go_wp2
        go_ret2
        exact ⟨ret_ib (by rw [HE.out]) rfl, (by repeat (first | (with_reducible first | exact HB.out | apply below_alloc | apply pw_below_drewN | apply below_drew1) | exact HB.out))⟩
      | succ k1 =>
        have hx : x < (l0.length : Int) := by have := HX.out; omega
        have hx8 : x ≤ 8 := by omega
        have hxc : x ≤ (c0 : Int) := by omega
        obtain ⟨ad, e0, hc⟩ := Kd.at_int HR0.out x hx0 hx
        subst e0
        obtain ⟨y, hyy⟩ : ∃ y, rd l0 x = y := ⟨_, rfl⟩
        rw [hyy] at hc
        have hyg : l0.getD i 0 = y := by rw [← hyy]; unfold rd; rw [show x.toNat = i from by have := HX.out; omega]
        have hym : y ∈ l0 := by
          rw [← hyg, List.getD_eq_getElem?_getD, List.getElem?_eq_getElem (show i < l0.length from by have := HX.out; omega)]
          exact List.getElem_mem _
        have hyb := HP.out.2.2.1 y hym
        obtain ⟨L, hL⟩ : ∃ L, cutL l0 i = L := ⟨_, rfl⟩
        have HLL : Aside0 (L.length = i) := ⟨by rw [← hL]; exact cutL_length l0 i⟩
        have HLB : Aside0 (∀ k, 0 ≤ L.getD k 0 ∧ L.getD k 0 ≤ i) := ⟨by rw [← hL]; exact cutL_bd l0 i⟩
        have hyb1 := hyb.1
        have hyb2 := hyb.2.1
        have hyb3 := hyb.2.2
        have HYG := Aside0.mk hyg
        have HL := Aside0.mk hL
        rw [hL] at HO
        clear hyy hyg hym hyb hL hmb
        by_cases c0 : y < 0
        · have HCN : Aside0 (L ++ List.replicate (k1 + 1) 0 = cutL l0 (i + 1) ++ List.replicate k1 0) := ⟨by rw [cutL, HYG.out, if_pos c0, HL.out, List.replicate_succ]; simp⟩
          have HMN : Aside0 (m = mostL l0 (i + 1)) := ⟨by rw [mostL, HYG.out, if_pos c0]; exact HX.out.2.2⟩
          rw [HCN.out] at HO
          clear HCN
          go_wp2
          go_roundg k1
          case measure => omega
          case rel => exact ⟨x + 1, m, i + 1, rfl, rfl, ⟨by have := HX.out; omega, by have := HX.out; omega, HMN.out⟩, ⟨by ((with_reducible repeat (first | apply Kd.R_alloc | apply Kd.R_drewN | apply Kd.R_drew)); exact HO.out)⟩, ⟨by repeat (first | exact HR0.out | (with_reducible refine Kd.C_alloc ?_ _) | (with_reducible refine Kd.C_drewN ?_ _) | (with_reducible refine Kd.C_drew ?_))⟩, ⟨(by repeat (first | (with_reducible first | exact HB.out | apply below_alloc | apply pw_below_drewN | apply below_drew1) | exact HB.out))⟩⟩
        · have hy0 : 0 < y := by omega
          have hd0 : decide (y < 0) = false := decide_eq_false c0
          rw [← midAt_zero] at HO
          obtain ⟨T, hT⟩ : ∃ T, accK l0 L y i 0 0 = T := ⟨_, rfl⟩
          have hTb := accK_bd l0 L y i HLB.out i 0 0 (by omega) (by omega)
          rw [hT] at hTb
          have hT8 : 0 ≤ T ∧ T ≤ 8 := by have := HX.out; omega
          have HT := Aside0.mk hT
          obtain ⟨hcx_, hfx_⟩ := Kd.R_celln 0 HO.out x hx0 hx
          rw [show rdOf 0 (midAt L 0 k1) x = 0 from midAt_rd L 0 k1 x (by have := HX.out; have := HLL.out; omega)] at hcx_
          clear hT hTb c0
          go_wp2
          clear hcx_ hfx_
          go_loopg [8] i (fun f vz w' => ∃ (z acc : Int) (k : Nat), vz = .int .i64 z ∧ Aside0 (z = (k : Int) ∧ k + f = i ∧ 0 ≤ acc ∧ acc ≤ 8) ∧ Aside0 (accK l0 L y f k acc = T) ∧ Aside0 (Kd.R (Kd.int .i64) 3 w' w.heap.size (fun _ => True) (.slice (some ⟨g, 0, none⟩) l0.length co) (midAt L (acc + 1) k1)) ∧ Aside0 (Kd.C (Kd.int .i64) w' (some ad) l0.length l0) ∧ Aside0 (Below w.heap.size w w'))
          case atStart => exact ⟨0, 0, 0, rfl, ⟨by omega, by omega, by omega, by omega⟩, ⟨HT.out⟩, ⟨put_mid0 HO.out _ (by have := HX.out; have := HLL.out; omega) _⟩, ⟨Kd.C_below HRW.out (by repeat (first | (with_reducible first | exact HB.out | apply below_alloc | apply pw_below_drewN | apply below_drew1 | refine below_set ?_ GB.out) | exact HB.out))⟩, ⟨(by repeat (first | (with_reducible first | exact HB.out | apply below_alloc | apply pw_below_drewN | apply below_drew1 | refine below_set ?_ GB.out) | exact HB.out))⟩⟩
          case round =>
            clear HO HR0 HB
            obtain ⟨z, acc, k, rfl, HZ, HK, HO, HR0, HB⟩ := hrel
            have hz0 : 0 ≤ z := by have := HZ.out; omega
            have hz8 : z ≤ 8 := by have := HZ.out; have := HX.out; omega
            have ha0 := HZ.out.2.2.1
            have ha8 := HZ.out.2.2.2
            obtain ⟨hcx_, hfx_⟩ := Kd.R_celln 0 HO.out x hx0 hx
            rw [show rdOf 0 (midAt L (acc + 1) k1) x = acc + 1 from midAt_rd L _ k1 x (by have := HX.out; have := HLL.out; omega)] at hcx_
            cases gk with
            | zero =>
              have hz : x ≤ z := by have := HZ.out; have := HX.out; omega
              have HTA : Aside0 (acc = T) := ⟨HK.out⟩
              have HMX : Aside0 (∃ m2, (if m < acc + 1 then acc + 1 else m) = m2) := ⟨⟨_, rfl⟩⟩
              obtain ⟨m2, hm2⟩ := HMX.out
              have HM2 := Aside0.mk hm2
              have HMN : Aside0 (m2 = mostL l0 (i + 1)) := ⟨by rw [mostL, HYG.out, if_neg (by omega), HL.out, HT.out, ← HTA.out, ← HX.out.2.2]; exact hm2.symm⟩
              have HCN : Aside0 (midAt L (acc + 1) k1 = cutL l0 (i + 1) ++ List.replicate k1 0) := ⟨by rw [cutL, HYG.out, if_neg (by omega), HL.out, HT.out, ← HTA.out, midAt_next]⟩
              clear HMX hm2
              rw [HCN.out] at HO
              clear HCN
              go_wp2_with (first | (go_at_call 51; (with_reducible refine (l1Most_go m (acc + 1) m2 _ HM2.out).mono ?_); rintro e w' ⟨rfl, ⟨nd, rfl⟩⟩))
              go_roundg k1
              case measure => omega
              case rel => exact ⟨x + 1, m2, i + 1, rfl, rfl, ⟨by have := HX.out; omega, by have := HX.out; omega, HMN.out⟩, ⟨by ((with_reducible repeat (first | apply Kd.R_alloc | apply Kd.R_drewN | apply Kd.R_drew)); exact HO.out)⟩, ⟨by repeat (first | exact HR0.out | (with_reducible refine Kd.C_alloc ?_ _) | (with_reducible refine Kd.C_drewN ?_ _) | (with_reducible refine Kd.C_drew ?_))⟩, ⟨(by repeat (first | (with_reducible first | exact HB.out | apply below_alloc | apply pw_below_drewN | apply below_drew1) | exact HB.out))⟩⟩
            | succ f =>
              have hz : z < x := by have := HZ.out; have := HX.out; omega
              have hzl : z < (l0.length : Int) := by omega
              obtain ⟨ad2, e2, hcz⟩ := Kd.at_int HR0.out z hz0 hzl
              cases e2
              obtain ⟨b, hbb⟩ : ∃ b, rd l0 z = b := ⟨_, rfl⟩
              rw [hbb] at hcz
              have hbg : l0.getD k 0 = b := by rw [← hbb]; unfold rd; rw [show z.toNat = k from by have := HZ.out; omega]
              obtain ⟨v2, hv2⟩ : ∃ v2, L.getD k 0 = v2 := ⟨_, rfl⟩
              have hvb := HLB.out k
              rw [hv2] at hvb
              have hv8 : v2 ≤ 8 := by have := HX.out; omega
              have hv0 := hvb.1
              obtain ⟨hcv_, hfv_⟩ := Kd.R_celln 0 HO.out z hz0 hzl
              rw [show rdOf 0 (midAt L (acc + 1) k1) z = v2 from (midAt_rd2 L _ k1 z hz0 (by have := HX.out; have := HLL.out; omega)).trans (by rw [show z.toNat = k from by have := HZ.out; omega]; exact hv2)] at hcv_
              have hk := HK.out
              rw [accK, hbg, hv2] at hk
              clear hbb hbg hv2 hvb hfv_ HK
              by_cases d1 : 0 < b
              · have hd1 : decide (0 < b) = true := decide_eq_true d1
                by_cases d2 : b < y
                · have hd2 : decide (b < y) = true := decide_eq_true d2
                  rw [if_pos ⟨d1, d2⟩] at hk
                  obtain ⟨a2, ha2⟩ : ∃ a2, (if acc < v2 then v2 else acc) = a2 := ⟨_, rfl⟩
                  rw [ha2] at hk
                  have ha2b : 0 ≤ a2 ∧ a2 ≤ 8 := by split at ha2 <;> omega
                  have HK2 := Aside0.mk hk
                  have HA2 := Aside0.mk ha2
                  have HSM : Aside0 ((if acc + 1 < v2 + 1 then v2 + 1 else acc + 1) = a2 + 1) := ⟨by split at ha2 <;> split <;> omega⟩
                  clear hk ha2
                  go_wp2
                  have hwv : IntKind.i64.wrap (v2 + 1) = v2 + 1 := by rw [i64_w]; exact w64 (by omega) (by omega)
                  go_still_tail 12, (by kernel_rfl)
                  still_call (l1MostS_go (acc + 1) (v2 + 1) (a2 + 1) _ HSM.out)
                  repeat still_step
                  refine wpStill_nil ?_
                  clear hwv
                  change wpList _ _ _ _ _ (World.drew _)
                  go_wp2
                  go_roundg f
                  case measure => omega
                  case rel => exact ⟨z + 1, a2, k + 1, rfl, ⟨by have := HZ.out; omega, by have := HZ.out; omega, ha2b.1, ha2b.2⟩, ⟨HK2.out⟩, ⟨by first | exact Kd.R_drew (put_mid0 HO.out _ (by have := HX.out; have := HLL.out; omega) _) | exact put_mid _ HO.out _ (by have := HX.out; have := HLL.out; omega) _ | exact put_mid0 HO.out _ (by have := HX.out; have := HLL.out; omega) _⟩, ⟨Kd.C_below HRW.out (by repeat (first | (with_reducible first | exact HB.out | apply below_alloc | apply pw_below_drewN | apply below_drew1 | refine below_set ?_ GB.out) | exact HB.out))⟩, ⟨(by repeat (first | (with_reducible first | exact HB.out | apply below_alloc | apply pw_below_drewN | apply below_drew1 | refine below_set ?_ GB.out) | exact HB.out))⟩⟩
                · have hd2 : decide (b < y) = false := decide_eq_false d2
                  rw [if_neg (fun h => d2 h.2)] at hk
                  have HK2 := Aside0.mk hk
                  clear hk
                  go_wp2
                  go_roundg f
                  case measure => omega
                  case rel => exact ⟨z + 1, acc, k + 1, rfl, ⟨by have := HZ.out; omega, by have := HZ.out; omega, ha0, ha8⟩, ⟨HK2.out⟩, ⟨by ((with_reducible repeat (first | apply Kd.R_alloc | apply Kd.R_drewN | apply Kd.R_drew)); exact HO.out)⟩, ⟨by repeat (first | exact HR0.out | (with_reducible refine Kd.C_alloc ?_ _) | (with_reducible refine Kd.C_drewN ?_ _) | (with_reducible refine Kd.C_drew ?_))⟩, ⟨(by repeat (first | (with_reducible first | exact HB.out | apply below_alloc | apply pw_below_drewN | apply below_drew1) | exact HB.out))⟩⟩
              · have hd1 : decide (0 < b) = false := decide_eq_false d1
                rw [if_neg (fun h => d1 h.1)] at hk
                have HK2 := Aside0.mk hk
                clear hk
                go_wp2
                go_roundg f
                case measure => omega
                case rel => exact ⟨z + 1, acc, k + 1, rfl, ⟨by have := HZ.out; omega, by have := HZ.out; omega, ha0, ha8⟩, ⟨HK2.out⟩, ⟨by ((with_reducible repeat (first | apply Kd.R_alloc | apply Kd.R_drewN | apply Kd.R_drew)); exact HO.out)⟩, ⟨by repeat (first | exact HR0.out | (with_reducible refine Kd.C_alloc ?_ _) | (with_reducible refine Kd.C_drewN ?_ _) | (with_reducible refine Kd.C_drew ?_))⟩, ⟨(by repeat (first | (with_reducible first | exact HB.out | apply below_alloc | apply pw_below_drewN | apply below_drew1) | exact HB.out))⟩⟩
  · have HG := Aside0.mk (Bool.eq_false_iff.mpr hg)
    have hM : cutsM l0 = 0 := if_neg hg
    rw [hM, HG.out]
    clear hM hg
    go_enter Try.func30, Try.ntmps30
    go_wp2_with (first | (go_at_call 38; (with_reducible refine (biGood_go _ _ _ l0 false _ ?side1 HC0.out ?side2 HG.out).mono ?_); (case side1 => repeat (first | exact HR0.out | (with_reducible refine Kd.C_alloc ?_ _) | (with_reducible refine Kd.C_drewN ?_ _) | (with_reducible refine Kd.C_drew ?_))); (case side2 => have := HN.out; omega); rintro e w' ⟨rfl, ⟨nd, rfl⟩⟩))
    go_ret2
    exact ⟨rfl, (by repeat (first | (with_reducible first | exact HB.out | apply below_alloc | apply pw_below_drewN | apply below_drew1) | exact HB.out))⟩
set_option maxHeartbeats 8000000 in
set_option maxRecDepth 100000 in
theorem implCuts_go (A0 : Option Addr) (n c0 : Nat) (l0 : List Int) (w : World) (hr0 : Kd.C (Kd.int .i64) w A0 n l0) (hc0 : n ≤ c0) (hn : n < 1073741824) :
    Calls Try.prog 31 #[.slice A0 n c0] w fun e w' => e = .returned (.tuple #[.int .i64 (cutsM l0), .bool (goodB l0)]) ∧ Below w.heap.size w w' := by
  obtain rfl : l0.length = n := hr0.1
  have HR0 := Aside0.mk hr0
  have HRW := Aside0.mk hr0
  have HC0 := Aside0.mk hc0
  have HN := Aside0.mk hn
  have HB := Aside0.mk (Below.refl w.heap.size w)
  clear hr0 hc0 hn
  by_cases hg : goodB l0 = true
  · have HG := Aside0.mk hg
    have HP : Aside0 (goodP l0) := ⟨of_decide_eq_true hg⟩
    have hM : cutsM l0 = (l0.length : Int) - mostL l0 l0.length := if_pos hg
    rw [hM]
    rw [hg]
    have hl1 := HP.out.1
    have hl8 := HP.out.2.1
    have hc00 := HC0.out
    have HMB := Aside0.mk (mostL_bd l0)
    obtain ⟨M, hMM⟩ : ∃ M, mostL l0 l0.length = M := ⟨_, rfl⟩
    rw [hMM]
    have HMM := Aside0.mk hMM
    clear hM hg hMM
    go_enter Try.func31, Try.ntmps31
    go_wp2_with (first | (go_at_call 16; (with_reducible refine (implIsBinding_go _ _ _ l0 _ ?side1 HC0.out HN.out).mono ?_); (case side1 => repeat (first | exact HR0.out | (with_reducible refine Kd.C_alloc ?_ _) | (with_reducible refine Kd.C_drewN ?_ _) | (with_reducible refine Kd.C_drew ?_))); rintro e w1 ⟨rfl, hb⟩; rw [HG.out]; have HBq := Aside0.mk (below_step (by repeat (first | (with_reducible first | exact HB.out | apply below_alloc | apply pw_below_drewN | apply below_drew1) | exact HB.out)) hb); clear HB; have HB := HBq; clear HBq hb) | ((with_reducible refine gate_dst (N := 15) rfl ?_); refine Kd.R_make (Kd.int .i64) _ 3 rfl (N := 15) rfl 25 _ _ rfl (l0.length : Int) rfl rfl Try.underlying25 (.int .i64 0) 8 infoI rfl (by decide) (by omega) 0 (ok := fun _ => True) (okp := fun _ => True) rfl (fun _ hk => hk) trivial (by omega) (by omega) (Below.refl _ _) (Nat.le_refl _) ?_; intro v15 w10 ho hb hg_ hnew_; clear hg_ hnew_; rw [show ((l0.length : Int)).toNat = l0.length from (by omega)] at ho; have n0_ := Aside0.mk (Kd.R_lower ho (below_size (by repeat (first | (with_reducible first | exact HB.out | apply below_alloc | apply pw_below_drewN | apply below_drew1) | exact HB.out)))); have n1_ := Aside0.mk (below_step (by repeat (first | (with_reducible first | exact HB.out | apply below_alloc | apply pw_below_drewN | apply below_drew1) | exact HB.out)) hb); clear HB; have HO := n0_; have HB := n1_; clear n0_ n1_ hb ho; obtain ⟨g, co, eo, gb, gl, cl, HG_⟩ := Kd.R_form HO.out (by rw [List.length_replicate]; omega); rw [List.length_replicate] at eo; subst eo; have GB := Aside0.mk gb; clear gb gl HG_ cl))
    go_loopg [5, 18] (l0.length) (fun kq v5 vx w' => ∃ (x m : Int) (i : Nat), vx = .int .i64 x ∧ v5 = .int .i64 m ∧ Aside0 (x = (i : Int) ∧ i + kq = l0.length ∧ m = mostL l0 i) ∧ Aside0 (Kd.R (Kd.int .i64) 3 w' w.heap.size (fun _ => True) (.slice (some ⟨g, 0, none⟩) l0.length co) (cutL l0 i ++ List.replicate kq 0)) ∧ Aside0 (Kd.C (Kd.int .i64) w' A0 l0.length l0) ∧ Aside0 (Below w.heap.size w w'))
    case atStart => exact ⟨0, 0, 0, rfl, rfl, ⟨rfl, by omega, rfl⟩, ⟨by rw [cutL, List.nil_append]; ((with_reducible repeat (first | apply Kd.R_alloc | apply Kd.R_drewN | apply Kd.R_drew)); exact HO.out)⟩, ⟨Kd.C_below HRW.out (by repeat (first | (with_reducible first | exact HB.out | apply below_alloc | apply pw_below_drewN | apply below_drew1) | exact HB.out))⟩, ⟨(by repeat (first | (with_reducible first | exact HB.out | apply below_alloc | apply pw_below_drewN | apply below_drew1) | exact HB.out))⟩⟩
    case round =>
      clear HO HR0 HB
      obtain ⟨x, m, i, rfl, rfl, HX, HO, HR0, HB⟩ := hrel
      have hx0 : 0 ≤ x := by have := HX.out; omega
      have hmb := HMB.out i
      have hm0 : 0 ≤ m := by have := HX.out; omega
      have hm8 : m ≤ 8 := by have := HX.out; omega
      cases gk with
      | zero =>
        have hx : (l0.length : Int) ≤ x := by have := HX.out; omega
        have HE : Aside0 (m = M) := ⟨by have h := HX.out; rw [h.2.2, show i = l0.length from by omega]; exact HMM.out⟩
        clear hmb
        go_wp2
        go_ret2
        exact ⟨ret_ib (by rw [HE.out]) rfl, (by repeat (first | (with_reducible first | exact HB.out | apply below_alloc | apply pw_below_drewN | apply below_drew1) | exact HB.out))⟩
      | succ k1 =>
        have hx : x < (l0.length : Int) := by have := HX.out; omega
        have hx8 : x ≤ 8 := by omega
        have hxc : x ≤ (c0 : Int) := by omega
        obtain ⟨ad, e0, hc⟩ := Kd.at_int HR0.out x hx0 hx
        subst e0
        obtain ⟨y, hyy⟩ : ∃ y, rd l0 x = y := ⟨_, rfl⟩
        rw [hyy] at hc
        have hyg : l0.getD i 0 = y := by rw [← hyy]; unfold rd; rw [show x.toNat = i from by have := HX.out; omega]
        have hym : y ∈ l0 := by
          rw [← hyg, List.getD_eq_getElem?_getD, List.getElem?_eq_getElem (show i < l0.length from by have := HX.out; omega)]
          exact List.getElem_mem _
        have hyb := HP.out.2.2.1 y hym
        obtain ⟨L, hL⟩ : ∃ L, cutL l0 i = L := ⟨_, rfl⟩
        have HLL : Aside0 (L.length = i) := ⟨by rw [← hL]; exact cutL_length l0 i⟩
        have HLB : Aside0 (∀ k, 0 ≤ L.getD k 0 ∧ L.getD k 0 ≤ i) := ⟨by rw [← hL]; exact cutL_bd l0 i⟩
        have hyb1 := hyb.1
        have hyb2 := hyb.2.1
        have hyb3 := hyb.2.2
        have HYG := Aside0.mk hyg
        have HL := Aside0.mk hL
        rw [hL] at HO
        clear hyy hyg hym hyb hL hmb
        by_cases c0 : y < 0
        · have HCN : Aside0 (L ++ List.replicate (k1 + 1) 0 = cutL l0 (i + 1) ++ List.replicate k1 0) := ⟨by rw [cutL, HYG.out, if_pos c0, HL.out, List.replicate_succ]; simp⟩
          have HMN : Aside0 (m = mostL l0 (i + 1)) := ⟨by rw [mostL, HYG.out, if_pos c0]; exact HX.out.2.2⟩
          rw [HCN.out] at HO
          clear HCN
          go_wp2
          go_roundg k1
          case measure => omega
          case rel => exact ⟨x + 1, m, i + 1, rfl, rfl, ⟨by have := HX.out; omega, by have := HX.out; omega, HMN.out⟩, ⟨by ((with_reducible repeat (first | apply Kd.R_alloc | apply Kd.R_drewN | apply Kd.R_drew)); exact HO.out)⟩, ⟨by repeat (first | exact HR0.out | (with_reducible refine Kd.C_alloc ?_ _) | (with_reducible refine Kd.C_drewN ?_ _) | (with_reducible refine Kd.C_drew ?_))⟩, ⟨(by repeat (first | (with_reducible first | exact HB.out | apply below_alloc | apply pw_below_drewN | apply below_drew1) | exact HB.out))⟩⟩
        · have hy0 : 0 < y := by omega
          have hd0 : decide (y < 0) = false := decide_eq_false c0
          rw [← midAt_zero] at HO
          obtain ⟨T, hT⟩ : ∃ T, accK l0 L y i 0 0 = T := ⟨_, rfl⟩
          have hTb := accK_bd l0 L y i HLB.out i 0 0 (by omega) (by omega)
          rw [hT] at hTb
          have hT8 : 0 ≤ T ∧ T ≤ 8 := by have := HX.out; omega
          have HT := Aside0.mk hT
          obtain ⟨hcx_, hfx_⟩ := Kd.R_celln 0 HO.out x hx0 hx
          rw [show rdOf 0 (midAt L 0 k1) x = 0 from midAt_rd L 0 k1 x (by have := HX.out; have := HLL.out; omega)] at hcx_
          clear hT hTb c0
          go_wp2
          clear hcx_ hfx_
          go_loopg [29] i (fun f vz w' => ∃ (z acc : Int) (k : Nat), vz = .int .i64 z ∧ Aside0 (z = (k : Int) ∧ k + f = i ∧ 0 ≤ acc ∧ acc ≤ 8) ∧ Aside0 (accK l0 L y f k acc = T) ∧ Aside0 (Kd.R (Kd.int .i64) 3 w' w.heap.size (fun _ => True) (.slice (some ⟨g, 0, none⟩) l0.length co) (midAt L (acc) k1)) ∧ Aside0 (Kd.C (Kd.int .i64) w' (some ad) l0.length l0) ∧ Aside0 (Below w.heap.size w w'))
          case atStart => exact ⟨0, 0, 0, rfl, ⟨by omega, by omega, by omega, by omega⟩, ⟨HT.out⟩, ⟨by ((with_reducible repeat (first | apply Kd.R_alloc | apply Kd.R_drewN | apply Kd.R_drew)); exact HO.out)⟩, ⟨Kd.C_below HRW.out (by repeat (first | (with_reducible first | exact HB.out | apply below_alloc | apply pw_below_drewN | apply below_drew1 | refine below_set ?_ GB.out) | exact HB.out))⟩, ⟨(by repeat (first | (with_reducible first | exact HB.out | apply below_alloc | apply pw_below_drewN | apply below_drew1 | refine below_set ?_ GB.out) | exact HB.out))⟩⟩
          case round =>
            clear HO HR0 HB
            obtain ⟨z, acc, k, rfl, HZ, HK, HO, HR0, HB⟩ := hrel
            have hz0 : 0 ≤ z := by have := HZ.out; omega
            have hz8 : z ≤ 8 := by have := HZ.out; have := HX.out; omega
            have ha0 := HZ.out.2.2.1
            have ha8 := HZ.out.2.2.2
            obtain ⟨hcx_, hfx_⟩ := Kd.R_celln 0 HO.out x hx0 hx
            rw [show rdOf 0 (midAt L (acc) k1) x = acc from midAt_rd L _ k1 x (by have := HX.out; have := HLL.out; omega)] at hcx_
            cases gk with
            | zero =>
              have hz : x ≤ z := by have := HZ.out; have := HX.out; omega
              have HTA : Aside0 (acc = T) := ⟨HK.out⟩
              have HMX : Aside0 (∃ m2, (if m < acc + 1 then acc + 1 else m) = m2) := ⟨⟨_, rfl⟩⟩
              obtain ⟨m2, hm2⟩ := HMX.out
              have HM2 := Aside0.mk hm2
              have HMN : Aside0 (m2 = mostL l0 (i + 1)) := ⟨by rw [mostL, HYG.out, if_neg (by omega), HL.out, HT.out, ← HTA.out, ← HX.out.2.2]; exact hm2.symm⟩
              have HCN : Aside0 (midAt L (acc + 1) k1 = cutL l0 (i + 1) ++ List.replicate k1 0) := ⟨by rw [cutL, HYG.out, if_neg (by omega), HL.out, HT.out, ← HTA.out, midAt_next]⟩
              clear HMX hm2
              have HPM : Aside0 (∀ W : World, Kd.R (Kd.int .i64) 3 W w.heap.size (fun _ => True) (.slice (some ⟨g, 0, none⟩) l0.length co) (midAt L acc k1) → Kd.R (Kd.int .i64) 3 (W.setCell ⟨g, x.toNat, none⟩ (.int .i64 (acc + 1))) w.heap.size (fun _ => True) (.slice (some ⟨g, 0, none⟩) l0.length co) (cutL l0 (i + 1) ++ List.replicate k1 0)) := ⟨fun W hW => by rw [← HCN.out]; exact put_mid0 hW x (by have := HX.out; have := HLL.out; omega) _⟩
              clear HCN
              by_cases dm : m < acc + 1
              · have HM3 : Aside0 ((acc + 1) = mostL l0 (i + 1)) := ⟨by have h := HM2.out; rw [if_pos dm] at h; rw [h]; exact HMN.out⟩
                clear HM2 HMN
                go_wp2
                go_roundg k1
                case measure => omega
                case rel => exact ⟨x + 1, (acc + 1), i + 1, rfl, rfl, ⟨by have := HX.out; omega, by have := HX.out; omega, HM3.out⟩, ⟨HPM.out _ HO.out⟩, ⟨Kd.C_below HRW.out (by repeat (first | (with_reducible first | exact HB.out | apply below_alloc | apply pw_below_drewN | apply below_drew1 | refine below_set ?_ GB.out) | exact HB.out))⟩, ⟨(by repeat (first | (with_reducible first | exact HB.out | apply below_alloc | apply pw_below_drewN | apply below_drew1 | refine below_set ?_ GB.out) | exact HB.out))⟩⟩
              · have HM3 : Aside0 (m = mostL l0 (i + 1)) := ⟨by have h := HM2.out; rw [if_neg dm] at h; rw [h]; exact HMN.out⟩
                clear HM2 HMN
                go_wp2
                go_roundg k1
                case measure => omega
                case rel => exact ⟨x + 1, m, i + 1, rfl, rfl, ⟨by have := HX.out; omega, by have := HX.out; omega, HM3.out⟩, ⟨HPM.out _ HO.out⟩, ⟨Kd.C_below HRW.out (by repeat (first | (with_reducible first | exact HB.out | apply below_alloc | apply pw_below_drewN | apply below_drew1 | refine below_set ?_ GB.out) | exact HB.out))⟩, ⟨(by repeat (first | (with_reducible first | exact HB.out | apply below_alloc | apply pw_below_drewN | apply below_drew1 | refine below_set ?_ GB.out) | exact HB.out))⟩⟩
            | succ f =>
              have hz : z < x := by have := HZ.out; have := HX.out; omega
              have hzl : z < (l0.length : Int) := by omega
              obtain ⟨ad2, e2, hcz⟩ := Kd.at_int HR0.out z hz0 hzl
              cases e2
              obtain ⟨b, hbb⟩ : ∃ b, rd l0 z = b := ⟨_, rfl⟩
              rw [hbb] at hcz
              have hbg : l0.getD k 0 = b := by rw [← hbb]; unfold rd; rw [show z.toNat = k from by have := HZ.out; omega]
              obtain ⟨v2, hv2⟩ : ∃ v2, L.getD k 0 = v2 := ⟨_, rfl⟩
              have hvb := HLB.out k
              rw [hv2] at hvb
              have hv8 : v2 ≤ 8 := by have := HX.out; omega
              have hv0 := hvb.1
              obtain ⟨hcv_, hfv_⟩ := Kd.R_celln 0 HO.out z hz0 hzl
              rw [show rdOf 0 (midAt L (acc) k1) z = v2 from (midAt_rd2 L _ k1 z hz0 (by have := HX.out; have := HLL.out; omega)).trans (by rw [show z.toNat = k from by have := HZ.out; omega]; exact hv2)] at hcv_
              have hk := HK.out
              rw [accK, hbg, hv2] at hk
              clear hbb hbg hv2 hvb hfv_ HK
              by_cases d1 : 0 < b
              · have hd1 : decide (0 < b) = true := decide_eq_true d1
                by_cases d2 : b < y
                · have hd2 : decide (b < y) = true := decide_eq_true d2
                  rw [if_pos ⟨d1, d2⟩] at hk
                  obtain ⟨a2, ha2⟩ : ∃ a2, (if acc < v2 then v2 else acc) = a2 := ⟨_, rfl⟩
                  rw [ha2] at hk
                  have ha2b : 0 ≤ a2 ∧ a2 ≤ 8 := by split at ha2 <;> omega
                  have HK2 := Aside0.mk hk
                  have HA2 := Aside0.mk ha2
                  have HSM : Aside0 ((if acc + 1 < v2 + 1 then v2 + 1 else acc + 1) = a2 + 1) := ⟨by split at ha2 <;> split <;> omega⟩
                  clear hk ha2
                  by_cases da : acc < v2
                  · have EA : Aside0 (a2 = v2) := ⟨by have h := HA2.out; rw [if_pos da] at h; exact h.symm⟩
                    rw [EA.out] at HK2
                    go_wp2
                    go_region
                    go_wp2
                    go_roundg f
                    case measure => omega
                    case rel => exact ⟨z + 1, v2, k + 1, rfl, ⟨by have := HZ.out; omega, by have := HZ.out; omega, by omega, by omega⟩, ⟨HK2.out⟩, ⟨by first | exact Kd.R_drew (put_mid0 HO.out _ (by have := HX.out; have := HLL.out; omega) _) | exact put_mid _ HO.out _ (by have := HX.out; have := HLL.out; omega) _ | exact put_mid0 HO.out _ (by have := HX.out; have := HLL.out; omega) _⟩, ⟨Kd.C_below HRW.out (by repeat (first | (with_reducible first | exact HB.out | apply below_alloc | apply pw_below_drewN | apply below_drew1 | refine below_set ?_ GB.out) | exact HB.out))⟩, ⟨(by repeat (first | (with_reducible first | exact HB.out | apply below_alloc | apply pw_below_drewN | apply below_drew1 | refine below_set ?_ GB.out) | exact HB.out))⟩⟩
                  · have EA : Aside0 (a2 = acc) := ⟨by have h := HA2.out; rw [if_neg da] at h; exact h.symm⟩
                    rw [EA.out] at HK2
                    go_wp2
                    go_region
                    go_wp2
                    go_roundg f
                    case measure => omega
                    case rel => exact ⟨z + 1, acc, k + 1, rfl, ⟨by have := HZ.out; omega, by have := HZ.out; omega, by omega, by omega⟩, ⟨HK2.out⟩, ⟨by first | exact Kd.R_drew (put_mid0 HO.out _ (by have := HX.out; have := HLL.out; omega) _) | exact put_mid _ HO.out _ (by have := HX.out; have := HLL.out; omega) _ | exact put_mid0 HO.out _ (by have := HX.out; have := HLL.out; omega) _⟩, ⟨Kd.C_below HRW.out (by repeat (first | (with_reducible first | exact HB.out | apply below_alloc | apply pw_below_drewN | apply below_drew1 | refine below_set ?_ GB.out) | exact HB.out))⟩, ⟨(by repeat (first | (with_reducible first | exact HB.out | apply below_alloc | apply pw_below_drewN | apply below_drew1 | refine below_set ?_ GB.out) | exact HB.out))⟩⟩
                · have hd2 : decide (b < y) = false := decide_eq_false d2
                  rw [if_neg (fun h => d2 h.2)] at hk
                  have HK2 := Aside0.mk hk
                  clear hk
                  go_wp2
                  go_roundg f
                  case measure => omega
                  case rel => exact ⟨z + 1, acc, k + 1, rfl, ⟨by have := HZ.out; omega, by have := HZ.out; omega, ha0, ha8⟩, ⟨HK2.out⟩, ⟨by ((with_reducible repeat (first | apply Kd.R_alloc | apply Kd.R_drewN | apply Kd.R_drew)); exact HO.out)⟩, ⟨by repeat (first | exact HR0.out | (with_reducible refine Kd.C_alloc ?_ _) | (with_reducible refine Kd.C_drewN ?_ _) | (with_reducible refine Kd.C_drew ?_))⟩, ⟨(by repeat (first | (with_reducible first | exact HB.out | apply below_alloc | apply pw_below_drewN | apply below_drew1) | exact HB.out))⟩⟩
              · have hd1 : decide (0 < b) = false := decide_eq_false d1
                rw [if_neg (fun h => d1 h.1)] at hk
                have HK2 := Aside0.mk hk
                clear hk
                go_wp2
                go_roundg f
                case measure => omega
                case rel => exact ⟨z + 1, acc, k + 1, rfl, ⟨by have := HZ.out; omega, by have := HZ.out; omega, ha0, ha8⟩, ⟨HK2.out⟩, ⟨by ((with_reducible repeat (first | apply Kd.R_alloc | apply Kd.R_drewN | apply Kd.R_drew)); exact HO.out)⟩, ⟨by repeat (first | exact HR0.out | (with_reducible refine Kd.C_alloc ?_ _) | (with_reducible refine Kd.C_drewN ?_ _) | (with_reducible refine Kd.C_drew ?_))⟩, ⟨(by repeat (first | (with_reducible first | exact HB.out | apply below_alloc | apply pw_below_drewN | apply below_drew1) | exact HB.out))⟩⟩
  · have HG := Aside0.mk (Bool.eq_false_iff.mpr hg)
    have hM : cutsM l0 = 0 := if_neg hg
    rw [hM, HG.out]
    clear hM hg
    go_enter Try.func31, Try.ntmps31
    go_wp2_with (first | (go_at_call 16; (with_reducible refine (implIsBinding_go _ _ _ l0 _ ?side1 HC0.out HN.out).mono ?_); (case side1 => repeat (first | exact HR0.out | (with_reducible refine Kd.C_alloc ?_ _) | (with_reducible refine Kd.C_drewN ?_ _) | (with_reducible refine Kd.C_drew ?_))); rintro e w1 ⟨rfl, hb⟩; rw [HG.out]; have HBq := Aside0.mk (below_step (by repeat (first | (with_reducible first | exact HB.out | apply below_alloc | apply pw_below_drewN | apply below_drew1) | exact HB.out)) hb); clear HB; have HB := HBq; clear HBq hb))
    go_ret2
    exact ⟨rfl, (by repeat (first | (with_reducible first | exact HB.out | apply below_alloc | apply pw_below_drewN | apply below_drew1) | exact HB.out))⟩
end Go.Proofs.Ytdjoegkoiapoaaa.Own
