import Derived.Test.YtaodhgpkdchknaaOwnStretch
import Derived.RegionTactic
import Derived.ChangeAlike
namespace Go.Proofs.Ytaodhgpkdchknaa.Own
open Go.RowKit Go.Proofs.YtaodhgpkdchknaaW.PrintWords Go.Proofs.YtaodhgpkdchknaaW.PrintLast Go.Proofs.YtaodhgpkdchknaaW.PrintMore
attribute [local go_sem] max2_int min2_int max_two min_two max_three min_three max_four min_four
set_option linter.unusedVariables false
set_option linter.unusedSimpArgs false
/-- In how many ways the words from one on fit: the inner loop, from k words of the first line on. -/
def canK (wide most : Int) (ws rest : List Int) : Nat → Nat → Int → Int
  | 0, _, acc => acc
  | f + 1, k, acc => if needL (ws.take k) ≤ wide then canK wide most ws rest f (k + 1) (if k = ws.length ∨ wide - needL (ws.take k) ≤ most then acc + rest.getD (k - 1) 0 else acc) else acc
def canL (wide most : Int) : List Int → List Int
  | [] => [1]
  | w :: ws => canK wide most (w :: ws) (canL wide most ws) (ws.length + 1) 1 0 :: canL wide most ws
theorem canL_length (wide most : Int) : ∀ l : List Int, (canL wide most l).length = l.length + 1
  | [] => rfl
  | w :: ws => by simp [canL, canL_length wide most ws]
theorem getD_drop_sum (l : List Int) (k : Nat) : l.getD k 0 + (l.drop (k + 1)).sum = (l.drop k).sum := by
  rcases Nat.lt_or_ge k l.length with h | h
  · rw [List.drop_eq_getElem_cons h, List.sum_cons, List.getD_eq_getElem?_getD, List.getElem?_eq_getElem h]; rfl
  · rw [List.drop_eq_nil_iff.2 h, List.drop_eq_nil_iff.2 (by omega), List.getD_eq_getElem?_getD, List.getElem?_eq_none h]; rfl
theorem getD_nonneg (l : List Int) (h : ∀ x ∈ l, 0 ≤ x) (k : Nat) : 0 ≤ l.getD k 0 := by
  rcases Nat.lt_or_ge k l.length with hk | hk
  · rw [List.getD_eq_getElem?_getD, List.getElem?_eq_getElem hk]; exact h _ (List.getElem_mem hk)
  · rw [List.getD_eq_getElem?_getD, List.getElem?_eq_none hk]; exact Int.le_refl 0
theorem sum_nonneg (l : List Int) (h : ∀ x ∈ l, 0 ≤ x) : 0 ≤ l.sum := by
  induction l with
  | nil => simp
  | cons y ys ih => rw [List.sum_cons]; have := h y List.mem_cons_self; have := ih (fun x hx => h x (List.mem_cons_of_mem _ hx)); omega
theorem canK_bd (wide most : Int) (ws rest : List Int) (hr : ∀ x ∈ rest, 0 ≤ x) : ∀ (f k : Nat) (acc : Int), 1 ≤ k → acc ≤ canK wide most ws rest f k acc ∧ canK wide most ws rest f k acc ≤ acc + (rest.drop (k - 1)).sum := by
  intro f
  induction f with
  | zero => intro k acc hk; have := sum_nonneg (rest.drop (k - 1)) (fun x hx => hr x (List.mem_of_mem_drop hx)); simp only [canK]; omega
  | succ f ih =>
    intro k acc hk
    have h1 := getD_drop_sum rest (k - 1)
    have h2 := getD_nonneg rest hr (k - 1)
    have h3 := sum_nonneg (rest.drop (k - 1)) (fun x hx => hr x (List.mem_of_mem_drop hx))
    rw [show k - 1 + 1 = k from by omega] at h1
    rw [canK]
    split
    · have := ih (k + 1) (if k = ws.length ∨ wide - needL (ws.take k) ≤ most then acc + rest.getD (k - 1) 0 else acc) (by omega)
      rw [show k + 1 - 1 = k from by omega] at this
      split at this <;> rename_i hc
      · rw [if_pos hc]; omega
      · rw [if_neg hc]; omega
    · omega
theorem canL_bd (wide most : Int) : ∀ l : List Int, (∀ x ∈ canL wide most l, 0 ≤ x) ∧ (canL wide most l).sum ≤ 2 ^ l.length
  | [] => by simp [canL]
  | w :: ws => by
    obtain ⟨h1, h2⟩ := canL_bd wide most ws
    have h3 := canK_bd wide most (w :: ws) (canL wide most ws) h1 (ws.length + 1) 1 0 (by omega)
    simp only [show 1 - 1 = 0 from rfl, List.drop_zero] at h3
    refine ⟨?_, ?_⟩
    · intro x hx
      rw [canL, List.mem_cons] at hx
      rcases hx with rfl | hx
      · exact h3.1
      · exact h1 x hx
    · rw [canL, List.sum_cons, List.length_cons, Int.pow_succ]; omega
theorem mem_le_sum (l : List Int) (h : ∀ x ∈ l, 0 ≤ x) : ∀ x ∈ l, x ≤ l.sum := by
  induction l with
  | nil => simp
  | cons y ys ih =>
    intro x hx
    rw [List.sum_cons]
    have h1 := h y List.mem_cons_self
    have h2 := sum_nonneg ys (fun x hx => h x (List.mem_cons_of_mem _ hx))
    rcases List.mem_cons.1 hx with rfl | hx
    · omega
    · have := ih (fun x hx => h x (List.mem_cons_of_mem _ hx)) x hx; omega
theorem pow_le30 {n : Nat} (h : n ≤ 30) : (2 : Int) ^ n ≤ 1073741824 := by
  have h2 : 2 ^ n ≤ 2 ^ 30 := Nat.pow_le_pow_right (by omega) h
  have h3 : ((2 ^ n : Nat) : Int) ≤ ((2 ^ 30 : Nat) : Int) := by omega
  rw [Int.natCast_pow] at h3
  simpa using h3
theorem canL_le (wide most : Int) (l : List Int) (hl : l.length ≤ 30) (k : Nat) : 0 ≤ (canL wide most l).getD k 0 ∧ (canL wide most l).getD k 0 ≤ 1073741824 := by
  obtain ⟨h1, h2⟩ := canL_bd wide most l
  have h3 := pow_le30 hl
  refine ⟨getD_nonneg _ h1 k, ?_⟩
  rcases Nat.lt_or_ge k (canL wide most l).length with hk | hk
  · rw [List.getD_eq_getElem?_getD, List.getElem?_eq_getElem hk]
    have := mem_le_sum _ h1 _ (List.getElem_mem hk)
    simp only [Option.getD_some]; omega
  · rw [List.getD_eq_getElem?_getD, List.getElem?_eq_none hk]; simp
def canM (l : List Int) (wide most : Int) : Int := (canL wide most l).getD 0 0
/-! a row: zeros, the place in hand, the rest -/
def rowAt (i : Nat) (acc : Int) (R : List Int) : List Int := List.replicate i 0 ++ acc :: R
theorem rowAt_length (i : Nat) (acc : Int) (R : List Int) : (rowAt i acc R).length = i + 1 + R.length := by simp [rowAt]; omega
theorem rowAt_rd (i : Nat) (acc : Int) (R : List Int) : rd (rowAt i acc R) (i : Int) = acc := by
  unfold rowAt rd
  rw [Int.toNat_natCast, List.getD_eq_getElem?_getD, List.getElem?_append_right (by simp)]; simp
theorem rowAt_rd2 (i j : Nat) (acc : Int) (R : List Int) (hj : 1 ≤ j) : rd (rowAt i acc R) ((i : Int) + (j : Int)) = R.getD (j - 1) 0 := by
  unfold rowAt rd
  rw [show ((i : Int) + (j : Int)).toNat = i + j from by omega, List.getD_eq_getElem?_getD, List.getD_eq_getElem?_getD, List.getElem?_append_right (by simp)]
  congr 1
  rw [List.length_replicate, show i + j - i = (j - 1) + 1 from by omega, List.getElem?_cons_succ]
theorem rowAt_set (i : Nat) (acc v : Int) (R : List Int) : (rowAt i acc R).set i v = rowAt i v R := by
  unfold rowAt
  rw [List.set_append_right _ _ (by simp)]; simp
theorem rowAt_zero (i : Nat) (R : List Int) : rowAt i 0 R = List.replicate (i + 1) 0 ++ R := by
  unfold rowAt
  rw [List.replicate_succ']; simp
theorem rowAt_new (n : Nat) (v : Int) : (List.replicate (n + 1) (0 : Int)).set n v = rowAt n v [] := by
  rw [← List.append_nil (List.replicate (n + 1) (0 : Int)), ← rowAt_zero, rowAt_set]
theorem put_at {W : World} {e base : Nat} {ok : Nat → Prop} {g n co i : Nat} {acc : Int} {R : List Int} (m : Nat) (h : Kd.R (Kd.int .i64) e W base ok (.slice (some ⟨g, 0, none⟩) n co) (rowAt i acc R)) (x8 : Int) (h8 : x8 = (i : Int)) (v : Int) :
    Kd.R (Kd.int .i64) e ((W.drewN m).setCell ⟨g, x8.toNat, none⟩ (.int .i64 v)) base ok (.slice (some ⟨g, 0, none⟩) n co) (rowAt i v R) := by
  have h2 := (Kd.R_putg (Kd.R_drewN h m) x8 v).1
  rw [show x8.toNat = i from by omega, rowAt_set] at h2
  rw [show x8.toNat = i from by omega]
  exact h2
section
open Go.Proofs.Ytaodhgpkdchknaa.PFnExactStretchSpaces
theorem need_go (A0 : Option Addr) (n c0 : Nat) (l0 : List Int) (r : Int) (w : World) (hr0 : Kd.C (Kd.int .i64) w A0 n l0) (hc0 : n ≤ c0) (hw : l0.length ≤ 1000 ∧ ∀ n ∈ l0, 1 ≤ n ∧ n ≤ 80) (hr : needL l0 = r) :
    Calls Try.prog 65 #[.slice A0 n c0] w fun e w' => e = .returned (.int .i64 r) ∧ Drawn0 w w' := by
  obtain rfl : l0.length = n := hr0.1
  subst hr
  obtain ⟨k, hk⟩ := (St.lnNeed_ev l0 hw.1 hw.2).rounds
  exact spec_lnNeed.calls k A0 c0 l0 _ w hr0 hc0 hk
end
set_option maxHeartbeats 8000000 in
set_option maxRecDepth 100000 in
theorem lnCan_go (A0 : Option Addr) (n c0 : Nat) (l0 : List Int) (wide most : Int) (w : World) (hr0 : Kd.C (Kd.int .i64) w A0 n l0) (hc0 : n ≤ c0) (hw : wordsB l0 = true) (hwd : 1 ≤ wide ∧ wide ≤ 80) :
    Calls Try.prog 51 #[.slice A0 n c0, .int .i64 wide, .int .i64 most] w fun e w' => e = .returned (.int .i64 (canM l0 wide most)) ∧ Below w.heap.size w w' := by
  obtain rfl : l0.length = n := hr0.1
  have hws := wordsB_true hw
  have hlen1 := hws.1.1
  have hlen2 := hws.1.2
  have HR0 := Aside0.mk hr0
  have HRW := Aside0.mk hr0
  have HC0 := Aside0.mk hc0
  have HWD := Aside0.mk hws.2
  have HB := Aside0.mk (Below.refl w.heap.size w)
  clear hr0 hc0 hw hws
  go_enter Try.func51, Try.ntmps51
  go_wp2_with (first | ((with_reducible refine gate_dst (N := 13) rfl ?_); refine Kd.R_make (Kd.int .i64) _ 3 rfl (N := 13) rfl 22 _ _ rfl ((l0.length : Int) + 1) rfl rfl Try.underlying22 (.int .i64 0) 8 infoI rfl (by decide) (by omega) 0 (ok := fun _ => True) (okp := fun _ => True) rfl (fun _ hk => hk) trivial (by omega) (by omega) (Below.refl _ _) (Nat.le_refl _) ?_; intro v13 w10 ho hb hg_ hnew_; clear hg_ hnew_; rw [show ((l0.length : Int) + 1).toNat = l0.length + 1 from (by omega)] at ho; have n0_ := Aside0.mk (Kd.R_lower ho (below_size (by repeat (first | (with_reducible first | exact HB.out | apply below_alloc | apply pw_below_drewN | apply below_drew1) | exact HB.out)))); have n1_ := Aside0.mk (below_step (by repeat (first | (with_reducible first | exact HB.out | apply below_alloc | apply pw_below_drewN | apply below_drew1) | exact HB.out)) hb); clear HB; have HO := n0_; have HB := n1_; clear n0_ n1_ hb ho; obtain ⟨g, co, eo, gb, gl, cl, HG_⟩ := Kd.R_form HO.out (by simp); rw [List.length_replicate] at eo; subst eo; have GB := Aside0.mk gb; clear gb gl HG_ cl; obtain ⟨hc0_, hf0_⟩ := Kd.R_celln 0 HO.out (l0.length : Int) (by omega) (by omega); have HP := Aside0.mk (Kd.R_putg HO.out (l0.length : Int) 1); rw [show ((l0.length : Int)).toNat = l0.length from (by omega), rowAt_new] at HP; rw [show ((l0.length : Int)).toNat = l0.length from (by omega)] at hc0_ hf0_))
  clear hc0_ hf0_
  go_loopg [8] (l0.length) (fun kq v8 w' => ∃ x8 : Int, v8 = .int .i64 x8 ∧ Aside0 (x8 = (kq : Int) - 1 ∧ kq ≤ l0.length) ∧ Aside0 (Kd.R (Kd.int .i64) 3 w' w.heap.size (fun _ => True) (.slice (some ⟨g, 0, none⟩) (l0.length + 1) co) (List.replicate kq 0 ++ canL wide most (l0.drop kq))) ∧ Aside0 (Kd.C (Kd.int .i64) w' A0 l0.length l0) ∧ Aside0 (Below w.heap.size w w'))
  case atStart => exact ⟨(l0.length : Int) - 1, rfl, ⟨rfl, Nat.le_refl _⟩, ⟨by rw [List.drop_length]; exact HP.out.1⟩, ⟨Kd.C_below HR0.out (below_set HB.out GB.out)⟩, ⟨below_set HB.out GB.out⟩⟩
  case round =>
    clear HP HO HR0 HB
    obtain ⟨x8, rfl, HX8, HO, HR0, HB⟩ := hrel
    cases gk with
    | zero =>
      have hx8 : x8 < 0 := by have := HX8.out; omega
      have HO2 : Aside0 (Kd.R (Kd.int .i64) 3 wr w.heap.size (fun _ => True) (.slice (some ⟨g, 0, none⟩) (l0.length + 1) co) (canL wide most l0)) := ⟨by simpa using HO.out⟩
      obtain ⟨hc0_, hf0_⟩ := Kd.R_celln 0 HO2.out 0 (by omega) (by omega)
      have he : rdOf 0 (canL wide most l0) 0 = canM l0 wide most := rfl
      rw [he] at hc0_
      simp only [Int.toNat_zero] at hc0_ hf0_
      clear he
      go_wp2
      go_ret
      exact ⟨rfl, (by repeat (first | (with_reducible first | exact HB.out | apply below_alloc | apply pw_below_drewN | apply below_drew1) | exact HB.out))⟩
    | succ k1 =>
      have hx8 : 0 ≤ x8 := by have := HX8.out; omega
      have hk1 := HX8.out.2
      have HK1 : Aside0 (x8 = (k1 : Int) ∧ k1 < l0.length) := ⟨by have := HX8.out; omega⟩
      have hx8b : x8 < (l0.length : Int) := by have := HK1.out; omega
      rw [← rowAt_zero] at HO
      obtain ⟨R, hR⟩ : ∃ R, canL wide most (l0.drop (k1 + 1)) = R := ⟨_, rfl⟩
      have hdk : l0.drop k1 = l0[k1] :: l0.drop (k1 + 1) := List.drop_eq_getElem_cons (by omega)
      obtain ⟨T, hT⟩ : ∃ T, canK wide most (l0.drop k1) R (l0.length - k1) 1 0 = T := ⟨_, rfl⟩
      have HTR : Aside0 (canL wide most (l0.drop k1) = T :: R) := ⟨by rw [hdk, canL, hR, ← hdk, show (l0.drop (k1 + 1)).length + 1 = l0.length - k1 from by rw [List.length_drop]; omega, hT]⟩
      have HRB : Aside0 (∀ k, 0 ≤ R.getD k 0 ∧ R.getD k 0 ≤ 1073741824) := ⟨by rw [← hR]; exact canL_le wide most (l0.drop (k1 + 1)) (by rw [List.length_drop]; omega)⟩
      have HT := Aside0.mk hT
      rw [hR] at HO
      clear hdk hT hR hk1 HX8
      go_wp2
      go_loopg [9] (l0.length - k1) (fun kq v9 w' => ∃ (x9 : Int) (j : Nat) (acc : Int), v9 = .int .i64 x9 ∧ Aside0 (x9 = (k1 : Int) + j ∧ 1 ≤ j ∧ kq + j + k1 = l0.length + 1 ∧ 0 ≤ acc ∧ acc ≤ j * 1073741824) ∧ Aside0 (canK wide most (l0.drop k1) R kq j acc = T) ∧ Aside0 (Kd.R (Kd.int .i64) 3 w' w.heap.size (fun _ => True) (.slice (some ⟨g, 0, none⟩) (l0.length + 1) co) (rowAt k1 acc R)) ∧ Aside0 (Kd.C (Kd.int .i64) w' A0 l0.length l0) ∧ Aside0 (Below w.heap.size w w'))
      case atStart => exact ⟨x8 + 1, 1, 0, rfl, ⟨by have := HK1.out; omega⟩, ⟨HT.out⟩, ⟨by ((with_reducible repeat (first | apply Kd.R_alloc | apply Kd.R_drewN | apply Kd.R_drew)); exact HO.out)⟩, ⟨by repeat (first | exact HR0.out | (with_reducible refine Kd.C_alloc ?_ _) | (with_reducible refine Kd.C_drewN ?_ _) | (with_reducible refine Kd.C_drew ?_))⟩, ⟨(by repeat (first | (with_reducible first | exact HB.out | apply below_alloc | apply pw_below_drewN | apply below_drew1) | exact HB.out))⟩⟩
      case round =>
        clear HO HR0 HB
        obtain ⟨x9, j, acc, rfl, HX, HC, HO, HR0, HB⟩ := hrel
        cases gk with
        | zero =>
          have hx9 : (l0.length : Int) < x9 := by have := HX.out; have := HK1.out; omega
          have HRo : Aside0 (rowAt k1 acc R = List.replicate k1 0 ++ canL wide most (l0.drop k1)) := ⟨by rw [HTR.out, ← HC.out]; rfl⟩
          rw [HRo.out] at HO
          go_wp2
          go_roundg k1
          case measure => omega
          case rel => exact ⟨x8 - 1, rfl, ⟨by have := HK1.out; omega⟩, ⟨by ((with_reducible repeat (first | apply Kd.R_alloc | apply Kd.R_drewN | apply Kd.R_drew)); exact HO.out)⟩, ⟨by repeat (first | exact HR0.out | (with_reducible refine Kd.C_alloc ?_ _) | (with_reducible refine Kd.C_drewN ?_ _) | (with_reducible refine Kd.C_drew ?_))⟩, ⟨(by repeat (first | (with_reducible first | exact HB.out | apply below_alloc | apply pw_below_drewN | apply below_drew1) | exact HB.out))⟩⟩
        | succ f =>
          have hx9 : x9 ≤ (l0.length : Int) := by have := HX.out; have := HK1.out; omega
          have hx98 : x8 ≤ x9 := by have := HX.out; have := HK1.out; omega
          have hx90 : 0 ≤ x9 := by omega
          have hacc0 : 0 ≤ acc := HX.out.2.2.2.1
          have hacc1 : acc ≤ 34359738368 := by have := HX.out; have := HK1.out; omega
          have HJ := HX.out
          obtain ⟨i0, hi0, _, hsz0, _⟩ := info_parts infoI
          obtain ⟨A2, hcut, hA2, hC2⟩ := print_mid_of (P := Try.prog) (Value.int .i64) 0 22 3 .i64 .i64 Try.underlying22 hi0 hsz0 A0 c0 l0 x8 x9 hx8 hx98 hx9 HC0.out
          have e9 : x9.toNat = k1 + j := by have := HK1.out; omega
          have e8 : x8.toNat = k1 := by have := HK1.out; omega
          have hst : (l0.take x9.toNat).drop x8.toNat = (l0.drop k1).take j := by rw [e9, e8, List.drop_take, Nat.add_sub_cancel_left]
          obtain ⟨sg, hsg⟩ : ∃ sg, (l0.drop k1).take j = sg := ⟨_, rfl⟩
          rw [hst, hsg] at hcut hA2 hC2
          have HRS := Aside0.mk (Kd.C_of_reads (h1 := fun _ => rfl) (hA2 _ (Kd.reads_of_C HR0.out)))
          have HCS := Aside0.mk hC2
          have HWS : Aside0 (sg.length ≤ 1000 ∧ ∀ n ∈ sg, 1 ≤ n ∧ n ≤ 80) := ⟨by rw [← hsg, List.length_take, List.length_drop]; omega, fun n hn => HWD.out n (List.mem_of_mem_drop (List.mem_of_mem_take (by rw [hsg]; exact hn)))⟩
          have hnb : -1 ≤ needL sg ∧ needL sg ≤ 90000 := by have := sum_bd _ HWS.out.2; have := HWS.out.1; unfold needL; omega
          obtain ⟨nd0, hnd⟩ : ∃ nd0, needL sg = nd0 := ⟨_, rfl⟩
          rw [hnd] at hnb
          have HND := Aside0.mk hnd
          obtain ⟨hc8_, hf8_⟩ := Kd.R_celln 0 HO.out x8 hx8 (by omega)
          rw [show rdOf 0 (rowAt k1 acc R) x8 = acc from by rw [show x8 = (k1 : Int) from HK1.out.1]; exact rowAt_rd k1 acc R] at hc8_
          obtain ⟨v2, hv2⟩ : ∃ v2, R.getD (j - 1) 0 = v2 := ⟨_, rfl⟩
          have hvb := HRB.out (j - 1)
          rw [hv2] at hvb
          obtain ⟨hc9_, hf9_⟩ := Kd.R_celln 0 HO.out x9 hx90 (by omega)
          rw [show rdOf 0 (rowAt k1 acc R) x9 = v2 from by rw [← hv2, show x9 = (k1 : Int) + (j : Int) from HJ.1]; exact rowAt_rd2 k1 j acc R HJ.2.1] at hc9_
          have HP := Aside0.mk (Kd.R_putg HO.out x8 (acc + v2))
          rw [e8, rowAt_set, ← e8] at HP
          have HCE := HC.out
          rw [canK, hsg, hnd, hv2] at HCE
          have hlj : (j = (l0.drop k1).length ↔ x9 = (l0.length : Int)) := by rw [List.length_drop]; have := HK1.out; omega
          have HLS : Aside0 ((l0.drop k1).length = l0.length - k1) := ⟨List.length_drop⟩
          have HJA := Aside0.mk HJ
          clear HJ e9 e8 hst hsg hA2 hC2 hi0 hsz0 hnd hv2 HX HC hf9_
          by_cases c1 : nd0 ≤ wide
          · rw [if_pos c1] at HCE
            have hd1 : decide (nd0 ≤ wide) = true := decide_eq_true c1
            by_cases c2 : x9 = (l0.length : Int)
            · rw [if_pos (Or.inl (hlj.2 c2))] at HCE
              have HCA := Aside0.mk HCE
              have he1 : (x9 == (l0.length : Int)) = true := beq_iff_eq.mpr c2
              have C2 := Aside0.mk c2
              clear HCE hlj c2
              go_wp2_with (first | (go_at_call 65; (with_reducible refine (need_go _ _ _ sg nd0 _ ?side1 HCS.out HWS.out HND.out).mono ?_); (case side1 => repeat (first | exact HRS.out | (with_reducible refine Kd.C_alloc ?_ _) | (with_reducible refine Kd.C_drewN ?_ _) | (with_reducible refine Kd.C_drew ?_))); rintro e w' ⟨rfl, ⟨nd, rfl⟩⟩))
              go_region
              go_wp2
              go_roundg f
              case measure => omega
              case rel => exact ⟨x9 + 1, j + 1, acc + v2, rfl, ⟨by have := HJA.out; omega⟩, ⟨HCA.out⟩, ⟨put_at _ HO.out _ HK1.out.1 _⟩, ⟨Kd.C_below HRW.out (by repeat (first | (with_reducible first | exact HB.out | apply below_alloc | apply pw_below_drewN | apply below_drew1 | refine below_set ?_ GB.out) | exact HB.out))⟩, ⟨(by repeat (first | (with_reducible first | exact HB.out | apply below_alloc | apply pw_below_drewN | apply below_drew1 | refine below_set ?_ GB.out) | exact HB.out))⟩⟩
            · have he1 : (x9 == (l0.length : Int)) = false := beq_eq_false_iff_ne.mpr c2
              have hlt : x9 < (l0.length : Int) := by omega
              by_cases c3 : wide - nd0 ≤ most
              · rw [if_pos (Or.inr c3)] at HCE
                have HCA := Aside0.mk HCE
                have hd2 : decide (wide - nd0 ≤ most) = true := decide_eq_true c3
                clear HCE hlj
                go_wp2_with (first | (go_at_call 65; (with_reducible refine (need_go _ _ _ sg nd0 _ ?side1 HCS.out HWS.out HND.out).mono ?_); (case side1 => repeat (first | exact HRS.out | (with_reducible refine Kd.C_alloc ?_ _) | (with_reducible refine Kd.C_drewN ?_ _) | (with_reducible refine Kd.C_drew ?_))); rintro e w' ⟨rfl, ⟨nd, rfl⟩⟩))
                go_region
                go_wp2
                go_roundg f
                case measure => omega
                case rel => exact ⟨x9 + 1, j + 1, acc + v2, rfl, ⟨by have := HJA.out; omega⟩, ⟨HCA.out⟩, ⟨put_at _ HO.out _ HK1.out.1 _⟩, ⟨Kd.C_below HRW.out (by repeat (first | (with_reducible first | exact HB.out | apply below_alloc | apply pw_below_drewN | apply below_drew1 | refine below_set ?_ GB.out) | exact HB.out))⟩, ⟨(by repeat (first | (with_reducible first | exact HB.out | apply below_alloc | apply pw_below_drewN | apply below_drew1 | refine below_set ?_ GB.out) | exact HB.out))⟩⟩
              · rw [if_neg (fun h => h.elim (fun h => c2 (hlj.1 h)) c3)] at HCE
                have HCA := Aside0.mk HCE
                have hd2 : decide (wide - nd0 ≤ most) = false := decide_eq_false c3
                clear HCE hlj
                go_wp2_with (first | (go_at_call 65; (with_reducible refine (need_go _ _ _ sg nd0 _ ?side1 HCS.out HWS.out HND.out).mono ?_); (case side1 => repeat (first | exact HRS.out | (with_reducible refine Kd.C_alloc ?_ _) | (with_reducible refine Kd.C_drewN ?_ _) | (with_reducible refine Kd.C_drew ?_))); rintro e w' ⟨rfl, ⟨nd, rfl⟩⟩))
                go_roundg f
                case measure => omega
                case rel => exact ⟨x9 + 1, j + 1, acc, rfl, ⟨by have := HJA.out; omega⟩, ⟨HCA.out⟩, ⟨by ((with_reducible repeat (first | apply Kd.R_alloc | apply Kd.R_drewN | apply Kd.R_drew)); exact HO.out)⟩, ⟨by repeat (first | exact HR0.out | (with_reducible refine Kd.C_alloc ?_ _) | (with_reducible refine Kd.C_drewN ?_ _) | (with_reducible refine Kd.C_drew ?_))⟩, ⟨(by repeat (first | (with_reducible first | exact HB.out | apply below_alloc | apply pw_below_drewN | apply below_drew1) | exact HB.out))⟩⟩
          · rw [if_neg c1] at HCE
            have HCA := Aside0.mk HCE
            have hd1 : decide (nd0 ≤ wide) = false := decide_eq_false c1
            have HRo : Aside0 (rowAt k1 acc R = List.replicate k1 0 ++ canL wide most (l0.drop k1)) := ⟨by rw [HTR.out, ← HCA.out]; rfl⟩
            rw [HRo.out] at HO
            clear HCE hlj HRo
            go_wp2_with (first | (go_at_call 65; (with_reducible refine (need_go _ _ _ sg nd0 _ ?side1 HCS.out HWS.out HND.out).mono ?_); (case side1 => repeat (first | exact HRS.out | (with_reducible refine Kd.C_alloc ?_ _) | (with_reducible refine Kd.C_drewN ?_ _) | (with_reducible refine Kd.C_drew ?_))); rintro e w' ⟨rfl, ⟨nd, rfl⟩⟩))
            go_roundg k1
            case measure => omega
            case rel => exact ⟨x8 - 1, rfl, ⟨by have := HK1.out; omega⟩, ⟨by ((with_reducible repeat (first | apply Kd.R_alloc | apply Kd.R_drewN | apply Kd.R_drew)); exact HO.out)⟩, ⟨by repeat (first | exact HR0.out | (with_reducible refine Kd.C_alloc ?_ _) | (with_reducible refine Kd.C_drewN ?_ _) | (with_reducible refine Kd.C_drew ?_))⟩, ⟨(by repeat (first | (with_reducible first | exact HB.out | apply below_alloc | apply pw_below_drewN | apply below_drew1) | exact HB.out))⟩⟩
def breaksM (l : List Int) (wide : Int) : Int := if settingB l wide = true then canM l wide wide else 0
set_option maxHeartbeats 8000000 in
set_option maxRecDepth 100000 in
theorem implBreaks_go (A0 : Option Addr) (n c0 : Nat) (l0 : List Int) (wide : Int) (w : World) (hr0 : Kd.C (Kd.int .i64) w A0 n l0) (hc0 : n ≤ c0) (hn : n < 1073741824) :
    Calls Try.prog 24 #[.slice A0 n c0, .int .i64 wide] w fun e w' => e = .returned (.tuple #[.int .i64 (breaksM l0 wide), .bool (settingB l0 wide)]) ∧ Below w.heap.size w w' := by
  obtain rfl : l0.length = n := hr0.1
  have HN := Aside0.mk hn
  by_cases hg : settingB l0 wide = true
  · have hw := (settingB_true hg).1
    have hwd := (settingB_true hg).2.1
    have hM : breaksM l0 wide = canM l0 wide wide := if_pos hg
    rw [hM, hg]
    have HG := Aside0.mk hg
    have hws := wordsB_true hw
    have hlen1 := hws.1.1
    have hlen2 := hws.1.2
    have HR0 := Aside0.mk hr0
    have HRW := Aside0.mk hr0
    have HC0 := Aside0.mk hc0
    have HWD := Aside0.mk hws.2
    have HB := Aside0.mk (Below.refl w.heap.size w)
    clear hr0 hc0 hw hws hM hg hn
    go_enter Try.func24, Try.ntmps24
    go_wp2_with (first | (go_at_call 52; (with_reducible refine (isSetting_go _ _ _ l0 wide true _ ?side1 HC0.out HN.out HG.out).mono ?_); (case side1 => repeat (first | exact HR0.out | (with_reducible refine Kd.C_alloc ?_ _) | (with_reducible refine Kd.C_drewN ?_ _) | (with_reducible refine Kd.C_drew ?_))); rintro e w' ⟨rfl, ⟨nd, rfl⟩⟩) | ((with_reducible refine gate_dst (N := 16) rfl ?_); refine Kd.R_make (Kd.int .i64) _ 3 rfl (N := 16) rfl 22 _ _ rfl ((l0.length : Int) + 1) rfl rfl Try.underlying22 (.int .i64 0) 8 infoI rfl (by decide) (by omega) 0 (ok := fun _ => True) (okp := fun _ => True) rfl (fun _ hk => hk) trivial (by omega) (by omega) (Below.refl _ _) (Nat.le_refl _) ?_; intro v16 w10 ho hb hg_ hnew_; clear hg_ hnew_; rw [show ((l0.length : Int) + 1).toNat = l0.length + 1 from (by omega)] at ho; have n0_ := Aside0.mk (Kd.R_lower ho (below_size (by repeat (first | (with_reducible first | exact HB.out | apply below_alloc | apply pw_below_drewN | apply below_drew1) | exact HB.out)))); have n1_ := Aside0.mk (below_step (by repeat (first | (with_reducible first | exact HB.out | apply below_alloc | apply pw_below_drewN | apply below_drew1) | exact HB.out)) hb); clear HB; have HO := n0_; have HB := n1_; clear n0_ n1_ hb ho; obtain ⟨g, co, eo, gb, gl, cl, HG_⟩ := Kd.R_form HO.out (by simp); rw [List.length_replicate] at eo; subst eo; have GB := Aside0.mk gb; clear gb gl HG_ cl; obtain ⟨hc0_, hf0_⟩ := Kd.R_celln 0 HO.out (l0.length : Int) (by omega) (by omega); have HP := Aside0.mk (Kd.R_putg HO.out (l0.length : Int) 1); rw [show ((l0.length : Int)).toNat = l0.length from (by omega), rowAt_new] at HP; rw [show ((l0.length : Int)).toNat = l0.length from (by omega)] at hc0_ hf0_))
    clear hc0_ hf0_
    go_loopg [7] (l0.length) (fun kq v7 w' => ∃ x8 : Int, v7 = .int .i64 x8 ∧ Aside0 (x8 = (kq : Int) - 1 ∧ kq ≤ l0.length) ∧ Aside0 (Kd.R (Kd.int .i64) 3 w' w.heap.size (fun _ => True) (.slice (some ⟨g, 0, none⟩) (l0.length + 1) co) (List.replicate kq 0 ++ canL wide wide (l0.drop kq))) ∧ Aside0 (Kd.C (Kd.int .i64) w' A0 l0.length l0) ∧ Aside0 (Below w.heap.size w w'))
    case atStart => exact ⟨(l0.length : Int) - 1, rfl, ⟨rfl, Nat.le_refl _⟩, ⟨by rw [List.drop_length]; exact HP.out.1⟩, ⟨Kd.C_below HR0.out (below_set HB.out GB.out)⟩, ⟨below_set HB.out GB.out⟩⟩
    case round =>
      clear HP HO HR0 HB
      obtain ⟨x8, rfl, HX8, HO, HR0, HB⟩ := hrel
      cases gk with
      | zero =>
        have hx8 : x8 < 0 := by have := HX8.out; omega
        have HO2 : Aside0 (Kd.R (Kd.int .i64) 3 wr w.heap.size (fun _ => True) (.slice (some ⟨g, 0, none⟩) (l0.length + 1) co) (canL wide wide l0)) := ⟨by simpa using HO.out⟩
        obtain ⟨hc0_, hf0_⟩ := Kd.R_celln 0 HO2.out 0 (by omega) (by omega)
        have he : rdOf 0 (canL wide wide l0) 0 = canM l0 wide wide := rfl
        rw [he] at hc0_
        simp only [Int.toNat_zero] at hc0_ hf0_
        clear he
        go_wp2
        go_ret2
        exact ⟨rfl, (by repeat (first | (with_reducible first | exact HB.out | apply below_alloc | apply pw_below_drewN | apply below_drew1) | exact HB.out))⟩
      | succ k1 =>
        have hx8 : 0 ≤ x8 := by have := HX8.out; omega
        have hk1 := HX8.out.2
        have HK1 : Aside0 (x8 = (k1 : Int) ∧ k1 < l0.length) := ⟨by have := HX8.out; omega⟩
        have hx8b : x8 < (l0.length : Int) := by have := HK1.out; omega
        rw [← rowAt_zero] at HO
        obtain ⟨R, hR⟩ : ∃ R, canL wide wide (l0.drop (k1 + 1)) = R := ⟨_, rfl⟩
        have hdk : l0.drop k1 = l0[k1] :: l0.drop (k1 + 1) := List.drop_eq_getElem_cons (by omega)
        obtain ⟨T, hT⟩ : ∃ T, canK wide wide (l0.drop k1) R (l0.length - k1) 1 0 = T := ⟨_, rfl⟩
        have HTR : Aside0 (canL wide wide (l0.drop k1) = T :: R) := ⟨by rw [hdk, canL, hR, ← hdk, show (l0.drop (k1 + 1)).length + 1 = l0.length - k1 from by rw [List.length_drop]; omega, hT]⟩
        have HRB : Aside0 (∀ k, 0 ≤ R.getD k 0 ∧ R.getD k 0 ≤ 1073741824) := ⟨by rw [← hR]; exact canL_le wide wide (l0.drop (k1 + 1)) (by rw [List.length_drop]; omega)⟩
        have HT := Aside0.mk hT
        rw [hR] at HO
        clear hdk hT hR hk1 HX8
        go_wp2
        go_loopg [8] (l0.length - k1) (fun kq v8 w' => ∃ (x9 : Int) (j : Nat) (acc : Int), v8 = .int .i64 x9 ∧ Aside0 (x9 = (k1 : Int) + j ∧ 1 ≤ j ∧ kq + j + k1 = l0.length + 1 ∧ 0 ≤ acc ∧ acc ≤ j * 1073741824) ∧ Aside0 (canK wide wide (l0.drop k1) R kq j acc = T) ∧ Aside0 (Kd.R (Kd.int .i64) 3 w' w.heap.size (fun _ => True) (.slice (some ⟨g, 0, none⟩) (l0.length + 1) co) (rowAt k1 acc R)) ∧ Aside0 (Kd.C (Kd.int .i64) w' A0 l0.length l0) ∧ Aside0 (Below w.heap.size w w'))
        case atStart => exact ⟨x8 + 1, 1, 0, rfl, ⟨by have := HK1.out; omega⟩, ⟨HT.out⟩, ⟨by ((with_reducible repeat (first | apply Kd.R_alloc | apply Kd.R_drewN | apply Kd.R_drew)); exact HO.out)⟩, ⟨by repeat (first | exact HR0.out | (with_reducible refine Kd.C_alloc ?_ _) | (with_reducible refine Kd.C_drewN ?_ _) | (with_reducible refine Kd.C_drew ?_))⟩, ⟨(by repeat (first | (with_reducible first | exact HB.out | apply below_alloc | apply pw_below_drewN | apply below_drew1) | exact HB.out))⟩⟩
        case round =>
          clear HO HR0 HB
          obtain ⟨x9, j, acc, rfl, HX, HC, HO, HR0, HB⟩ := hrel
          cases gk with
          | zero =>
            have hx9 : (l0.length : Int) < x9 := by have := HX.out; have := HK1.out; omega
            have HRo : Aside0 (rowAt k1 acc R = List.replicate k1 0 ++ canL wide wide (l0.drop k1)) := ⟨by rw [HTR.out, ← HC.out]; rfl⟩
            rw [HRo.out] at HO
            go_wp2
            go_roundg k1
            case measure => omega
            case rel => exact ⟨x8 - 1, rfl, ⟨by have := HK1.out; omega⟩, ⟨by ((with_reducible repeat (first | apply Kd.R_alloc | apply Kd.R_drewN | apply Kd.R_drew)); exact HO.out)⟩, ⟨by repeat (first | exact HR0.out | (with_reducible refine Kd.C_alloc ?_ _) | (with_reducible refine Kd.C_drewN ?_ _) | (with_reducible refine Kd.C_drew ?_))⟩, ⟨(by repeat (first | (with_reducible first | exact HB.out | apply below_alloc | apply pw_below_drewN | apply below_drew1) | exact HB.out))⟩⟩
          | succ f =>
            have hx9 : x9 ≤ (l0.length : Int) := by have := HX.out; have := HK1.out; omega
            have hx98 : x8 ≤ x9 := by have := HX.out; have := HK1.out; omega
            have hx90 : 0 ≤ x9 := by omega
            have hacc0 : 0 ≤ acc := HX.out.2.2.2.1
            have hacc1 : acc ≤ 34359738368 := by have := HX.out; have := HK1.out; omega
            have HJ := HX.out
            obtain ⟨i0, hi0, _, hsz0, _⟩ := info_parts infoI
            obtain ⟨A2, hcut, hA2, hC2⟩ := print_mid_of (P := Try.prog) (Value.int .i64) 0 22 3 .i64 .i64 Try.underlying22 hi0 hsz0 A0 c0 l0 x8 x9 hx8 hx98 hx9 HC0.out
            have e9 : x9.toNat = k1 + j := by have := HK1.out; omega
            have e8 : x8.toNat = k1 := by have := HK1.out; omega
            have hst : (l0.take x9.toNat).drop x8.toNat = (l0.drop k1).take j := by rw [e9, e8, List.drop_take, Nat.add_sub_cancel_left]
            obtain ⟨sg, hsg⟩ : ∃ sg, (l0.drop k1).take j = sg := ⟨_, rfl⟩
            rw [hst, hsg] at hcut hA2 hC2
            have HRS := Aside0.mk (Kd.C_of_reads (h1 := fun _ => rfl) (hA2 _ (Kd.reads_of_C HR0.out)))
            have HCS := Aside0.mk hC2
            have HWS : Aside0 (sg.length ≤ 1000 ∧ ∀ n ∈ sg, 1 ≤ n ∧ n ≤ 80) := ⟨by rw [← hsg, List.length_take, List.length_drop]; omega, fun n hn => HWD.out n (List.mem_of_mem_drop (List.mem_of_mem_take (by rw [hsg]; exact hn)))⟩
            have hnb : 1 ≤ needL sg ∧ needL sg ≤ 90000 := by have := sum_bd _ HWS.out.2; have := HWS.out.1; have hsl : 1 ≤ sg.length := (by rw [← hsg, List.length_take, List.length_drop]; omega); unfold needL; omega
            obtain ⟨nd0, hnd⟩ : ∃ nd0, needL sg = nd0 := ⟨_, rfl⟩
            rw [hnd] at hnb
            have HND := Aside0.mk hnd
            obtain ⟨hc8_, hf8_⟩ := Kd.R_celln 0 HO.out x8 hx8 (by omega)
            rw [show rdOf 0 (rowAt k1 acc R) x8 = acc from by rw [show x8 = (k1 : Int) from HK1.out.1]; exact rowAt_rd k1 acc R] at hc8_
            obtain ⟨v2, hv2⟩ : ∃ v2, R.getD (j - 1) 0 = v2 := ⟨_, rfl⟩
            have hvb := HRB.out (j - 1)
            rw [hv2] at hvb
            obtain ⟨hc9_, hf9_⟩ := Kd.R_celln 0 HO.out x9 hx90 (by omega)
            rw [show rdOf 0 (rowAt k1 acc R) x9 = v2 from by rw [← hv2, show x9 = (k1 : Int) + (j : Int) from HJ.1]; exact rowAt_rd2 k1 j acc R HJ.2.1] at hc9_
            have HP := Aside0.mk (Kd.R_putg HO.out x8 (acc + v2))
            rw [e8, rowAt_set, ← e8] at HP
            have HCE := HC.out
            rw [canK, hsg, hnd, hv2] at HCE
            have hlj : (j = (l0.drop k1).length ↔ x9 = (l0.length : Int)) := by rw [List.length_drop]; have := HK1.out; omega
            have HLS : Aside0 ((l0.drop k1).length = l0.length - k1) := ⟨List.length_drop⟩
            have HJA := Aside0.mk HJ
            clear HJ e9 e8 hst hsg hA2 hC2 hi0 hsz0 hnd hv2 HX HC hf9_
            by_cases c1 : nd0 ≤ wide
            · rw [if_pos c1] at HCE
              have hd1 : decide (nd0 ≤ wide) = true := decide_eq_true c1
              rw [if_pos (Or.inr (by omega))] at HCE
              have HCA := Aside0.mk HCE
              clear HCE hlj
              go_wp2_with (first | (go_at_call 53; (with_reducible refine (needs_go _ _ _ sg nd0 _ ?side1 HCS.out HWS.out HND.out).mono ?_); (case side1 => repeat (first | exact HRS.out | (with_reducible refine Kd.C_alloc ?_ _) | (with_reducible refine Kd.C_drewN ?_ _) | (with_reducible refine Kd.C_drew ?_))); rintro e w' ⟨rfl, ⟨nd, rfl⟩⟩))
              go_region
              go_wp2
              go_roundg f
              case measure => omega
              case rel => exact ⟨x9 + 1, j + 1, acc + v2, rfl, ⟨by have := HJA.out; omega⟩, ⟨HCA.out⟩, ⟨put_at _ HO.out _ HK1.out.1 _⟩, ⟨Kd.C_below HRW.out (by repeat (first | (with_reducible first | exact HB.out | apply below_alloc | apply pw_below_drewN | apply below_drew1 | refine below_set ?_ GB.out) | exact HB.out))⟩, ⟨(by repeat (first | (with_reducible first | exact HB.out | apply below_alloc | apply pw_below_drewN | apply below_drew1 | refine below_set ?_ GB.out) | exact HB.out))⟩⟩
            · rw [if_neg c1] at HCE
              have HCA := Aside0.mk HCE
              have hd1 : decide (nd0 ≤ wide) = false := decide_eq_false c1
              have HRo : Aside0 (rowAt k1 acc R = List.replicate k1 0 ++ canL wide wide (l0.drop k1)) := ⟨by rw [HTR.out, ← HCA.out]; rfl⟩
              rw [HRo.out] at HO
              clear HCE hlj HRo
              go_wp2_with (first | (go_at_call 53; (with_reducible refine (needs_go _ _ _ sg nd0 _ ?side1 HCS.out HWS.out HND.out).mono ?_); (case side1 => repeat (first | exact HRS.out | (with_reducible refine Kd.C_alloc ?_ _) | (with_reducible refine Kd.C_drewN ?_ _) | (with_reducible refine Kd.C_drew ?_))); rintro e w' ⟨rfl, ⟨nd, rfl⟩⟩))
              go_roundg k1
              case measure => omega
              case rel => exact ⟨x8 - 1, rfl, ⟨by have := HK1.out; omega⟩, ⟨by ((with_reducible repeat (first | apply Kd.R_alloc | apply Kd.R_drewN | apply Kd.R_drew)); exact HO.out)⟩, ⟨by repeat (first | exact HR0.out | (with_reducible refine Kd.C_alloc ?_ _) | (with_reducible refine Kd.C_drewN ?_ _) | (with_reducible refine Kd.C_drew ?_))⟩, ⟨(by repeat (first | (with_reducible first | exact HB.out | apply below_alloc | apply pw_below_drewN | apply below_drew1) | exact HB.out))⟩⟩
  · have hM : breaksM l0 wide = 0 := if_neg hg
    have HG := Aside0.mk (Bool.eq_false_iff.mpr hg)
    rw [hM, HG.out]
    have HR0 := Aside0.mk hr0
    have HC0 := Aside0.mk hc0
    have HB := Aside0.mk (Below.refl w.heap.size w)
    clear hr0 hc0 hM hg hn
    go_enter Try.func24, Try.ntmps24
    go_wp2_with (first | (go_at_call 52; (with_reducible refine (isSetting_go _ _ _ l0 wide false _ ?side1 HC0.out HN.out HG.out).mono ?_); (case side1 => repeat (first | exact HR0.out | (with_reducible refine Kd.C_alloc ?_ _) | (with_reducible refine Kd.C_drewN ?_ _) | (with_reducible refine Kd.C_drew ?_))); rintro e w' ⟨rfl, ⟨nd, rfl⟩⟩))
    go_ret2
    exact ⟨rfl, (by repeat (first | (with_reducible first | exact HB.out | apply below_alloc | apply pw_below_drewN | apply below_drew1) | exact HB.out))⟩
end Go.Proofs.Ytaodhgpkdchknaa.Own
