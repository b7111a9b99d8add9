import Derived.Test.YtaodhgpkdchknaaOwnWork
import Derived.Test.YtaodhgpkdchknaaPFnExactStretchSpacesx2
namespace Go.Proofs.Ytaodhgpkdchknaa.Own
open Go.RowKit Go.Proofs.YtaodhgpkdchknaaW.PrintWords Go.Proofs.YtaodhgpkdchknaaW.PrintLast Go.Proofs.YtaodhgpkdchknaaW.PrintMore
attribute [local go_sem] max2_int min2_int max_two min_two max_three min_three max_four min_four
set_option linter.unusedVariables false
set_option linter.unusedSimpArgs false
/-- The blanks from place i on, m of them, q each and one more before place r. -/
def strL (q r : Int) : Nat → Int → List Int
  | 0, _ => []
  | m + 1, i => (q + if i < r then 1 else 0) :: strL q r m (i + 1)
theorem strL_length (q r : Int) : ∀ (m : Nat) (i : Int), (strL q r m i).length = m
  | 0, _ => rfl
  | m + 1, i => by simp [strL, strL_length q r m]
def stretchB (l : List Int) (wide : Int) : Bool := settingB l wide && (decide ((l.length : Int) ≠ 1) && decide (needL l ≤ wide))
def stretchL (l : List Int) (wide : Int) : List Int := strL ((wide - l.sum) / ((l.length : Int) - 1)) ((wide - l.sum) % ((l.length : Int) - 1)) (l.length - 1) 0
def stretchM (l : List Int) (wide : Int) : List Int := if stretchB l wide = true then stretchL l wide else []
theorem stretchB_true {l : List Int} {wide : Int} (h : stretchB l wide = true) : settingB l wide = true ∧ (l.length : Int) ≠ 1 ∧ needL l ≤ wide := by simpa [stretchB] using h
theorem stretchM_small (l : List Int) (wide : Int) : (stretchM l wide).length ≤ 1048576 := by
  unfold stretchM
  split
  · rename_i h
    have := (wordsB_true (settingB_true (stretchB_true h).1).1).1
    unfold stretchL; rw [strL_length]; omega
  · simp
theorem ceil_step (q s m : Int) (hm : 0 ≤ m) (h0 : 0 ≤ s) (h1 : s ≤ m) : (q * (m + 1) + s + m) / (m + 1) = q + if 0 < s then 1 else 0 := by
  have e : q * (m + 1) + s + m = (s + m) + q * (m + 1) := by omega
  rw [e, Int.add_mul_ediv_right _ _ (by omega), Int.add_comm]
  congr 1
  by_cases h : 0 < s
  · rw [if_pos h]
    have e2 : s + m = (s - 1) + 1 * (m + 1) := by omega
    rw [e2, Int.add_mul_ediv_right _ _ (by omega), Int.ediv_eq_zero_of_lt (by omega) (by omega)]; rfl
  · rw [if_neg h]
    exact Int.ediv_eq_zero_of_lt (by omega) (by omega)
section
open Go.Proofs.Ytaodhgpkdchknaa.PFnExactStretchSpaces
namespace St
theorem l1In_eq (a lo hi : Int) : spec_l1In.f a lo hi = some (decide (lo ≤ a ∧ a ≤ hi)) := by
  unfold spec_l1In.f
  by_cases h : a ≥ lo
  · rw [if_pos h]; congr 1; simp [show lo ≤ a from h]
  · rw [if_neg h]; congr 1; simp; omega
theorem l1All_l (lo hi : Int) (xs : List Int) (hn : xs.length < 4611686018427387904) : ∀ (ys : List Int) (i : Int), 0 ≤ i → xs.drop i.toNat = ys →
    Ev (fun k => spec_l1All.l0 k lo hi xs (xs.length : Int) i) (decide (∀ n ∈ ys, lo ≤ n ∧ n ≤ hi)) := by
  intro ys
  induction ys with
  | nil =>
    intro i h0 h
    have := drop_nil h0 h
    refine Ev.step (fun k => spec_l1All.l0.eq_2 ..) ?_
    exact ev_neg (by omega) (ev_now (by simp))
  | cons y ys ih =>
    intro i h0 h
    obtain ⟨h1, h2, h3, _⟩ := drop_cons h0 h
    refine Ev.step (fun k => spec_l1All.l0.eq_2 ..) ?_
    refine ev_pos h1 (ev_pos h0 (ev_pos h1 ?_))
    rw [h2, w64 (by omega) (by omega)]
    refine ev_some (l1In_eq ..) ?_
    by_cases hy : lo ≤ y ∧ y ≤ hi
    · exact ev_pos (by simpa using hy) (ev_val (ih _ (by omega) h3) (by simp [hy]))
    · exact ev_neg (by simpa using hy) (ev_now (by simp [hy]))
theorem l1All_ev (xs : List Int) (lo hi : Int) (hn : xs.length < 4611686018427387904) :
    Ev (fun k => spec_l1All.f k xs lo hi) (decide (∀ n ∈ xs, lo ≤ n ∧ n ≤ hi)) := l1All_l lo hi xs hn xs 0 (by omega) rfl
theorem lnNeed_l (xs : List Int) (hn : xs.length ≤ 1000) (hin : ∀ n ∈ xs, 1 ≤ n ∧ n ≤ 80) : ∀ (ys : List Int) (i s : Int), 0 ≤ i → xs.drop i.toNat = ys → -1 ≤ s → s + 80 * ys.length ≤ 1000000 →
    Ev (fun k => spec_lnNeed.l0 k s xs (xs.length : Int) i) (s + ys.sum) := by
  intro ys
  induction ys with
  | nil =>
    intro i s h0 h _ _
    have := drop_nil h0 h
    refine Ev.step (fun k => spec_lnNeed.l0.eq_2 ..) ?_
    exact ev_neg (by omega) (ev_now (by simp))
  | cons y ys ih =>
    intro i s h0 h hs hb
    obtain ⟨h1, h2, h3, _⟩ := drop_cons h0 h
    have hy := hin y (List.mem_of_mem_drop (by rw [h]; exact List.mem_cons_self))
    simp only [List.length_cons] at hb
    refine Ev.step (fun k => spec_lnNeed.l0.eq_2 ..) ?_
    refine ev_pos h1 (ev_pos h0 (ev_pos h1 ?_))
    rw [h2, w64 (x := i + 1) (by omega) (by omega), w64 (by omega) (by omega)]
    exact ev_val (ih (i + 1) (s + y) (by omega) h3 (by omega) (by omega)) (by rw [List.sum_cons]; omega)
theorem lnNeed_ev (xs : List Int) (hn : xs.length ≤ 1000) (hin : ∀ n ∈ xs, 1 ≤ n ∧ n ≤ 80) : Ev (fun k => spec_lnNeed.f k xs) (needL xs) := by
  unfold spec_lnNeed.f needL
  rw [w64 (by omega) (by omega)]
  exact ev_val (lnNeed_l xs hn hin xs 0 ((xs.length : Int) - 1) (by omega) rfl (by omega) (by omega)) (by omega)
theorem lnGood_evF (xs : List Int) (hn : xs.length < 4611686018427387904) : Ev (fun k => spec_lnGood.f k xs) (wordsB xs) := by
  unfold spec_lnGood.f wordsB
  refine ev_some (l1In_eq ..) ?_
  by_cases h : 1 ≤ (xs.length : Int) ∧ (xs.length : Int) ≤ 30
  · refine ev_pos (by simpa using h) (Ev.bind (l1All_ev xs 1 80 hn) (ev_now (by simp [h])))
  · exact ev_neg (by simpa using h) (ev_now (by simp [h]))
theorem lnWide_eq (w : Int) : spec_lnWide.f w = some (decide (1 ≤ w ∧ w ≤ 80)) := by
  unfold spec_lnWide.f
  rw [l1In_eq]; rfl
theorem lnFits_ev (xs : List Int) (wide : Int) (hn : xs.length < 4611686018427387904) : Ev (fun k => spec_lnFits.f k xs wide) (settingB xs wide) := by
  unfold spec_lnFits.f settingB
  refine Ev.bind (lnGood_evF xs hn) ?_
  by_cases h : wordsB xs = true
  · refine ev_pos h (ev_some (lnWide_eq wide) ?_)
    have hw := (wordsB_true h).2
    by_cases h2 : 1 ≤ wide ∧ wide ≤ 80
    · refine ev_pos (decide_eq_true h2) (Ev.bind (l1All_ev xs 1 wide hn) (ev_now ?_))
      rw [h, decide_eq_true h2]
      simp only [Bool.true_and]
      exact decide_eq_decide.2 ⟨fun hh n hm => (hh n hm).2, fun hh n hm => ⟨(hw n hm).1, hh n hm⟩⟩
    · exact ev_neg (by rw [decide_eq_false h2]; simp) (ev_now (by rw [decide_eq_false h2]; simp))
  · exact ev_neg h (ev_now (by rw [Bool.eq_false_iff.mpr h]; rfl))
theorem total_lw (xs : List Int) (hn : xs.length ≤ 1000) (hin : ∀ n ∈ xs, 1 ≤ n ∧ n ≤ 80) : ∀ (ys : List Int) (i s : Int), 0 ≤ i → xs.drop i.toNat = ys → 0 ≤ s → s + 80 * ys.length ≤ 1000000 →
    Ev (fun k => impl_total.l0 k s xs (xs.length : Int) i) (s + ys.sum) := by
  intro ys
  induction ys with
  | nil =>
    intro i s h0 h _ _
    have := drop_nil h0 h
    refine Ev.step (fun k => impl_total.l0.eq_2 ..) ?_
    exact ev_neg (by omega) (ev_now (by simp))
  | cons y ys ih =>
    intro i s h0 h hs hb
    obtain ⟨h1, h2, h3, _⟩ := drop_cons h0 h
    have hy := hin y (List.mem_of_mem_drop (by rw [h]; exact List.mem_cons_self))
    simp only [List.length_cons] at hb
    refine Ev.step (fun k => impl_total.l0.eq_2 ..) ?_
    refine ev_pos h1 (ev_pos h0 (ev_pos h1 ?_))
    rw [h2, w64 (x := i + 1) (by omega) (by omega), w64 (by omega) (by omega)]
    exact ev_val (ih (i + 1) (s + y) (by omega) h3 (by omega) (by omega)) (by rw [List.sum_cons]; omega)
theorem totalW_ev (xs : List Int) (hn : xs.length ≤ 1000) (hin : ∀ n ∈ xs, 1 ≤ n ∧ n ≤ 80) : Ev (fun k => impl_total.f k xs) xs.sum :=
  ev_val (total_lw xs hn hin xs 0 0 (by omega) rfl (by omega) (by omega)) (by omega)
theorem needs_ev (xs : List Int) (hn : xs.length ≤ 1000) (hin : ∀ n ∈ xs, 1 ≤ n ∧ n ≤ 80) : Ev (fun k => impl_needs.f k xs) (needL xs) := by
  have hs := sum_bd xs hin
  unfold impl_needs.f needL
  refine Ev.bind (totalW_ev xs hn hin) (ev_now ?_)
  rw [w64 (x := xs.sum + (xs.length : Int)) (by omega) (by omega), w64 (by omega) (by omega)]
theorem stretch_l (q r : Int) (hq0 : 0 ≤ q) (hq : q ≤ 1000) (hr0 : 0 ≤ r) : ∀ (m : Nat) (i : Int) (out : List Int), 0 ≤ i → m ≤ 1000 → (r - i ≤ 0 ∨ r - i < m) → out.length + m ≤ 100000 →
    Ev (fun k => spec_lnStretch.l0 k out (q * (m : Int) + if i < r then r - i else 0) (m : Int)) (out ++ strL q r m i) := by
  intro m
  induction m with
  | zero =>
    intro i out h0 hm hri ho
    refine Ev.step (fun k => spec_lnStretch.l0.eq_2 ..) ?_
    exact ev_neg (by omega) (ev_now (by simp [strL]))
  | succ m ih =>
    intro i out h0 hm hri ho
    have hmul0 : 0 ≤ q * (m : Int) := Int.mul_nonneg hq0 (by omega)
    have hmul1 : q * (m : Int) ≤ 1000 * 1000 := Int.mul_le_mul hq (by omega) (by omega) (by omega)
    generalize hs : (if i < r then r - i else 0 : Int) = s
    have hs0 : 0 ≤ s ∧ s ≤ m := by split at hs <;> omega
    have hmm : q * ((m + 1 : Nat) : Int) = q * (m : Int) + q := by rw [Int.natCast_add, Int.mul_add]; simp
    have hm1 : ((m + 1 : Nat) : Int) = (m : Int) + 1 := by omega
    have hc : (q * ((m + 1 : Nat) : Int) + s + (m : Int)) / ((m : Int) + 1) = q + if 0 < s then 1 else 0 := by rw [hm1]; exact ceil_step q s m (by omega) (by omega) (by omega)
    have hw1 : wrap64 (wrap64 (q * ((m + 1 : Nat) : Int) + s + ((m + 1 : Nat) : Int)) - 1) = q * ((m + 1 : Nat) : Int) + s + (m : Int) := by
      rw [w64 (x := q * ((m + 1 : Nat) : Int) + s + ((m + 1 : Nat) : Int)) (by omega) (by omega), w64 (by omega) (by omega)]; omega
    have hd : wrap64 (Int.tdiv (q * ((m + 1 : Nat) : Int) + s + (m : Int)) ((m + 1 : Nat) : Int)) = q + if i < r then 1 else 0 := by
      rw [Int.tdiv_eq_ediv_of_nonneg (by omega)]
      rw [hm1] at hc ⊢
      rw [hc]
      have : (if 0 < s then 1 else 0 : Int) = if i < r then 1 else 0 := by
        split at hs
        · rename_i h; rw [if_pos h, if_pos (by omega)]
        · rename_i h; rw [if_neg h, if_neg (by omega)]
      rw [this]
      exact w64 (by split <;> omega) (by split <;> omega)
    refine Ev.step (fun k => spec_lnStretch.l0.eq_2 ..) ?_
    rw [hw1, hd]
    refine ev_pos (by omega) (ev_neg (by omega) (ev_pos (by omega) ?_))
    have e1 : wrap64 (((m + 1 : Nat) : Int) - 1) = (m : Int) := by rw [w64 (by omega) (by omega)]; omega
    have e2 : wrap64 (q * ((m + 1 : Nat) : Int) + s - (q + if i < r then 1 else 0)) = q * (m : Int) + if i + 1 < r then r - (i + 1) else 0 := by
      have : s - (if i < r then 1 else 0) = if i + 1 < r then r - (i + 1) else 0 := by
        rw [← hs]; split <;> split <;> omega
      rw [w64 (by split <;> omega) (by split <;> omega)]
      omega
    rw [e1, e2]
    exact ev_val (ih (i + 1) _ (by omega) (by omega) (by omega) (by simp; omega)) (by simp [strL])
theorem specStretch_ev (l : List Int) (wide : Int) (hn : l.length ≤ 1048576) : Ev (fun k => spec_StretchSpaces.f k l wide) (stretchM l wide, stretchB l wide) := by
  unfold spec_StretchSpaces.f stretchM
  refine Ev.bind (lnFits_ev l wide (by omega)) ?_
  by_cases h : settingB l wide = true
  · obtain ⟨⟨w1, w2⟩, w3⟩ := wordsB_true (settingB_true h).1
    have hwd := (settingB_true h).2.1
    refine ev_pos h ?_
    by_cases h1 : (l.length : Int) = 1
    · exact ev_pos h1 (ev_now (by unfold stretchB; rw [decide_eq_false (by omega : ¬ (l.length : Int) ≠ 1)]; simp))
    · refine ev_neg h1 (Ev.bind (lnNeed_ev l (by omega) w3) ?_)
      by_cases h2 : needL l ≤ wide
      · have hb : stretchB l wide = true := by unfold stretchB; rw [h, decide_eq_true h1, decide_eq_true h2]; rfl
        have hs := sum_bd l w3
        have hg : 0 < (l.length : Int) - 1 := by omega
        have hnl : needL l = l.sum + l.length - 1 := rfl
        have hB : 0 ≤ wide - l.sum := by omega
        have hr := Int.emod_nonneg (wide - l.sum) (by omega : (l.length : Int) - 1 ≠ 0)
        have hr2 := Int.emod_lt_of_pos (wide - l.sum) hg
        have hq := Int.ediv_nonneg hB (by omega : 0 ≤ (l.length : Int) - 1)
        have hq2 : (wide - l.sum) / ((l.length : Int) - 1) ≤ wide - l.sum := Int.ediv_le_self _ hB
        refine ev_neg (by omega) ?_
        unfold spec_lnStretch.f
        refine Ev.bind (Ev.bind (lnNeed_ev l (by omega) w3) ?_) (ev_now (by rw [if_pos hb, hb]))
        have e1 : wrap64 ((l.length : Int) - 1) = ((l.length - 1 : Nat) : Int) := by rw [w64 (by omega) (by omega)]; omega
        have e2 : wrap64 (wrap64 (wrap64 (wide - needL l) + (l.length : Int)) - 1) = (wide - l.sum) / ((l.length : Int) - 1) * ((l.length - 1 : Nat) : Int) + if 0 < (wide - l.sum) % ((l.length : Int) - 1) then (wide - l.sum) % ((l.length : Int) - 1) - 0 else 0 := by
          rw [w64 (x := wide - needL l) (by omega) (by omega), w64 (x := wide - needL l + (l.length : Int)) (by omega) (by omega), w64 (by omega) (by omega)]
          have e3 : ((l.length - 1 : Nat) : Int) = (l.length : Int) - 1 := by omega
          have e4 := Int.ediv_mul_add_emod (wide - l.sum) ((l.length : Int) - 1)
          rw [e3]
          split <;> omega
        rw [e1, e2]
        exact stretch_l _ _ hq (by omega) hr (l.length - 1) 0 [] (by omega) (by omega) (by omega) (by simp; omega)
      · exact ev_pos (by omega) (ev_now (by unfold stretchB; rw [decide_eq_false h2]; simp))
  · exact ev_neg h (ev_now (by unfold stretchB; rw [Bool.eq_false_iff.mpr h]; rfl))
end St
theorem specStretch_go (A0 : Option Addr) (n c0 : Nat) (l0 : List Int) (wide : Int) (w : World) (hr0 : Kd.C (Kd.int .i64) w A0 n l0) (hc0 : n ≤ c0) (hn : n ≤ 1048576) :
    Calls Try.prog 35 #[.slice A0 n c0, .int .i64 wide] w fun e w' => ∃ v : Value, e = .returned (.tuple #[v, .bool (stretchB l0 wide)]) ∧ Kd.R (Kd.int .i64) 3 w' w.heap.size (fun _ => True) v (stretchM l0 wide) ∧ Below w.heap.size w w' := by
  obtain rfl : l0.length = n := hr0.1
  obtain ⟨k, hk⟩ := (St.specStretch_ev l0 wide hn).rounds
  exact spec_StretchSpaces.calls k A0 c0 l0 wide _ _ w hr0 hc0 hk
theorem needs_go (A0 : Option Addr) (n c0 : Nat) (l0 : List Int) (r : Int) (w : World) (hr0 : Kd.C (Kd.int .i64) w A0 n l0) (hc0 : n ≤ c0) (hw : l0.length ≤ 1000 ∧ ∀ n ∈ l0, 1 ≤ n ∧ n ≤ 80) (hr : needL l0 = r) :
    Calls Try.prog 53 #[.slice A0 n c0] w fun e w' => e = .returned (.int .i64 r) ∧ Drawn0 w w' := by
  obtain rfl : l0.length = n := hr0.1
  subst hr
  obtain ⟨k, hk⟩ := (St.needs_ev l0 hw.1 hw.2).rounds
  exact impl_needs.calls k A0 c0 l0 _ w hr0 hc0 hk
theorem total_go (A0 : Option Addr) (n c0 : Nat) (l0 : List Int) (r : Int) (w : World) (hr0 : Kd.C (Kd.int .i64) w A0 n l0) (hc0 : n ≤ c0) (hw : l0.length ≤ 1000 ∧ ∀ n ∈ l0, 1 ≤ n ∧ n ≤ 80) (hr : l0.sum = r) :
    Calls Try.prog 67 #[.slice A0 n c0] w fun e w' => e = .returned (.int .i64 r) ∧ Drawn0 w w' := by
  obtain rfl : l0.length = n := hr0.1
  subst hr
  obtain ⟨k, hk⟩ := (St.totalW_ev l0 hw.1 hw.2).rounds
  exact impl_total.calls k A0 c0 l0 _ w hr0 hc0 hk
end
set_option maxHeartbeats 8000000 in
set_option maxRecDepth 100000 in
theorem implStretch_go (A0 : Option Addr) (n c0 : Nat) (l0 : List Int) (wide : Int) (w : World) (hr0 : Kd.C (Kd.int .i64) w A0 n l0) (hc0 : n ≤ c0) (hn : n < 1073741824) :
    Calls Try.prog 36 #[.slice A0 n c0, .int .i64 wide] w fun e w' => ∃ v : Value, e = .returned (.tuple #[v, .bool (stretchB l0 wide)]) ∧ Kd.R (Kd.int .i64) 3 w' w.heap.size (fun _ => True) v (stretchM l0 wide) ∧ Below w.heap.size w w' := by
  obtain rfl : l0.length = n := hr0.1
  have HR0 := Aside0.mk hr0
  have HC0 := Aside0.mk hc0
  have HN := Aside0.mk hn
  have HB := Aside0.mk (Below.refl w.heap.size w)
  clear hr0 hc0 hn
  by_cases hg : settingB l0 wide = true
  · have HG := Aside0.mk hg
    have hws := wordsB_true (settingB_true hg).1
    have HW : Aside0 (l0.length ≤ 1000 ∧ ∀ n ∈ l0, 1 ≤ n ∧ n ≤ 80) := ⟨by omega, hws.2⟩
    have hwd := (settingB_true hg).2.1
    have hlen1 := hws.1.1
    have hlen2 := hws.1.2
    have hsum := sum_bd l0 hws.2
    by_cases h1 : (l0.length : Int) = 1
    · have hM : Aside0 (stretchB l0 wide = false) := ⟨by unfold stretchB; rw [decide_eq_false (by omega : ¬ (l0.length : Int) ≠ 1)]; simp⟩
      have hM2 : Aside0 (stretchM l0 wide = []) := ⟨by unfold stretchM; rw [hM.out]; rfl⟩
      rw [hM.out, hM2.out]
      have HS : Aside0 (needL l0 ≤ 81) := ⟨by unfold needL; omega⟩
      clear hg hws
      go_enter Try.func36, Try.ntmps36
      go_wp2_with (first | (go_at_call 52; (with_reducible refine (isSetting_go _ _ _ l0 wide true _ ?side1 HC0.out HN.out HG.out).mono ?_); (case side1 => repeat (first | exact HR0.out | (with_reducible refine Kd.C_alloc ?_ _) | (with_reducible refine Kd.C_drewN ?_ _) | (with_reducible refine Kd.C_drew ?_))); rintro e w' ⟨rfl, ⟨nd, rfl⟩⟩))
      go_ret2
      exact ⟨_, rfl, Kd.R_nil _ _ _ _ _, (by repeat (first | (with_reducible first | exact HB.out | apply below_alloc | apply pw_below_drewN | apply below_drew1) | exact HB.out))⟩
    · by_cases h2 : needL l0 ≤ wide
      · have hM : Aside0 (stretchB l0 wide = true) := ⟨by unfold stretchB; rw [hg, decide_eq_true h1, decide_eq_true h2]; rfl⟩
        have hM2 : Aside0 (stretchM l0 wide = stretchL l0 wide) := ⟨by unfold stretchM; rw [hM.out]; rfl⟩
        rw [hM.out, hM2.out]
        have hnl : needL l0 = l0.sum + l0.length - 1 := rfl
        generalize hnd : needL l0 = nd0 at h2 hnl
        generalize hsm : l0.sum = sm at hnl hsum
        have HND := Aside0.mk hnd
        have HSM := Aside0.mk hsm
        have hq0 : 0 ≤ (wide - sm) / ((l0.length : Int) - 1) := Int.ediv_nonneg (by omega) (by omega)
        have hq1 : (wide - sm) / ((l0.length : Int) - 1) ≤ wide - sm := Int.ediv_le_self _ (by omega)
        have hr0 : 0 ≤ (wide - sm) % ((l0.length : Int) - 1) := Int.emod_nonneg _ (by omega)
        have HST : Aside0 (stretchL l0 wide = strL ((wide - sm) / ((l0.length : Int) - 1)) ((wide - sm) % ((l0.length : Int) - 1)) (l0.length - 1) 0) := ⟨by unfold stretchL; rw [HSM.out]⟩
        have hgne : (l0.length : Int) - 1 ≠ 0 := by omega
        have he1 : ((l0.length : Int) == 1) = false := by simpa using h1
        have hd1 : decide (wide < nd0) = false := decide_eq_false (by omega)
        have hsm2 : wide - sm ≤ 80 := by omega
        have hsm3 : 0 ≤ wide - sm := by omega
        clear hg hws hnd hsm hnl
        go_enter Try.func36, Try.ntmps36
        go_wp2_with (first | (go_at_call 52; (with_reducible refine (isSetting_go _ _ _ l0 wide true _ ?side1 HC0.out HN.out HG.out).mono ?_); (case side1 => repeat (first | exact HR0.out | (with_reducible refine Kd.C_alloc ?_ _) | (with_reducible refine Kd.C_drewN ?_ _) | (with_reducible refine Kd.C_drew ?_))); rintro e w' ⟨rfl, ⟨nd, rfl⟩⟩) | (go_at_call 53; (with_reducible refine (needs_go _ _ _ l0 nd0 _ ?side2 HC0.out HW.out HND.out).mono ?_); (case side2 => repeat (first | exact HR0.out | (with_reducible refine Kd.C_alloc ?_ _) | (with_reducible refine Kd.C_drewN ?_ _) | (with_reducible refine Kd.C_drew ?_))); rintro e w' ⟨rfl, ⟨nd, rfl⟩⟩) | (go_at_call 67; (with_reducible refine (total_go _ _ _ l0 sm _ ?side3 HC0.out HW.out HSM.out).mono ?_); (case side3 => repeat (first | exact HR0.out | (with_reducible refine Kd.C_alloc ?_ _) | (with_reducible refine Kd.C_drewN ?_ _) | (with_reducible refine Kd.C_drew ?_))); rintro e w' ⟨rfl, ⟨nd, rfl⟩⟩) | ((with_reducible refine gate_dst (N := 26) rfl ?_); refine Kd.R_lit (Kd.int .i64) _ 3 ?hg (N := 26) ?hd (xs := ([] : List Int)) (inner := []) (ok := fun _ => True) (okp := fun _ => True) ?hr ?hp (fun _ hk => hk) trivial (Below.refl _ _) (Nat.le_refl _) (by simp) ?_; (case hd => rfl); (case hg => rfl); (case hr => first | (go_simp; done) | (go_simp; rfl)); (case hp => exact (Reps.none _ _)); intro v26 w2 ho hb hg_ hnew_; clear hg_ hnew_; have HO0 := Aside0.mk (Kd.R_lower ho (below_size (by repeat (first | (with_reducible first | exact HB.out | apply below_alloc | apply pw_below_drewN | apply below_drew1) | exact HB.out)))); have n1_ := Aside0.mk (below_step (by repeat (first | (with_reducible first | exact HB.out | apply below_alloc | apply pw_below_drewN | apply below_drew1) | exact HB.out)) hb); have n2_ := Aside0.mk (Kd.C_below (by repeat (first | exact HR0.out | (with_reducible refine Kd.C_alloc ?_ _) | (with_reducible refine Kd.C_drewN ?_ _) | (with_reducible refine Kd.C_drew ?_))) hb); clear HB HR0; have HB := n1_; have HR0 := n2_; clear n1_ n2_ hb ho))
        go_loopg [6, 35] (l0.length - 1) (fun kq v6 v35 w' => ∃ x : Int, v35 = .int .i64 x ∧ Aside0 (0 ≤ x ∧ x + kq = (l0.length : Int) - 1) ∧ Aside0 (∃ out, out.length ≤ 100 - kq ∧ out ++ strL ((wide - sm) / ((l0.length : Int) - 1)) ((wide - sm) % ((l0.length : Int) - 1)) kq x = stretchL l0 wide ∧ Kd.R (Kd.int .i64) 3 w' w.heap.size (fun _ => True) v6 out) ∧ Aside0 (Below w.heap.size w w'))
        case atStart => exact ⟨0, rfl, ⟨by omega, by omega⟩, ⟨⟨[], by simp, HST.out.symm, by ((with_reducible repeat (first | apply Kd.R_alloc | apply Kd.R_drewN | apply Kd.R_drew)); exact HO0.out)⟩⟩, ⟨(by repeat (first | (with_reducible first | exact HB.out | apply below_alloc | apply pw_below_drewN | apply below_drew1) | exact HB.out))⟩⟩
        case round =>
          clear HB HO0
          obtain ⟨x, rfl, HX, ⟨⟨out, ho1, ho2, ho3⟩⟩, HB⟩ := hrel
          have hx0 := HX.out.1
          have hxk := HX.out.2
          have HO := Aside0.mk ho3
          have HE := Aside0.mk ho2
          have HL := Aside0.mk ho1
          clear ho1 ho2 ho3
          cases gk with
          | zero =>
            have hlt : (l0.length : Int) - 1 ≤ x := by omega
            have HE2 : Aside0 (out = stretchL l0 wide) := ⟨by have := HE.out; simpa [strL] using this⟩
            rw [HE2.out] at HO
            go_wp2
            go_ret2
            exact ⟨_, rfl, by ((with_reducible repeat (first | apply Kd.R_alloc | apply Kd.R_drewN | apply Kd.R_drew)); exact HO.out), (by repeat (first | (with_reducible first | exact HB.out | apply below_alloc | apply pw_below_drewN | apply below_drew1) | exact HB.out))⟩
          | succ k1 =>
            have hlt : x < (l0.length : Int) - 1 := by omega
            have HXK := Aside0.mk hxk
            by_cases c : x < ((wide - sm) % ((l0.length : Int) - 1))
            · have HE2 : Aside0 ((out ++ [((wide - sm) / ((l0.length : Int) - 1)) + 1]) ++ strL ((wide - sm) / ((l0.length : Int) - 1)) ((wide - sm) % ((l0.length : Int) - 1)) k1 (x + 1) = stretchL l0 wide) := ⟨by have := HE.out; simpa [strL, if_pos c] using this⟩
              clear hxk
              go_wp2_with (first | ((with_reducible refine gate_builtin (b := .append) (xs := #[.tmp 48, .tmp 50]) rfl ?_); at_builtin; refine R_append1 (w0 := w) w.heap.size rfl (.tmp 48) (.tmp 50) 22 3 rfl Try.underlying22 infoI _ out (((wide - sm) / ((l0.length : Int) - 1)) + 1) rfl rfl ?aO ?aB ?aS ?aL ?_; (case aO => ((with_reducible repeat (first | apply Kd.R_alloc | apply Kd.R_drewN | apply Kd.R_drew)); exact HO.out)); (case aB => exact (by repeat (first | (with_reducible first | exact HB.out | apply below_alloc | apply pw_below_drewN | apply below_drew1) | exact HB.out))); (case aS => exact (below_size (by repeat (first | (with_reducible first | exact HB.out | apply below_alloc | apply pw_below_drewN | apply below_drew1) | exact HB.out)))); (case aL => have := HL.out; omega); intro v1 w1 ho hb; clear HO HB; have HO := Aside0.mk ho; have HB := Aside0.mk hb; clear ho hb))
              go_roundg k1
              case measure => omega
              case rel => exact ⟨x + 1, rfl, ⟨by omega, by have := HXK.out; omega⟩, ⟨⟨_, by have h2_ := HL.out; have h3_ := HXK.out; simp only [List.length_append, List.length_singleton]; omega, HE2.out, by ((with_reducible repeat (first | apply Kd.R_alloc | apply Kd.R_drewN | apply Kd.R_drew)); exact HO.out)⟩⟩, ⟨(by repeat (first | (with_reducible first | exact HB.out | apply below_alloc | apply pw_below_drewN | apply below_drew1) | exact HB.out))⟩⟩
            · have HE2 : Aside0 ((out ++ [((wide - sm) / ((l0.length : Int) - 1))]) ++ strL ((wide - sm) / ((l0.length : Int) - 1)) ((wide - sm) % ((l0.length : Int) - 1)) k1 (x + 1) = stretchL l0 wide) := ⟨by have := HE.out; simpa [strL, if_neg c] using this⟩
              clear hxk
              go_wp2_with (first | ((with_reducible refine gate_builtin (b := .append) (xs := #[.tmp 48, .tmp 50]) rfl ?_); at_builtin; refine R_append1 (w0 := w) w.heap.size rfl (.tmp 48) (.tmp 50) 22 3 rfl Try.underlying22 infoI _ out ((wide - sm) / ((l0.length : Int) - 1)) rfl rfl ?aO ?aB ?aS ?aL ?_; (case aO => ((with_reducible repeat (first | apply Kd.R_alloc | apply Kd.R_drewN | apply Kd.R_drew)); exact HO.out)); (case aB => exact (by repeat (first | (with_reducible first | exact HB.out | apply below_alloc | apply pw_below_drewN | apply below_drew1) | exact HB.out))); (case aS => exact (below_size (by repeat (first | (with_reducible first | exact HB.out | apply below_alloc | apply pw_below_drewN | apply below_drew1) | exact HB.out)))); (case aL => have := HL.out; omega); intro v1 w1 ho hb; clear HO HB; have HO := Aside0.mk ho; have HB := Aside0.mk hb; clear ho hb))
              go_roundg k1
              case measure => omega
              case rel => exact ⟨x + 1, rfl, ⟨by omega, by have := HXK.out; omega⟩, ⟨⟨_, by have h2_ := HL.out; have h3_ := HXK.out; simp only [List.length_append, List.length_singleton]; omega, HE2.out, by ((with_reducible repeat (first | apply Kd.R_alloc | apply Kd.R_drewN | apply Kd.R_drew)); exact HO.out)⟩⟩, ⟨(by repeat (first | (with_reducible first | exact HB.out | apply below_alloc | apply pw_below_drewN | apply below_drew1) | exact HB.out))⟩⟩
      · have hM : Aside0 (stretchB l0 wide = false) := ⟨by unfold stretchB; rw [decide_eq_false h2]; simp⟩
        have hM2 : Aside0 (stretchM l0 wide = []) := ⟨by unfold stretchM; rw [hM.out]; rfl⟩
        rw [hM.out, hM2.out]
        generalize hnd : needL l0 = nd0 at h2
        have HND := Aside0.mk hnd
        have he1 : ((l0.length : Int) == 1) = false := by simpa using h1
        have hd1 : decide (wide < nd0) = true := decide_eq_true (by omega)
        clear hg hws hnd
        go_enter Try.func36, Try.ntmps36
        go_wp2_with (first | (go_at_call 52; (with_reducible refine (isSetting_go _ _ _ l0 wide true _ ?side1 HC0.out HN.out HG.out).mono ?_); (case side1 => repeat (first | exact HR0.out | (with_reducible refine Kd.C_alloc ?_ _) | (with_reducible refine Kd.C_drewN ?_ _) | (with_reducible refine Kd.C_drew ?_))); rintro e w' ⟨rfl, ⟨nd, rfl⟩⟩) | (go_at_call 53; (with_reducible refine (needs_go _ _ _ l0 nd0 _ ?side2 HC0.out HW.out HND.out).mono ?_); (case side2 => repeat (first | exact HR0.out | (with_reducible refine Kd.C_alloc ?_ _) | (with_reducible refine Kd.C_drewN ?_ _) | (with_reducible refine Kd.C_drew ?_))); rintro e w' ⟨rfl, ⟨nd, rfl⟩⟩))
        go_ret2
        exact ⟨_, rfl, Kd.R_nil _ _ _ _ _, (by repeat (first | (with_reducible first | exact HB.out | apply below_alloc | apply pw_below_drewN | apply below_drew1) | exact HB.out))⟩
  · have HG := Aside0.mk (Bool.eq_false_iff.mpr hg)
    have hM : Aside0 (stretchB l0 wide = false) := ⟨by unfold stretchB; rw [HG.out]; rfl⟩
    have hM2 : Aside0 (stretchM l0 wide = []) := ⟨by unfold stretchM; rw [hM.out]; rfl⟩
    rw [hM.out, hM2.out]
    clear hg
    go_enter Try.func36, Try.ntmps36
    go_wp2_with (first | (go_at_call 52; (with_reducible refine (isSetting_go _ _ _ l0 wide false _ ?side1 HC0.out HN.out HG.out).mono ?_); (case side1 => repeat (first | exact HR0.out | (with_reducible refine Kd.C_alloc ?_ _) | (with_reducible refine Kd.C_drewN ?_ _) | (with_reducible refine Kd.C_drew ?_))); rintro e w' ⟨rfl, ⟨nd, rfl⟩⟩))
    go_ret2
    exact ⟨_, rfl, Kd.R_nil _ _ _ _ _, (by repeat (first | (with_reducible first | exact HB.out | apply below_alloc | apply pw_below_drewN | apply below_drew1) | exact HB.out))⟩
end Go.Proofs.Ytaodhgpkdchknaa.Own
