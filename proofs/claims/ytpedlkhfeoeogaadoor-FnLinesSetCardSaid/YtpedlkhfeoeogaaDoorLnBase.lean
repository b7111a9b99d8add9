/- Contracts of what the walks over lines come to, in the models' words. -/
import Derived.Test.YtpedlkhfeoeogaaDoorLnModel
import Derived.Test.YtpedlkhfeoeogaaDoorPLnBx1
namespace Go.Proofs.YtpedlkhfeoeogaaDoor.Own
open Go.RowKit Go.Proofs.YtpedlkhfeoeogaaDoorW.PrintWords Go.Proofs.YtpedlkhfeoeogaaDoorW.PrintLast Go.Proofs.YtpedlkhfeoeogaaDoorW.PrintMore
attribute [local go_sem] max2_int min2_int max_two min_two max_three min_three max_four min_four
set_option linter.unusedVariables false
set_option linter.unusedSimpArgs false
section
open Go.Proofs.YtpedlkhfeoeogaaDoor.PLnB
namespace St
theorem within_eq (a lo hi : Int) : impl_within.f a lo hi = some (decide (lo ≤ a ∧ a ≤ hi)) := by
 unfold impl_within.f
 by_cases h : a ≥ lo
 ·rw [if_pos h]; congr 1; simp [show lo ≤ a from h]
 ·rw [if_neg h]; congr 1; simp; omega
theorem allWithin_l (lo hi : Int) (xs : List Int) (hn : xs.length < 4611686018427387904) : ∀ (ys : List Int) (i : Int), 0 ≤ i → xs.drop i.toNat = ys →
  Ev (fun k => impl_allWithin.l0 k lo hi xs (xs.length : Int) i) (decide (∀ n ∈ ys, lo ≤ n ∧ n ≤ hi)) := by
 intro ys
 induction ys with
 | nil =>
  intro i h0 h
  have := drop_nil h0 h
  refine Ev.step (fun k => impl_allWithin.l0.eq_2 ..) ?_
  exact ev_neg (by omega) (ev_now (by simp))
 | cons y ys ih =>
  intro i h0 h
  obtain ⟨h1, h2, h3, _⟩ := drop_cons h0 h
  refine Ev.step (fun k => impl_allWithin.l0.eq_2 ..) ?_
  refine ev_pos h1 (ev_pos h0 (ev_pos h1 ?_))
  rw [h2, w64 (by omega) (by omega)]
  refine ev_some (within_eq ..) ?_
  by_cases hy : lo ≤ y ∧ y ≤ hi
  ·exact ev_pos (by simpa using hy) (ev_val (ih _ (by omega) h3) (by simp [hy]))
  ·exact ev_neg (by simpa using hy) (ev_now (by simp [hy]))
theorem allWithin_ev (xs : List Int) (lo hi : Int) (hn : xs.length < 4611686018427387904) :
  Ev (fun k => impl_allWithin.f k xs lo hi) (decide (∀ n ∈ xs, lo ≤ n ∧ n ≤ hi)) := allWithin_l lo hi xs hn xs 0 (by omega) rfl
theorem l1In_eq (a lo hi : Int) : spec_l1In.f a lo hi = some (decide (lo ≤ a ∧ a ≤ hi)) := by
 unfold spec_l1In.f
 by_cases h : a ≥ lo
 ·rw [if_pos h]; congr 1; simp [show lo ≤ a from h]
 ·rw [if_neg h]; congr 1; simp; omega
theorem l1All_l (lo hi : Int) (xs : List Int) (hn : xs.length < 4611686018427387904) : ∀ (ys : List Int) (i : Int), 0 ≤ i → xs.drop i.toNat = ys →
  Ev (fun k => spec_l1All.l0 k lo hi xs (xs.length : Int) i) (decide (∀ n ∈ ys, lo ≤ n ∧ n ≤ hi)) := by
 intro ys
 induction ys with
 | nil =>
  intro i h0 h
  have := drop_nil h0 h
  refine Ev.step (fun k => spec_l1All.l0.eq_2 ..) ?_
  exact ev_neg (by omega) (ev_now (by simp))
 | cons y ys ih =>
  intro i h0 h
  obtain ⟨h1, h2, h3, _⟩ := drop_cons h0 h
  refine Ev.step (fun k => spec_l1All.l0.eq_2 ..) ?_
  refine ev_pos h1 (ev_pos h0 (ev_pos h1 ?_))
  rw [h2, w64 (by omega) (by omega)]
  refine ev_some (l1In_eq ..) ?_
  by_cases hy : lo ≤ y ∧ y ≤ hi
  ·exact ev_pos (by simpa using hy) (ev_val (ih _ (by omega) h3) (by simp [hy]))
  ·exact ev_neg (by simpa using hy) (ev_now (by simp [hy]))
theorem l1All_ev (xs : List Int) (lo hi : Int) (hn : xs.length < 4611686018427387904) :
  Ev (fun k => spec_l1All.f k xs lo hi) (decide (∀ n ∈ xs, lo ≤ n ∧ n ≤ hi)) := l1All_l lo hi xs hn xs 0 (by omega) rfl
theorem lnGood_ev (xs : List Int) (hn : xs.length < 4611686018427387904) : Ev (fun k => spec_lnGood.f k xs) (wordsB xs) := by
 unfold spec_lnGood.f wordsB
 refine ev_some (l1In_eq ..) ?_
 by_cases h : 1 ≤ (xs.length : Int) ∧ (xs.length : Int) ≤ 30
 ·refine ev_pos (by simpa using h) (Ev.bind (l1All_ev xs 1 80 hn) (ev_now (by simp [h])))
 ·exact ev_neg (by simpa using h) (ev_now (by simp [h]))
theorem AreWords_ev (xs : List Int) (hn : xs.length < 4611686018427387904) : Ev (fun k => impl_AreWords.f k xs) (wordsB xs) := by
 unfold impl_AreWords.f wordsB
 refine ev_some (within_eq ..) ?_
 by_cases h : 1 ≤ (xs.length : Int) ∧ (xs.length : Int) ≤ 30
 ·refine ev_pos (by simpa using h) (Ev.bind (allWithin_ev xs 1 80 hn) (ev_now (by simp [h])))
 ·exact ev_neg (by simpa using h) (ev_now (by simp [h]))
theorem foldMax_le (w : Int) : ∀ (zs : List Int) (a : Int), zs.foldl max a ≤ w ↔ a ≤ w ∧ ∀ n ∈ zs, n ≤ w
 | [], a => by simp
 | z :: zs, a => by
  rw [List.foldl_cons, foldMax_le w zs (max a z)]
  simp only [List.mem_cons, forall_eq_or_imp]
  constructor
  ·intro h; exact ⟨by omega, by omega, h.2⟩
  ·intro h; exact ⟨by omega, h.2.2⟩
theorem maxOf_le (w : Int) (zs : List Int) (h : 0 < zs.length) : Lib.maxOf zs ≤ w ↔ ∀ n ∈ zs, n ≤ w := by
 unfold Lib.maxOf
 rw [foldMax_le]
 rcases zs with _ | ⟨z, zs⟩
 ·simp at h
 ·simp only [List.headD_cons, List.mem_cons, forall_eq_or_imp]
  constructor
  ·intro q; exact ⟨q.1, q.2.2⟩
  ·intro q; exact ⟨q.1, q.1, q.2⟩
theorem isSetting_ev (xs : List Int) (wide : Int) (hn : xs.length < 4611686018427387904) : Ev (fun k => impl_isSetting.f k xs wide) (settingB xs wide) := by
 unfold impl_isSetting.f settingB
 refine Ev.bind (AreWords_ev xs hn) ?_
 by_cases h : wordsB xs = true
 ·have hw := (wordsB_true h).1
  refine ev_pos h (ev_some (within_eq ..) ?_)
  rw [h, Bool.true_and]
  by_cases h2 : 1 ≤ wide ∧ wide ≤ 80
  ·refine ev_pos (decide_eq_true h2) (ev_some (show slices_Max_int_int.f xs = some (Lib.maxOf xs) from by unfold slices_Max_int_int.f; rw [if_pos (by omega)]) (ev_now ?_))
   rw [decide_eq_true h2, Bool.true_and]
   exact decide_eq_decide.2 (maxOf_le wide xs (by omega))
  ·exact ev_neg (by rw [decide_eq_false h2]; simp) (ev_now (by rw [decide_eq_false h2]; simp))
 ·exact ev_neg h (ev_now (by rw [Bool.eq_false_iff.mpr h]; rfl))
theorem lnNeed_l (xs : List Int) (hn : xs.length ≤ 1000) (hin : ∀ n ∈ xs, 1 ≤ n ∧ n ≤ 80) : ∀ (ys : List Int) (i s : Int), 0 ≤ i → xs.drop i.toNat = ys → -1 ≤ s → s + 80 * ys.length ≤ 1000000 →
  Ev (fun k => spec_lnNeed.l0 k s xs (xs.length : Int) i) (s + ys.sum) := by
 intro ys
 induction ys with
 | nil =>
  intro i s h0 h _ _
  have := drop_nil h0 h
  refine Ev.step (fun k => spec_lnNeed.l0.eq_2 ..) ?_
  exact ev_neg (by omega) (ev_now (by simp))
 | cons y ys ih =>
  intro i s h0 h hs hb
  obtain ⟨h1, h2, h3, _⟩ := drop_cons h0 h
  have hy := hin y (List.mem_of_mem_drop (by rw [h]; exact List.mem_cons_self))
  simp only [List.length_cons] at hb
  refine Ev.step (fun k => spec_lnNeed.l0.eq_2 ..) ?_
  refine ev_pos h1 (ev_pos h0 (ev_pos h1 ?_))
  rw [h2, w64 (x := i + 1) (by omega) (by omega), w64 (by omega) (by omega)]
  exact ev_val (ih (i + 1) (s + y) (by omega) h3 (by omega) (by omega)) (by rw [List.sum_cons]; omega)
theorem lnNeed_ev (xs : List Int) (hn : xs.length ≤ 1000) (hin : ∀ n ∈ xs, 1 ≤ n ∧ n ≤ 80) : Ev (fun k => spec_lnNeed.f k xs) (needL xs) := by
 unfold spec_lnNeed.f needL
 rw [w64 (by omega) (by omega)]
 exact ev_val (lnNeed_l xs hn hin xs 0 ((xs.length : Int) - 1) (by omega) rfl (by omega) (by omega)) (by omega)
theorem lnGood_evF (xs : List Int) (hn : xs.length < 4611686018427387904) : Ev (fun k => spec_lnGood.f k xs) (wordsB xs) := by
 unfold spec_lnGood.f wordsB
 refine ev_some (l1In_eq ..) ?_
 by_cases h : 1 ≤ (xs.length : Int) ∧ (xs.length : Int) ≤ 30
 ·refine ev_pos (by simpa using h) (Ev.bind (l1All_ev xs 1 80 hn) (ev_now (by simp [h])))
 ·exact ev_neg (by simpa using h) (ev_now (by simp [h]))
theorem lnWide_eq (w : Int) : spec_lnWide.f w = some (decide (1 ≤ w ∧ w ≤ 80)) := by
 unfold spec_lnWide.f
 rw [l1In_eq]; rfl
theorem lnFits_ev (xs : List Int) (wide : Int) (hn : xs.length < 4611686018427387904) : Ev (fun k => spec_lnFits.f k xs wide) (settingB xs wide) := by
 unfold spec_lnFits.f settingB
 refine Ev.bind (lnGood_evF xs hn) ?_
 by_cases h : wordsB xs = true
 ·refine ev_pos h (ev_some (lnWide_eq wide) ?_)
  have hw := (wordsB_true h).2
  by_cases h2 : 1 ≤ wide ∧ wide ≤ 80
  ·refine ev_pos (decide_eq_true h2) (Ev.bind (l1All_ev xs 1 wide hn) (ev_now ?_))
   rw [h, decide_eq_true h2]
   simp only [Bool.true_and]
   exact decide_eq_decide.2 ⟨fun hh n hm => (hh n hm).2, fun hh n hm => ⟨(hw n hm).1, hh n hm⟩⟩
  ·exact ev_neg (by rw [decide_eq_false h2]; simp) (ev_now (by rw [decide_eq_false h2]; simp))
 ·exact ev_neg h (ev_now (by rw [Bool.eq_false_iff.mpr h]; rfl))
theorem total_lw (xs : List Int) (hn : xs.length ≤ 1000) (hin : ∀ n ∈ xs, 1 ≤ n ∧ n ≤ 80) : ∀ (ys : List Int) (i s : Int), 0 ≤ i → xs.drop i.toNat = ys → 0 ≤ s → s + 80 * ys.length ≤ 1000000 →
  Ev (fun k => impl_total.l0 k s xs (xs.length : Int) i) (s + ys.sum) := by
 intro ys
 induction ys with
 | nil =>
  intro i s h0 h _ _
  have := drop_nil h0 h
  refine Ev.step (fun k => impl_total.l0.eq_2 ..) ?_
  exact ev_neg (by omega) (ev_now (by simp))
 | cons y ys ih =>
  intro i s h0 h hs hb
  obtain ⟨h1, h2, h3, _⟩ := drop_cons h0 h
  have hy := hin y (List.mem_of_mem_drop (by rw [h]; exact List.mem_cons_self))
  simp only [List.length_cons] at hb
  refine Ev.step (fun k => impl_total.l0.eq_2 ..) ?_
  refine ev_pos h1 (ev_pos h0 (ev_pos h1 ?_))
  rw [h2, w64 (x := i + 1) (by omega) (by omega), w64 (by omega) (by omega)]
  exact ev_val (ih (i + 1) (s + y) (by omega) h3 (by omega) (by omega)) (by rw [List.sum_cons]; omega)
theorem totalW_ev (xs : List Int) (hn : xs.length ≤ 1000) (hin : ∀ n ∈ xs, 1 ≤ n ∧ n ≤ 80) : Ev (fun k => impl_total.f k xs) xs.sum :=
 ev_val (total_lw xs hn hin xs 0 0 (by omega) rfl (by omega) (by omega)) (by omega)
theorem needs_ev (xs : List Int) (hn : xs.length ≤ 1000) (hin : ∀ n ∈ xs, 1 ≤ n ∧ n ≤ 80) : Ev (fun k => impl_needs.f k xs) (needL xs) := by
 have hs := sum_bd xs hin
 unfold impl_needs.f needL
 refine Ev.bind (totalW_ev xs hn hin) (ev_now ?_)
 rw [w64 (x := xs.sum + (xs.length : Int)) (by omega) (by omega), w64 (by omega) (by omega)]
end St
theorem isSetting_go (A0 : Option Addr) (n c0 : Nat) (l0 : List Int) (wide : Int) (r : Bool) (w : World) (hr0 : Kd.C (Kd.int .i64) w A0 n l0) (hc0 : n ≤ c0) (hn : n < 1073741824) (h : settingB l0 wide = r) :
  Calls Tryd.prog 117 #[.slice A0 n c0, .int .i64 wide] w fun e w' => e = .returned (.bool r) ∧ Drawn0 w w' := by
 obtain rfl : l0.length = n := hr0.1
 subst h
 obtain ⟨k, hk⟩ := (St.isSetting_ev l0 wide (by omega)).rounds
 exact impl_isSetting.calls k A0 c0 l0 wide _ w hr0 hc0 hk
theorem lnFits_go (A0 : Option Addr) (n c0 : Nat) (l0 : List Int) (wide : Int) (r : Bool) (w : World) (hr0 : Kd.C (Kd.int .i64) w A0 n l0) (hc0 : n ≤ c0) (hn : n < 1073741824) (h : settingB l0 wide = r) :
  Calls Tryd.prog 119 #[.slice A0 n c0, .int .i64 wide] w fun e w' => e = .returned (.bool r) ∧ Drawn0 w w' := by
 obtain rfl : l0.length = n := hr0.1
 subst h
 obtain ⟨k, hk⟩ := (St.lnFits_ev l0 wide (by omega)).rounds
 exact spec_lnFits.calls k A0 c0 l0 wide _ w hr0 hc0 hk
theorem needs_go (A0 : Option Addr) (n c0 : Nat) (l0 : List Int) (r : Int) (w : World) (hr0 : Kd.C (Kd.int .i64) w A0 n l0) (hc0 : n ≤ c0) (hw : l0.length ≤ 1000 ∧ ∀ n ∈ l0, 1 ≤ n ∧ n ≤ 80) (hr : needL l0 = r) :
  Calls Tryd.prog 124 #[.slice A0 n c0] w fun e w' => e = .returned (.int .i64 r) ∧ Drawn0 w w' := by
 obtain rfl : l0.length = n := hr0.1
 subst hr
 obtain ⟨k, hk⟩ := (St.needs_ev l0 hw.1 hw.2).rounds
 exact impl_needs.calls k A0 c0 l0 _ w hr0 hc0 hk
theorem need_go (A0 : Option Addr) (n c0 : Nat) (l0 : List Int) (r : Int) (w : World) (hr0 : Kd.C (Kd.int .i64) w A0 n l0) (hc0 : n ≤ c0) (hw : l0.length ≤ 1000 ∧ ∀ n ∈ l0, 1 ≤ n ∧ n ≤ 80) (hr : needL l0 = r) :
  Calls Tryd.prog 125 #[.slice A0 n c0] w fun e w' => e = .returned (.int .i64 r) ∧ Drawn0 w w' := by
 obtain rfl : l0.length = n := hr0.1
 subst hr
 obtain ⟨k, hk⟩ := (St.lnNeed_ev l0 hw.1 hw.2).rounds
 exact spec_lnNeed.calls k A0 c0 l0 _ w hr0 hc0 hk
end
end Go.Proofs.YtpedlkhfeoeogaaDoor.Own
