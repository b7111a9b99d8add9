import Derived.Test.YtaodhgpkdchknaaOwnWork
import Derived.Test.YtaodhgpkdchknaaPFnExactRaggedOfx3
namespace Go.Proofs.Ytaodhgpkdchknaa.Own
open Go.RowKit Go.Proofs.YtaodhgpkdchknaaW.PrintWords Go.Proofs.YtaodhgpkdchknaaW.PrintLast Go.Proofs.YtaodhgpkdchknaaW.PrintMore
attribute [local go_sem] max2_int min2_int max_two min_two max_three min_three max_four min_four
set_option linter.unusedVariables false
set_option linter.unusedSimpArgs false
/-- What each line needs. -/
def usedL : List Int → List Int → List Int
  | _, [] => []
  | ws, n :: ns => needL (ws.take n.toNat) :: usedL (ws.drop n.toNat) ns
theorem usedL_length : ∀ (ns ws : List Int), (usedL ws ns).length = ns.length
  | [], _ => rfl
  | n :: ns, ws => by simp [usedL, usedL_length ns]
/-- Lines of words. -/
def linesB (ws ls : List Int) : Bool := wordsB ws && (decide (ls.length ≤ ws.length) && (decide (∀ n ∈ ls, 1 ≤ n ∧ n ≤ (ws.length : Int)) && decide (ls.sum = (ws.length : Int))))
theorem linesB_true {ws ls : List Int} (h : linesB ws ls = true) : wordsB ws = true ∧ ls.length ≤ ws.length ∧ (∀ n ∈ ls, 1 ≤ n ∧ n ≤ (ws.length : Int)) ∧ ls.sum = (ws.length : Int) := by simpa [linesB] using h
theorem linesB_of {ws ls : List Int} (h1 : wordsB ws = true) (h2 : ls.length ≤ ws.length) (h3 : ∀ n ∈ ls, 1 ≤ n ∧ n ≤ (ws.length : Int)) (h4 : ls.sum = (ws.length : Int)) : linesB ws ls = true := by
  unfold linesB
  rw [h1, decide_eq_true h2, decide_eq_true h3, decide_eq_true h4]; rfl
theorem sum_ge : ∀ (ls : List Int), (∀ n ∈ ls, 1 ≤ n) → (ls.length : Int) ≤ ls.sum ∧ ∀ n ∈ ls, n ≤ ls.sum
  | [], _ => by simp
  | x :: xs, h => by
    have h1 := h x List.mem_cons_self
    have ih := sum_ge xs (fun n hn => h n (List.mem_cons_of_mem _ hn))
    rw [List.sum_cons, List.length_cons]
    refine ⟨by omega, fun n hn => ?_⟩
    rcases List.mem_cons.1 hn with rfl | hn
    · have := ih.1; omega
    · have := ih.2 n hn; omega
/-- As the program tests them. -/
theorem linesB_impl (ws ls : List Int) (h : wordsB ws = true) : linesB ws ls = (decide (∀ n ∈ ls, 1 ≤ n ∧ n ≤ 30) && (decide (ls.length ≤ 30) && decide (ls.sum = (ws.length : Int)))) := by
  obtain ⟨⟨w1, w2⟩, _⟩ := wordsB_true h
  cases hb : linesB ws ls with
  | true =>
    obtain ⟨_, b2, b3, b4⟩ := linesB_true hb
    rw [decide_eq_true (fun n hn => ⟨(b3 n hn).1, by have := (b3 n hn).2; omega⟩ : ∀ n ∈ ls, 1 ≤ n ∧ n ≤ 30), decide_eq_true (by omega : ls.length ≤ 30), decide_eq_true b4]; rfl
  | false =>
    symm
    rw [← Bool.not_eq_true]
    intro hc
    simp only [Bool.and_eq_true, decide_eq_true_eq] at hc
    obtain ⟨c1, c2, c3⟩ := hc
    have hs := sum_ge ls (fun n hn => (c1 n hn).1)
    have := linesB_of h (by omega) (fun n hn => ⟨(c1 n hn).1, by have := hs.2 n hn; omega⟩) c3
    rw [this] at hb; cases hb
/-- The cost of lines: the squares of all rests but the last one. -/
def costL (wide : Int) : List Int → Int
  | [] => 0
  | [_] => 0
  | x :: y :: ys => (wide - x) * (wide - x) + costL wide (y :: ys)
def raggedB (ws : List Int) (wide : Int) (ls : List Int) : Bool := linesB ws ls && (decide (1 ≤ wide ∧ wide ≤ 80) && decide (∀ n ∈ usedL ws ls, n ≤ wide))
def raggedM (ws : List Int) (wide : Int) (ls : List Int) : Int := if raggedB ws wide ls = true then costL wide (usedL ws ls) else 0
theorem sq_bd {wide x : Int} (h1 : -1 ≤ x) (h2 : x ≤ wide) (h3 : wide ≤ 80) : 0 ≤ (wide - x) * (wide - x) ∧ (wide - x) * (wide - x) ≤ 6561 := by
  have h4 : 0 ≤ wide - x := by omega
  have h5 : wide - x ≤ 81 := by omega
  exact ⟨Int.mul_nonneg h4 h4, by have := Int.mul_le_mul h5 h5 h4 (by omega : (0:Int) ≤ 81); omega⟩
theorem usedL_ge : ∀ (ls ws : List Int), (∀ n ∈ ws, 1 ≤ n ∧ n ≤ 80) → ws.length ≤ 30 → ∀ n ∈ usedL ws ls, -1 ≤ n ∧ n ≤ 3000
  | [], ws, _, _, n, hn => by simp [usedL] at hn
  | y :: ys, ws, h, hl, n, hn => by
    rw [usedL, List.mem_cons] at hn
    rcases hn with rfl | hn
    · have := sum_bd (ws.take y.toNat) (fun n hn => h n (List.mem_of_mem_take hn))
      have h2 : (ws.take y.toNat).length ≤ 30 := by rw [List.length_take]; omega
      unfold needL; omega
    · exact usedL_ge ys (ws.drop y.toNat) (fun n hn => h n (List.mem_of_mem_drop hn)) (by rw [List.length_drop]; omega) n hn
section
open Go.Proofs.Ytaodhgpkdchknaa.PFnExactRaggedOf
namespace Ra
theorem l1In_eq (a lo hi : Int) : spec_l1In.f a lo hi = some (decide (lo ≤ a ∧ a ≤ hi)) := by
  unfold spec_l1In.f
  by_cases h : a ≥ lo
  · rw [if_pos h]; congr 1; simp [show lo ≤ a from h]
  · rw [if_neg h]; congr 1; simp; omega
theorem l1All_l (lo hi : Int) (xs : List Int) (hn : xs.length < 4611686018427387904) : ∀ (ys : List Int) (i : Int), 0 ≤ i → xs.drop i.toNat = ys →
    Ev (fun k => spec_l1All.l0 k lo hi xs (xs.length : Int) i) (decide (∀ n ∈ ys, lo ≤ n ∧ n ≤ hi)) := by
  intro ys
  induction ys with
  | nil =>
    intro i h0 h
    have := drop_nil h0 h
    refine Ev.step (fun k => spec_l1All.l0.eq_2 ..) ?_
    exact ev_neg (by omega) (ev_now (by simp))
  | cons y ys ih =>
    intro i h0 h
    obtain ⟨h1, h2, h3, _⟩ := drop_cons h0 h
    refine Ev.step (fun k => spec_l1All.l0.eq_2 ..) ?_
    refine ev_pos h1 (ev_pos h0 (ev_pos h1 ?_))
    rw [h2, w64 (by omega) (by omega)]
    refine ev_some (l1In_eq ..) ?_
    by_cases hy : lo ≤ y ∧ y ≤ hi
    · exact ev_pos (by simpa using hy) (ev_val (ih _ (by omega) h3) (by simp [hy]))
    · exact ev_neg (by simpa using hy) (ev_now (by simp [hy]))
theorem l1All_ev (xs : List Int) (lo hi : Int) (hn : xs.length < 4611686018427387904) :
    Ev (fun k => spec_l1All.f k xs lo hi) (decide (∀ n ∈ xs, lo ≤ n ∧ n ≤ hi)) := l1All_l lo hi xs hn xs 0 (by omega) rfl
theorem within_eq (a lo hi : Int) : impl_within.f a lo hi = some (decide (lo ≤ a ∧ a ≤ hi)) := by
  unfold impl_within.f
  by_cases h : a ≥ lo
  · rw [if_pos h]; congr 1; simp [show lo ≤ a from h]
  · rw [if_neg h]; congr 1; simp; omega
theorem allWithin_l (lo hi : Int) (xs : List Int) (hn : xs.length < 4611686018427387904) : ∀ (ys : List Int) (i : Int), 0 ≤ i → xs.drop i.toNat = ys →
    Ev (fun k => impl_allWithin.l0 k lo hi xs (xs.length : Int) i) (decide (∀ n ∈ ys, lo ≤ n ∧ n ≤ hi)) := by
  intro ys
  induction ys with
  | nil =>
    intro i h0 h
    have := drop_nil h0 h
    refine Ev.step (fun k => impl_allWithin.l0.eq_2 ..) ?_
    exact ev_neg (by omega) (ev_now (by simp))
  | cons y ys ih =>
    intro i h0 h
    obtain ⟨h1, h2, h3, _⟩ := drop_cons h0 h
    refine Ev.step (fun k => impl_allWithin.l0.eq_2 ..) ?_
    refine ev_pos h1 (ev_pos h0 (ev_pos h1 ?_))
    rw [h2, w64 (by omega) (by omega)]
    refine ev_some (within_eq ..) ?_
    by_cases hy : lo ≤ y ∧ y ≤ hi
    · exact ev_pos (by simpa using hy) (ev_val (ih _ (by omega) h3) (by simp [hy]))
    · exact ev_neg (by simpa using hy) (ev_now (by simp [hy]))
theorem allWithin_ev (xs : List Int) (lo hi : Int) (hn : xs.length < 4611686018427387904) :
    Ev (fun k => impl_allWithin.f k xs lo hi) (decide (∀ n ∈ xs, lo ≤ n ∧ n ≤ hi)) := allWithin_l lo hi xs hn xs 0 (by omega) rfl
theorem lnGood_ev (xs : List Int) (hn : xs.length < 4611686018427387904) : Ev (fun k => spec_lnGood.f k xs) (wordsB xs) := by
  unfold spec_lnGood.f wordsB
  refine ev_some (l1In_eq ..) ?_
  by_cases h : 1 ≤ (xs.length : Int) ∧ (xs.length : Int) ≤ 30
  · refine ev_pos (by simpa using h) (Ev.bind (l1All_ev xs 1 80 hn) (ev_now (by simp [h])))
  · exact ev_neg (by simpa using h) (ev_now (by simp [h]))
theorem AreWords_ev (xs : List Int) (hn : xs.length < 4611686018427387904) : Ev (fun k => impl_AreWords.f k xs) (wordsB xs) := by
  unfold impl_AreWords.f wordsB
  refine ev_some (within_eq ..) ?_
  by_cases h : 1 ≤ (xs.length : Int) ∧ (xs.length : Int) ≤ 30
  · refine ev_pos (by simpa using h) (Ev.bind (allWithin_ev xs 1 80 hn) (ev_now (by simp [h])))
  · exact ev_neg (by simpa using h) (ev_now (by simp [h]))
theorem lnNeed_l (xs : List Int) (hn : xs.length ≤ 1000) (hin : ∀ n ∈ xs, 1 ≤ n ∧ n ≤ 80) : ∀ (ys : List Int) (i s : Int), 0 ≤ i → xs.drop i.toNat = ys → -1 ≤ s → s + 80 * ys.length ≤ 1000000 →
    Ev (fun k => spec_lnNeed.l0 k s xs (xs.length : Int) i) (s + ys.sum) := by
  intro ys
  induction ys with
  | nil =>
    intro i s h0 h _ _
    have := drop_nil h0 h
    refine Ev.step (fun k => spec_lnNeed.l0.eq_2 ..) ?_
    exact ev_neg (by omega) (ev_now (by simp))
  | cons y ys ih =>
    intro i s h0 h hs hb
    obtain ⟨h1, h2, h3, _⟩ := drop_cons h0 h
    have hy := hin y (List.mem_of_mem_drop (by rw [h]; exact List.mem_cons_self))
    simp only [List.length_cons] at hb
    refine Ev.step (fun k => spec_lnNeed.l0.eq_2 ..) ?_
    refine ev_pos h1 (ev_pos h0 (ev_pos h1 ?_))
    rw [h2, w64 (x := i + 1) (by omega) (by omega), w64 (by omega) (by omega)]
    exact ev_val (ih (i + 1) (s + y) (by omega) h3 (by omega) (by omega)) (by rw [List.sum_cons]; omega)
theorem lnNeed_ev (xs : List Int) (hn : xs.length ≤ 1000) (hin : ∀ n ∈ xs, 1 ≤ n ∧ n ≤ 80) : Ev (fun k => spec_lnNeed.f k xs) (needL xs) := by
  unfold spec_lnNeed.f needL
  rw [w64 (by omega) (by omega)]
  exact ev_val (lnNeed_l xs hn hin xs 0 ((xs.length : Int) - 1) (by omega) rfl (by omega) (by omega)) (by omega)
theorem lnLines_l0 (ws ls : List Int) (hl : ls.length ≤ 30) (hin : ∀ n ∈ ls, 1 ≤ n ∧ n ≤ 30) : ∀ (ys : List Int) (i s : Int), 0 ≤ i → ls.drop i.toNat = ys → 0 ≤ s → s + 30 * ys.length ≤ 100000 →
    Ev (fun k => spec_lnLines.l0 k ws s ls (ls.length : Int) i) (decide (s + ys.sum = (ws.length : Int))) := by
  intro ys
  induction ys with
  | nil =>
    intro i s h0 h _ _
    have := drop_nil h0 h
    refine Ev.step (fun k => spec_lnLines.l0.eq_2 ..) ?_
    refine ev_neg (by omega) (ev_now ?_)
    simp
    rfl
  | cons y ys ih =>
    intro i s h0 h hs hb
    obtain ⟨h1, h2, h3, _⟩ := drop_cons h0 h
    have hy := hin y (List.mem_of_mem_drop (by rw [h]; exact List.mem_cons_self))
    simp only [List.length_cons] at hb
    refine Ev.step (fun k => spec_lnLines.l0.eq_2 ..) ?_
    refine ev_pos h1 (ev_pos h0 (ev_pos h1 ?_))
    rw [h2, w64 (x := i + 1) (by omega) (by omega), w64 (by omega) (by omega)]
    refine ev_val (ih (i + 1) (s + y) (by omega) h3 (by omega) (by omega)) ?_
    rw [List.sum_cons]
    exact decide_eq_decide.2 (by omega)
theorem lnLines_ev (ws ls : List Int) (hn : ws.length ≤ 1048576) (hn2 : ls.length ≤ 1048576) : Ev (fun k => spec_lnLines.f k ws ls) (linesB ws ls) := by
  unfold spec_lnLines.f
  refine Ev.bind (lnGood_ev ws (by omega)) ?_
  have fail : ∀ (_ : linesB ws ls = false), Ev (fun k => spec_lnLines.j0 k ws ls true) (linesB ws ls) := fun hb => by
    rw [hb]
    exact Ev.step (fun k => spec_lnLines.j0.eq_2 ..) (ev_pos rfl (ev_now rfl))
  by_cases h : wordsB ws = true
  · obtain ⟨⟨w1, w2⟩, w3⟩ := wordsB_true h
    refine ev_pos h ?_
    have e : linesB ws ls = (decide (ls.length ≤ ws.length) && (decide (∀ n ∈ ls, 1 ≤ n ∧ n ≤ (ws.length : Int)) && decide (ls.sum = (ws.length : Int)))) := by unfold linesB; rw [h, Bool.true_and]
    by_cases c1 : ls.length ≤ ws.length
    · refine ev_neg (by omega) (Ev.bind (l1All_ev ls 1 (ws.length : Int) (by omega)) ?_)
      rw [decide_eq_true c1, Bool.true_and] at e
      by_cases c2 : ∀ n ∈ ls, 1 ≤ n ∧ n ≤ (ws.length : Int)
      · rw [decide_eq_true c2, Bool.true_and] at e
        rw [decide_eq_true c2]
        refine Ev.step (fun k => spec_lnLines.j0.eq_2 ..) (ev_neg (by simp) ?_)
        exact ev_val (lnLines_l0 ws ls (by omega) (fun n hn => ⟨(c2 n hn).1, by have := (c2 n hn).2; omega⟩) ls 0 0 (by omega) rfl (by omega) (by omega)) (by rw [e]; exact decide_eq_decide.2 (by omega))
      · rw [decide_eq_false c2]
        exact fail (by rw [e, decide_eq_false c2]; rfl)
    · exact ev_pos (by omega) (fail (by rw [e, decide_eq_false c1]; rfl))
  · exact ev_neg h (fail (by cases hb : linesB ws ls with | false => rfl | true => exact absurd (linesB_true hb).1 h))
theorem lnUsed_l0 (ws ls : List Int) (hl : ls.length ≤ 30) (hw : ws.length ≤ 30) (hin : ∀ n ∈ ws, 1 ≤ n ∧ n ≤ 80) : ∀ (ys : List Int) (i at_ : Int) (out : List Int), 0 ≤ i → ls.drop i.toNat = ys → (∀ n ∈ ys, 1 ≤ n) → 0 ≤ at_ → at_ + ys.sum = (ws.length : Int) → out.length + ys.length ≤ 100 →
    Ev (fun k => spec_lnUsed.l0 k ws out at_ ls (ls.length : Int) i) (out ++ usedL (ws.drop at_.toNat) ys) := by
  intro ys
  induction ys with
  | nil =>
    intro i at_ out h0 h _ _ _ _
    have := drop_nil h0 h
    refine Ev.step (fun k => spec_lnUsed.l0.eq_2 ..) ?_
    exact ev_neg (by omega) (ev_now (by simp [usedL]))
  | cons y ys ih =>
    intro i at_ out h0 h hpos ha hsum ho
    obtain ⟨h1, h2, h3, _⟩ := drop_cons h0 h
    have hy := hpos y List.mem_cons_self
    have hpos2 := fun n hn => hpos n (List.mem_cons_of_mem y hn)
    have hs := (sum_ge ys hpos2).1
    rw [List.sum_cons] at hsum
    simp only [List.length_cons] at ho
    refine Ev.step (fun k => spec_lnUsed.l0.eq_2 ..) ?_
    rw [h2, w64 (x := i + 1) (by omega) (by omega), w64 (x := at_ + y) (by omega) (by omega)]
    have e1 : (ws.take (at_ + y).toNat).drop at_.toNat = (ws.drop at_.toNat).take y.toNat := by
      rw [List.drop_take]; congr 1; omega
    have e2 : ws.drop (at_ + y).toNat = (ws.drop at_.toNat).drop y.toNat := by
      rw [List.drop_drop]; congr 1; omega
    rw [e1]
    refine ev_pos h1 (ev_pos h0 (ev_pos h1 (ev_pos (by omega) (ev_pos (by omega) (ev_pos (by omega) (Ev.bind (lnNeed_ev _ ?_ ?_) (ev_pos (by omega) ?_)))))))
    · rw [List.length_take, List.length_drop]; omega
    · exact fun n hn => hin n (List.mem_of_mem_drop (List.mem_of_mem_take hn))
    · refine ev_val (ih (i + 1) (at_ + y) _ (by omega) h3 hpos2 (by omega) (by omega) (by simp; omega)) ?_
      rw [e2]
      simp [usedL]
theorem lnUsed_ev (ws ls : List Int) (h : linesB ws ls = true) : Ev (fun k => spec_lnUsed.f k ws ls) (usedL ws ls) := by
  obtain ⟨b1, b2, b3, b4⟩ := linesB_true h
  obtain ⟨⟨w1, w2⟩, w3⟩ := wordsB_true b1
  exact lnUsed_l0 ws ls (by omega) (by omega) w3 ls 0 0 [] (by omega) rfl (fun n hn => (b3 n hn).1) (by omega) (by omega) (by simp; omega)
theorem ragged_l (wide : Int) (hwd : 1 ≤ wide ∧ wide ≤ 80) (us : List Int) (hu : us.length ≤ 30) (hb : ∀ n ∈ us, -1 ≤ n ∧ n ≤ 3000) : ∀ (ys : List Int) (i s : Int), 0 ≤ i → us.drop i.toNat = ys → 0 ≤ s → s + 6561 * ys.length ≤ 1000000 →
    Ev (fun k => spec_RaggedOf.l0 k wide s us us (us.length : Int) i) (if ∀ n ∈ ys, n ≤ wide then (s + costL wide ys, true) else (0, false)) := by
  intro ys
  induction ys with
  | nil =>
    intro i s h0 h _ _
    have := drop_nil h0 h
    refine Ev.step (fun k => spec_RaggedOf.l0.eq_2 ..) ?_
    exact ev_neg (by omega) (ev_now (by simp [costL]))
  | cons y ys ih =>
    intro i s h0 h hs hbd
    obtain ⟨h1, h2, h3, _⟩ := drop_cons h0 h
    have hy := hb y (List.mem_of_mem_drop (by rw [h]; exact List.mem_cons_self))
    simp only [List.length_cons] at hbd
    refine Ev.step (fun k => spec_RaggedOf.l0.eq_2 ..) ?_
    refine ev_pos h1 (ev_pos h0 (ev_pos h1 ?_))
    rw [h2, w64 (x := i + 1) (by omega) (by omega), w64 (x := (us.length : Int) - 1) (by omega) (by omega), w64 (x := wide - y) (by omega) (by omega)]
    by_cases c : y ≤ wide
    · refine ev_neg (by omega) ?_
      have hq := sq_bd hy.1 c hwd.2
      have hcs : (∀ n ∈ y :: ys, n ≤ wide) ↔ (∀ n ∈ ys, n ≤ wide) := by simp [c]
      rcases hys : ys with _ | ⟨z, zs⟩
      · have hlen := drop_nil (by omega) (h3.trans hys)
        refine ev_neg (by omega) ?_
        refine ev_val (ih (i + 1) s (by omega) h3 hs (by omega)) ?_
        rw [hys]; simp [costL, c]
      · have hl2 := (drop_cons (by omega) (h3.trans hys)).1
        refine ev_pos (by omega) ?_
        rw [w64 (x := (wide - y) * (wide - y)) (by omega) (by omega), w64 (by omega) (by omega)]
        refine ev_val (ih (i + 1) _ (by omega) h3 (by omega) (by omega)) ?_
        rw [← hys]
        have hc : costL wide (y :: ys) = (wide - y) * (wide - y) + costL wide ys := by rw [hys]; rfl
        by_cases d : ∀ n ∈ ys, n ≤ wide
        · rw [if_pos d, if_pos (hcs.2 d), hc]; congr 1; omega
        · rw [if_neg d, if_neg (fun h => d (hcs.1 h))]
    · refine ev_pos (by omega) (ev_now ?_)
      rw [if_neg (by simp [c])]
theorem lnWide_eqR (w : Int) : spec_lnWide.f w = some (decide (1 ≤ w ∧ w ≤ 80)) := by
  unfold spec_lnWide.f
  rw [l1In_eq]; rfl
theorem specRagged_ev (ws : List Int) (wide : Int) (ls : List Int) (hn : ws.length ≤ 1048576) (hn2 : ls.length ≤ 1048576) : Ev (fun k => spec_RaggedOf.f k ws wide ls) (raggedM ws wide ls, raggedB ws wide ls) := by
  unfold spec_RaggedOf.f raggedM
  refine Ev.bind (lnLines_ev ws ls hn hn2) ?_
  by_cases h : linesB ws ls = true
  · refine ev_pos h (ev_some (lnWide_eqR wide) ?_)
    obtain ⟨b1, b2, b3, b4⟩ := linesB_true h
    obtain ⟨⟨w1, w2⟩, w3⟩ := wordsB_true b1
    by_cases h2 : 1 ≤ wide ∧ wide ≤ 80
    · rw [decide_eq_true h2]
      refine Ev.step (fun k => spec_RaggedOf.j0.eq_2 ..) (ev_neg (by simp) (Ev.bind (lnUsed_ev ws ls h) ?_))
      have hul := usedL_length ls ws
      refine ev_val (ragged_l wide h2 (usedL ws ls) (by omega) (usedL_ge ls ws w3 (by omega)) (usedL ws ls) 0 0 (by omega) rfl (by omega) (by omega)) ?_
      by_cases d : ∀ n ∈ usedL ws ls, n ≤ wide
      · have hb : raggedB ws wide ls = true := by unfold raggedB; rw [h, decide_eq_true h2, decide_eq_true d]; rfl
        rw [if_pos hb, hb, if_pos d]; simp
      · have hb : raggedB ws wide ls = false := by unfold raggedB; rw [decide_eq_false d]; simp
        rw [hb, if_neg d]; rfl
    · rw [decide_eq_false h2]
      refine Ev.step (fun k => spec_RaggedOf.j0.eq_2 ..) (ev_pos rfl (ev_now ?_))
      have hb : raggedB ws wide ls = false := by unfold raggedB; rw [decide_eq_false h2]; simp
      rw [hb]; rfl
  · refine ev_neg h (Ev.step (fun k => spec_RaggedOf.j0.eq_2 ..) (ev_pos rfl (ev_now ?_)))
    have hb : raggedB ws wide ls = false := by unfold raggedB; rw [Bool.eq_false_iff.mpr h]; rfl
    rw [hb]; rfl
theorem total_lw (xs : List Int) (hn : xs.length ≤ 1000) (hin : ∀ n ∈ xs, 1 ≤ n ∧ n ≤ 80) : ∀ (ys : List Int) (i s : Int), 0 ≤ i → xs.drop i.toNat = ys → 0 ≤ s → s + 80 * ys.length ≤ 1000000 →
    Ev (fun k => impl_total.l0 k s xs (xs.length : Int) i) (s + ys.sum) := by
  intro ys
  induction ys with
  | nil =>
    intro i s h0 h _ _
    have := drop_nil h0 h
    refine Ev.step (fun k => impl_total.l0.eq_2 ..) ?_
    exact ev_neg (by omega) (ev_now (by simp))
  | cons y ys ih =>
    intro i s h0 h hs hb
    obtain ⟨h1, h2, h3, _⟩ := drop_cons h0 h
    have hy := hin y (List.mem_of_mem_drop (by rw [h]; exact List.mem_cons_self))
    simp only [List.length_cons] at hb
    refine Ev.step (fun k => impl_total.l0.eq_2 ..) ?_
    refine ev_pos h1 (ev_pos h0 (ev_pos h1 ?_))
    rw [h2, w64 (x := i + 1) (by omega) (by omega), w64 (by omega) (by omega)]
    exact ev_val (ih (i + 1) (s + y) (by omega) h3 (by omega) (by omega)) (by rw [List.sum_cons]; omega)
theorem totalW_ev (xs : List Int) (hn : xs.length ≤ 1000) (hin : ∀ n ∈ xs, 1 ≤ n ∧ n ≤ 80) : Ev (fun k => impl_total.f k xs) xs.sum :=
  ev_val (total_lw xs hn hin xs 0 0 (by omega) rfl (by omega) (by omega)) (by omega)
theorem needs_ev (xs : List Int) (hn : xs.length ≤ 1000) (hin : ∀ n ∈ xs, 1 ≤ n ∧ n ≤ 80) : Ev (fun k => impl_needs.f k xs) (needL xs) := by
  have hs := sum_bd xs hin
  unfold impl_needs.f needL
  refine Ev.bind (totalW_ev xs hn hin) (ev_now ?_)
  rw [w64 (x := xs.sum + (xs.length : Int)) (by omega) (by omega), w64 (by omega) (by omega)]
theorem total_30 (xs : List Int) (hn : xs.length ≤ 30) (hin : ∀ n ∈ xs, 1 ≤ n ∧ n ≤ 30) : Ev (fun k => impl_total.f k xs) xs.sum := totalW_ev xs (by omega) (fun n hn => by have := hin n hn; omega)
theorem widths_l0 (ls : List Int) (hl : ls.length ≤ 30) : ∀ (ys : List Int) (i : Int) (ws out : List Int), 0 ≤ i → ls.drop i.toNat = ys → (∀ n ∈ ys, 1 ≤ n) → ys.sum = (ws.length : Int) → ws.length ≤ 30 → (∀ n ∈ ws, 1 ≤ n ∧ n ≤ 80) → out.length + ys.length ≤ 100 →
    Ev (fun k => impl_widths.l0 k ws out ls (ls.length : Int) i) (out ++ usedL ws ys, true) := by
  intro ys
  induction ys with
  | nil =>
    intro i ws out h0 h _ _ _ _ _
    have := drop_nil h0 h
    refine Ev.step (fun k => impl_widths.l0.eq_2 ..) ?_
    exact ev_neg (by omega) (ev_now (by simp [usedL]))
  | cons y ys ih =>
    intro i ws out h0 h hpos hsum hw hin ho
    obtain ⟨h1, h2, h3, _⟩ := drop_cons h0 h
    have hy := hpos y List.mem_cons_self
    have hpos2 := fun n hn => hpos n (List.mem_cons_of_mem y hn)
    have hs := (sum_ge ys hpos2).1
    rw [List.sum_cons] at hsum
    simp only [List.length_cons] at ho
    refine Ev.step (fun k => impl_widths.l0.eq_2 ..) ?_
    rw [h2, w64 (x := i + 1) (by omega) (by omega)]
    refine ev_pos h1 (ev_pos h0 (ev_pos h1 (ev_pos (by omega) (ev_pos (by omega) (Ev.bind (needs_ev (ws.take y.toNat) ?_ ?_) (ev_pos (by omega) ?_))))))
    · rw [List.length_take]; omega
    · exact fun n hn => hin n (List.mem_of_mem_take hn)
    · refine ev_val (ih (i + 1) (ws.drop y.toNat) _ (by omega) h3 hpos2 ?_ ?_ (fun n hn => hin n (List.mem_of_mem_drop hn)) (by simp; omega)) (by simp [usedL])
      · rw [List.length_drop]; omega
      · rw [List.length_drop]; omega
theorem widths_ev (ws ls : List Int) (hn : ws.length ≤ 1048576) (hn2 : ls.length ≤ 1048576) : Ev (fun k => impl_widths.f k ws ls) (if linesB ws ls = true then (usedL ws ls, true) else ([], false)) := by
  unfold impl_widths.f
  refine Ev.bind (AreWords_ev ws (by omega)) ?_
  have fail : ∀ (_ : ¬ linesB ws ls = true), Ev (fun k => impl_widths.j0 k ws ls true) (if linesB ws ls = true then (usedL ws ls, true) else ([], false)) := fun hb => by
    rw [if_neg hb]
    exact Ev.step (fun k => impl_widths.j0.eq_2 ..) (ev_pos rfl (ev_now rfl))
  by_cases h : wordsB ws = true
  · refine ev_pos h ?_
    have e := linesB_impl ws ls h
    obtain ⟨⟨w1, w2⟩, w3⟩ := wordsB_true h
    refine Ev.bind (allWithin_ev ls 1 30 (by omega)) ?_
    by_cases c1 : ∀ n ∈ ls, 1 ≤ n ∧ n ≤ 30
    · refine ev_pos (decide_eq_true c1) ?_
      rw [decide_eq_true c1, Bool.true_and] at e
      by_cases c2 : ls.length ≤ 30
      · rw [decide_eq_true c2, Bool.true_and] at e
        refine ev_neg (by omega) (Ev.bind (total_30 ls c2 c1) ?_)
        by_cases c3 : ls.sum = (ws.length : Int)
        · have hb : linesB ws ls = true := by rw [e, decide_eq_true c3]
          rw [if_pos hb]
          refine Ev.step (fun k => impl_widths.j0.eq_2 ..) (ev_neg (by simp [c3]) ?_)
          exact widths_l0 ls c2 ls 0 ws [] (by omega) rfl (fun n hn => (c1 n hn).1) c3 (by omega) w3 (by simp; omega)
        · have hb : ¬ linesB ws ls = true := by rw [e, decide_eq_false c3]; simp
          have e2 : (ls.sum != (ws.length : Int)) = true := by simpa using c3
          rw [e2]
          exact fail hb
      · exact ev_pos (by omega) (fail (by rw [e, decide_eq_false c2]; simp))
    · exact ev_neg (by rw [decide_eq_false c1]; simp) (fail (by rw [e, decide_eq_false c1]; simp))
  · exact ev_neg h (fail (fun hb => h (linesB_true hb).1))
end Ra
theorem specRagged_go (A0 : Option Addr) (n0 c0 : Nat) (l0 : List Int) (wide : Int) (A1 : Option Addr) (n1 c1 : Nat) (l1 : List Int) (w : World) (hr0 : Kd.C (Kd.int .i64) w A0 n0 l0) (hc0 : n0 ≤ c0) (hr1 : Kd.C (Kd.int .i64) w A1 n1 l1) (hc1 : n1 ≤ c1) (hn : n0 ≤ 1048576) (hn1 : n1 ≤ 1048576) :
    Calls Try.prog 37 #[.slice A0 n0 c0, .int .i64 wide, .slice A1 n1 c1] w fun e w' => e = .returned (.tuple #[.int .i64 (raggedM l0 wide l1), .bool (raggedB l0 wide l1)]) ∧ Below w.heap.size w w' := by
  obtain rfl : l0.length = n0 := hr0.1
  obtain rfl : l1.length = n1 := hr1.1
  obtain ⟨k, hk⟩ := (Ra.specRagged_ev l0 wide l1 hn hn1).rounds
  exact spec_RaggedOf.calls k A0 c0 l0 wide A1 c1 l1 _ _ w hr0 hc0 hr1 hc1 hk
theorem widths_go (A0 : Option Addr) (n0 c0 : Nat) (l0 : List Int) (A1 : Option Addr) (n1 c1 : Nat) (l1 : List Int) (r : List Int) (b : Bool) (w : World) (hr0 : Kd.C (Kd.int .i64) w A0 n0 l0) (hc0 : n0 ≤ c0) (hr1 : Kd.C (Kd.int .i64) w A1 n1 l1) (hc1 : n1 ≤ c1) (hn : n0 ≤ 1048576) (hn1 : n1 ≤ 1048576) (hres : (if linesB l0 l1 = true then (usedL l0 l1, true) else ([], false)) = (r, b)) :
    Calls Try.prog 56 #[.slice A0 n0 c0, .slice A1 n1 c1] w fun e w' => ∃ v : Value, e = .returned (.tuple #[v, .bool b]) ∧ Kd.R (Kd.int .i64) 3 w' w.heap.size (fun _ => True) v r ∧ Below w.heap.size w w' := by
  obtain rfl : l0.length = n0 := hr0.1
  obtain rfl : l1.length = n1 := hr1.1
  have he := Ra.widths_ev l0 l1 hn hn1
  rw [hres] at he
  obtain ⟨k, hk⟩ := he.rounds
  refine (impl_widths.calls k (fun k_ => k_ < w.heap.size) A0 c0 l0 A1 c1 l1 r b w (Kd.V_mk hc0 (Kd.C_F (Kd.heap_int _) hr0)) hr1 hc1 hk).mono ?_
  rintro e w' ⟨v, rfl, h1, h2⟩
  exact ⟨v, rfl, Kd.R_mono h1 (fun _ _ => trivial), h2⟩
end
set_option maxHeartbeats 8000000 in
set_option maxRecDepth 100000 in
theorem implRagged_go (A0 : Option Addr) (n0 c0 : Nat) (l0 : List Int) (wide : Int) (A1 : Option Addr) (n1 c1 : Nat) (l1 : List Int) (w : World) (hr0 : Kd.C (Kd.int .i64) w A0 n0 l0) (hc0 : n0 ≤ c0) (hr1 : Kd.C (Kd.int .i64) w A1 n1 l1) (hc1 : n1 ≤ c1) (hn : n0 ≤ 1048576) (hn1 : n1 ≤ 1048576) :
    Calls Try.prog 38 #[.slice A0 n0 c0, .int .i64 wide, .slice A1 n1 c1] w fun e w' => e = .returned (.tuple #[.int .i64 (raggedM l0 wide l1), .bool (raggedB l0 wide l1)]) ∧ Below w.heap.size w w' := by
  obtain rfl : l0.length = n0 := hr0.1
  obtain rfl : l1.length = n1 := hr1.1
  have HR0 := Aside0.mk hr0
  have HC0 := Aside0.mk hc0
  have HR1 := Aside0.mk hr1
  have HC1 := Aside0.mk hc1
  have HN := Aside0.mk hn
  have HN1 := Aside0.mk hn1
  have HB := Aside0.mk (Below.refl w.heap.size w)
  clear hr0 hc0 hr1 hc1 hn hn1
  by_cases h1 : linesB l0 l1 = true
  · have HRES : Aside0 ((if linesB l0 l1 = true then (usedL l0 l1, true) else ([], false)) = (usedL l0 l1, true)) := ⟨if_pos h1⟩
    obtain ⟨b1, b2, b3, b4⟩ := linesB_true h1
    obtain ⟨⟨w1, w2⟩, w3⟩ := wordsB_true b1
    have hul := usedL_length l1 l0
    have hl1 : 1 ≤ l1.length := by
      rcases Nat.eq_zero_or_pos l1.length with h | h
      · rw [List.length_eq_zero_iff.1 h] at b4; simp at b4; omega
      · exact h
    have HUL : Aside0 (1 ≤ (usedL l0 l1).length ∧ (usedL l0 l1).length ≤ 30) := ⟨by omega⟩
    have hm := maxL_le wide (usedL l0 l1) (by omega)
    have hge := usedL_ge l1 l0 w3 (by omega)
    have HMB : Aside0 (-1 ≤ maxL (usedL l0 l1) ∧ maxL (usedL l0 l1) ≤ 3000) := ⟨hge _ (maxL_mem _ (by omega))⟩
    by_cases h2 : 1 ≤ wide ∧ wide ≤ 80
    · have H2 := Aside0.mk (decide_eq_true h2)
      have h2_ := h2
      by_cases h3 : maxL (usedL l0 l1) ≤ wide
      · have hb : raggedB l0 wide l1 = true := by unfold raggedB; rw [h1, decide_eq_true h2, decide_eq_true (hm.1 h3)]; rfl
        have hM : raggedM l0 wide l1 = costL wide (usedL l0 l1) := by unfold raggedM; rw [if_pos hb]
        rw [hb, hM]
        have HLE := Aside0.mk (hm.1 h3)
        have HGE := Aside0.mk hge
        have hd1 : decide (wide < maxL (usedL l0 l1)) = false := decide_eq_false (by omega)
        clear hb hM hm hge b1 b2 b3 b4 w1 w2 w3 h1
        obtain ⟨us, hus⟩ : ∃ us, usedL l0 l1 = us := ⟨_, rfl⟩
        rw [hus] at HUL HMB h3 hd1 HLE HGE ⊢
        have HRESq : Aside0 ((if linesB l0 l1 = true then (usedL l0 l1, true) else ([], false)) = (us, true)) := ⟨by rw [HRES.out, hus]⟩
        clear HRES
        have HRES := HRESq
        clear HRESq hus
        have hus1 := HUL.out.1
        have hus2 := HUL.out.2
        clear hul hl1
        go_enter Try.func38, Try.ntmps38
        go_wp2_with (first | ((with_reducible refine gate_callee (f := 56) rfl ?_); refine goesL_ (some 16) rfl rfl Try.func56 (by kernel_rfl) rfl #[.slice A0 l0.length c0, .slice A1 l1.length c1] rfl (by (try simp only [List.map_toArray, List.map_cons, List.map_nil]); first | done | rfl) ?_; (with_reducible refine (widths_go _ _ _ l0 _ _ _ l1 _ _ _ ?side1 HC0.out ?side2 HC1.out HN.out HN1.out HRES.out).mono ?_); (case side1 => repeat (first | exact HR0.out | (with_reducible refine Kd.C_alloc ?_ _) | (with_reducible refine Kd.C_drewN ?_ _) | (with_reducible refine Kd.C_drew ?_))); (case side2 => repeat (first | exact HR1.out | (with_reducible refine Kd.C_alloc ?_ _) | (with_reducible refine Kd.C_drewN ?_ _) | (with_reducible refine Kd.C_drew ?_))); rintro e w12 ⟨v12, rfl, ho, hb⟩; refine ⟨_, rfl, ?_⟩; have HBq := Aside0.mk (below_step (by repeat (first | (with_reducible first | exact HB.out | apply below_alloc | apply pw_below_drewN | apply below_drew1) | exact HB.out)) hb); clear HB; have HB := HBq; clear HBq hb; obtain ⟨A12, c12, e12⟩ := Kd.R_slice ho; subst e12; have HC12 := Aside0.mk (Kd.R_reads' ho).2.1; have hcap2 : (us.length : Int) - 1 ≤ (c12 : Int) := (by have := HC12.out; omega); have HU := Aside0.mk (R_C ho); clear ho) | (go_at_call 44; (with_reducible refine (within_go _ _ _ true _ H2.out).mono ?_); rintro e w' ⟨rfl, ⟨nd, rfl⟩⟩) | (go_at_call 59; (with_reducible refine (Max_go _ _ _ us _ ?side3 HC12.out ?side4 ?side5).mono ?_); (case side3 => repeat (first | exact HU.out | (with_reducible refine Kd.C_alloc ?_ _) | (with_reducible refine Kd.C_drewN ?_ _) | (with_reducible refine Kd.C_drew ?_))); (case side4 => (have := HUL.out; omega)); (case side5 => (have := HUL.out; omega)); rintro e w' ⟨rfl, ⟨nd, rfl⟩⟩))
        go_loopg [10, 38] (us.length - 1) (fun kq v10 v38 w' => ∃ x s : Int, v10 = .int .i64 s ∧ v38 = .int .i64 x ∧ Aside0 (0 ≤ x ∧ x + kq = (us.length : Int) - 1 ∧ 0 ≤ s ∧ s ≤ 6561 * x) ∧ Aside0 (s + costL wide (us.drop x.toNat) = costL wide us) ∧ Aside0 (Kd.C (Kd.int .i64) w' A12 us.length us) ∧ Aside0 (Below w.heap.size w w'))
        case atStart => exact ⟨0, 0, rfl, rfl, ⟨by omega, by omega, by omega, by omega⟩, ⟨by simp⟩, ⟨by repeat (first | exact HU.out | (with_reducible refine Kd.C_alloc ?_ _) | (with_reducible refine Kd.C_drewN ?_ _) | (with_reducible refine Kd.C_drew ?_))⟩, ⟨(by repeat (first | (with_reducible first | exact HB.out | apply below_alloc | apply pw_below_drewN | apply below_drew1) | exact HB.out))⟩⟩
        case round =>
          clear HU HB
          obtain ⟨x, s, rfl, rfl, HX, HS, HU, HB⟩ := hrel
          have hx0 := HX.out.1
          have hxk := HX.out.2.1
          have hs0 := HX.out.2.2.1
          have hs1 := HX.out.2.2.2
          rcases hdr : us.drop x.toNat with _ | ⟨y, ys⟩
          · have := drop_nil hx0 hdr
            omega
          · obtain ⟨h1, h2, h3, h4⟩ := drop_cons hx0 hdr
            cases gk with
            | zero =>
              have HE : Aside0 (s = costL wide us) := ⟨by
                have h := HS.out
                have hy0 : ys = [] := by rw [← h3]; exact List.drop_eq_nil_iff.2 (by omega)
                rw [hdr, hy0] at h; simp only [costL] at h; omega⟩
              have hxl : (us.length : Int) - 1 ≤ x := by omega
              clear h2 h3 h4 hdr hxk hs1
              go_wp2
              go_ret2
              exact ⟨ret_ib HE.out rfl, (by repeat (first | (with_reducible first | exact HB.out | apply below_alloc | apply pw_below_drewN | apply below_drew1) | exact HB.out))⟩
            | succ k1 =>
              have hxl : x < (us.length : Int) - 1 := by omega
              obtain ⟨ad, rfl, hc⟩ := Kd.at_int HU.out x hx0 h1
              rw [h2] at hc
              have hym : y ∈ us := List.mem_of_mem_drop (by rw [hdr]; exact List.mem_cons_self)
              have hy1 := (HGE.out y hym).1
              have hy2 := HLE.out y hym
              have hq := sq_bd hy1 hy2 h2_.2
              have HE : Aside0 (s + (wide - y) * (wide - y) + costL wide (us.drop (x + 1).toNat) = costL wide us) := ⟨by
                have h := HS.out
                rcases hys : ys with _ | ⟨z, zs⟩
                · have := drop_nil (by omega) (h3.trans hys); omega
                · rw [hdr, hys] at h; rw [h3, hys]; simp only [costL] at h; omega⟩
              have HXK := Aside0.mk hxk
              clear h2 h3 h4 hdr hxk hym HS
              go_wp2
              go_roundg k1
              case measure => omega
              case rel => exact ⟨x + 1, s + (wide - y) * (wide - y), rfl, rfl, ⟨by omega, by have := HXK.out; omega, by omega, by omega⟩, ⟨HE.out⟩, ⟨by repeat (first | exact HU.out | (with_reducible refine Kd.C_alloc ?_ _) | (with_reducible refine Kd.C_drewN ?_ _) | (with_reducible refine Kd.C_drew ?_))⟩, ⟨(by repeat (first | (with_reducible first | exact HB.out | apply below_alloc | apply pw_below_drewN | apply below_drew1) | exact HB.out))⟩⟩
      · have hb : raggedB l0 wide l1 = false := by unfold raggedB; rw [decide_eq_false (fun h => h3 (hm.2 h))]; simp
        have hM : raggedM l0 wide l1 = 0 := by unfold raggedM; rw [hb]; rfl
        rw [hb, hM]
        have hd1 : decide (wide < maxL (usedL l0 l1)) = true := decide_eq_true (by omega)
        clear hb hM hm hge b1 b2 b3 b4 w1 w2 w3 h1 hul hl1
        go_enter Try.func38, Try.ntmps38
        go_wp2_with (first | ((with_reducible refine gate_callee (f := 56) rfl ?_); refine goesL_ (some 16) rfl rfl Try.func56 (by kernel_rfl) rfl #[.slice A0 l0.length c0, .slice A1 l1.length c1] rfl (by (try simp only [List.map_toArray, List.map_cons, List.map_nil]); first | done | rfl) ?_; (with_reducible refine (widths_go _ _ _ l0 _ _ _ l1 _ _ _ ?side1 HC0.out ?side2 HC1.out HN.out HN1.out HRES.out).mono ?_); (case side1 => repeat (first | exact HR0.out | (with_reducible refine Kd.C_alloc ?_ _) | (with_reducible refine Kd.C_drewN ?_ _) | (with_reducible refine Kd.C_drew ?_))); (case side2 => repeat (first | exact HR1.out | (with_reducible refine Kd.C_alloc ?_ _) | (with_reducible refine Kd.C_drewN ?_ _) | (with_reducible refine Kd.C_drew ?_))); rintro e w12 ⟨v12, rfl, ho, hb⟩; refine ⟨_, rfl, ?_⟩; have HBq := Aside0.mk (below_step (by repeat (first | (with_reducible first | exact HB.out | apply below_alloc | apply pw_below_drewN | apply below_drew1) | exact HB.out)) hb); clear HB; have HB := HBq; clear HBq hb; obtain ⟨A12, c12, e12⟩ := Kd.R_slice ho; subst e12; have HC12 := Aside0.mk (Kd.R_reads' ho).2.1; have HU := Aside0.mk (R_C ho); clear ho) | (go_at_call 44; (with_reducible refine (within_go _ _ _ true _ H2.out).mono ?_); rintro e w' ⟨rfl, ⟨nd, rfl⟩⟩) | (go_at_call 59; (with_reducible refine (Max_go _ _ _ (usedL l0 l1) _ ?side3 HC12.out ?side4 ?side5).mono ?_); (case side3 => repeat (first | exact HU.out | (with_reducible refine Kd.C_alloc ?_ _) | (with_reducible refine Kd.C_drewN ?_ _) | (with_reducible refine Kd.C_drew ?_))); (case side4 => (have := HUL.out; omega)); (case side5 => (have := HUL.out; omega)); rintro e w' ⟨rfl, ⟨nd, rfl⟩⟩))
        go_ret2
        exact ⟨rfl, (by repeat (first | (with_reducible first | exact HB.out | apply below_alloc | apply pw_below_drewN | apply below_drew1) | exact HB.out))⟩
    · have H2 := Aside0.mk (decide_eq_false h2)
      have hb : raggedB l0 wide l1 = false := by unfold raggedB; rw [decide_eq_false h2]; simp
      have hM : raggedM l0 wide l1 = 0 := by unfold raggedM; rw [hb]; rfl
      rw [hb, hM]
      clear hb hM hm hge b1 b2 b3 b4 w1 w2 w3 h1 h2 hul hl1
      go_enter Try.func38, Try.ntmps38
      go_wp2_with (first | ((with_reducible refine gate_callee (f := 56) rfl ?_); refine goesL_ (some 16) rfl rfl Try.func56 (by kernel_rfl) rfl #[.slice A0 l0.length c0, .slice A1 l1.length c1] rfl (by (try simp only [List.map_toArray, List.map_cons, List.map_nil]); first | done | rfl) ?_; (with_reducible refine (widths_go _ _ _ l0 _ _ _ l1 _ _ _ ?side1 HC0.out ?side2 HC1.out HN.out HN1.out HRES.out).mono ?_); (case side1 => repeat (first | exact HR0.out | (with_reducible refine Kd.C_alloc ?_ _) | (with_reducible refine Kd.C_drewN ?_ _) | (with_reducible refine Kd.C_drew ?_))); (case side2 => repeat (first | exact HR1.out | (with_reducible refine Kd.C_alloc ?_ _) | (with_reducible refine Kd.C_drewN ?_ _) | (with_reducible refine Kd.C_drew ?_))); rintro e w12 ⟨v12, rfl, ho, hb⟩; refine ⟨_, rfl, ?_⟩; have HBq := Aside0.mk (below_step (by repeat (first | (with_reducible first | exact HB.out | apply below_alloc | apply pw_below_drewN | apply below_drew1) | exact HB.out)) hb); clear HB; have HB := HBq; clear HBq hb; obtain ⟨A12, c12, e12⟩ := Kd.R_slice ho; subst e12; have HC12 := Aside0.mk (Kd.R_reads' ho).2.1; have HU := Aside0.mk (R_C ho); clear ho) | (go_at_call 44; (with_reducible refine (within_go _ _ _ false _ H2.out).mono ?_); rintro e w' ⟨rfl, ⟨nd, rfl⟩⟩))
      go_ret2
      exact ⟨rfl, (by repeat (first | (with_reducible first | exact HB.out | apply below_alloc | apply pw_below_drewN | apply below_drew1) | exact HB.out))⟩
  · have HRES : Aside0 ((if linesB l0 l1 = true then (usedL l0 l1, true) else ([], false)) = ([], false)) := ⟨if_neg h1⟩
    have hb : raggedB l0 wide l1 = false := by unfold raggedB; rw [Bool.eq_false_iff.mpr h1]; rfl
    have hM : raggedM l0 wide l1 = 0 := by unfold raggedM; rw [hb]; rfl
    rw [hb, hM]
    clear hb hM h1
    go_enter Try.func38, Try.ntmps38
    go_wp2_with (first | ((with_reducible refine gate_callee (f := 56) rfl ?_); refine goesL_ (some 16) rfl rfl Try.func56 (by kernel_rfl) rfl #[.slice A0 l0.length c0, .slice A1 l1.length c1] rfl (by (try simp only [List.map_toArray, List.map_cons, List.map_nil]); first | done | rfl) ?_; (with_reducible refine (widths_go _ _ _ l0 _ _ _ l1 _ _ _ ?side1 HC0.out ?side2 HC1.out HN.out HN1.out HRES.out).mono ?_); (case side1 => repeat (first | exact HR0.out | (with_reducible refine Kd.C_alloc ?_ _) | (with_reducible refine Kd.C_drewN ?_ _) | (with_reducible refine Kd.C_drew ?_))); (case side2 => repeat (first | exact HR1.out | (with_reducible refine Kd.C_alloc ?_ _) | (with_reducible refine Kd.C_drewN ?_ _) | (with_reducible refine Kd.C_drew ?_))); rintro e w12 ⟨v12, rfl, ho, hb⟩; refine ⟨_, rfl, ?_⟩; have HBq := Aside0.mk (below_step (by repeat (first | (with_reducible first | exact HB.out | apply below_alloc | apply pw_below_drewN | apply below_drew1) | exact HB.out)) hb); clear HB; have HB := HBq; clear HBq hb; obtain ⟨A12, c12, e12⟩ := Kd.R_slice ho; subst e12; have HC12 := Aside0.mk (Kd.R_reads' ho).2.1; have HU := Aside0.mk (R_C ho); clear ho))
    go_ret2
    exact ⟨rfl, (by repeat (first | (with_reducible first | exact HB.out | apply below_alloc | apply pw_below_drewN | apply below_drew1) | exact HB.out))⟩
end Go.Proofs.Ytaodhgpkdchknaa.Own
