/- The law FnExactWidthsUsed holds for every two lists of numbers: program and reference tell the same widths of lines. No condition. -/
import Derived.Test.YtaodhgpkdchknaaPFnExactWidthsUsedx4
namespace Go.Proofs.Ytaodhgpkdchknaa.Pure
open Go.RowKit Go.Proofs.Ytaodhgpkdchknaa.PFnExactWidthsUsed Go.Proofs.YtaodhgpkdchknaaW.PrintWords Go.Proofs.YtaodhgpkdchknaaW.PrintLast

theorem w64 {x : Int} (h1 : -9223372036854775808 ≤ x) (h2 : x ≤ 9223372036854775807) : wrap64 x = x := by
  unfold wrap64; omega
theorem ev_pos {α : Type} {c : Prop} [Decidable c] {f g : Nat → Option α} {r : α} (hc : c) (h : Ev f r) : Ev (fun k => if c then f k else g k) r := by
  simpa only [if_pos hc] using h
theorem ev_neg {α : Type} {c : Prop} [Decidable c] {f g : Nat → Option α} {r : α} (hc : ¬ c) (h : Ev g r) : Ev (fun k => if c then f k else g k) r := by
  simpa only [if_neg hc] using h
theorem ev_now {α : Type} {r s : α} (h : r = s) : Ev (fun _ => some r) s := h ▸ Ev.now r
theorem ev_some {α β : Type} {x : Option α} {f : Nat → α → Option β} {a : α} {r : β} (h : x = some a) (k : Ev (fun n => f n a) r) : Ev (fun n => x.bind (f n)) r := by
  subst h; exact k
theorem ev_val {α : Type} {g : Nat → Option α} {a b : α} (h : Ev g a) (e : a = b) : Ev g b := e ▸ h
theorem ev_suc {α : Type} {g : Nat → Option α} {r : α} (h : Ev (fun k => g (k + 1)) r) : Ev g r := Ev.step (fun _ => rfl) h
theorem drop_nil {α : Type} {xs : List α} {i : Int} (h0 : 0 ≤ i) (h : xs.drop i.toNat = []) : (xs.length : Int) ≤ i := by
  have := List.drop_eq_nil_iff.1 h
  omega
theorem drop_get {α : Type} {xs : List α} {i : Int} {y : α} {ys : List α} (h0 : 0 ≤ i) (h : xs.drop i.toNat = y :: ys) : i < (xs.length : Int) ∧ (∀ d, xs.getD i.toNat d = y) ∧ xs.drop (i + 1).toNat = ys ∧ xs.take (i + 1).toNat = xs.take i.toNat ++ [y] := by
  have hl : i.toNat < xs.length := by
    rcases Nat.lt_or_ge i.toNat xs.length with hl | hl
    · exact hl
    · rw [List.drop_eq_nil_iff.2 hl] at h; cases h
  have e := List.drop_eq_getElem_cons hl
  rw [h] at e
  injection e with e1 e2
  have h1 : (i + 1).toNat = i.toNat + 1 := by omega
  refine ⟨by omega, fun d => ?_, ?_, ?_⟩
  · rw [List.getD_eq_getElem?_getD, List.getElem?_eq_getElem hl, e1]; rfl
  · rw [h1]; exact e2.symm
  · rw [h1, List.take_add_one, List.getElem?_eq_getElem hl, e1]; rfl
theorem drop_cons {xs : List Int} {i : Int} {y : Int} {ys : List Int} (h0 : 0 ≤ i) (h : xs.drop i.toNat = y :: ys) : i < (xs.length : Int) ∧ rd xs i = y ∧ xs.drop (i + 1).toNat = ys ∧ xs.take (i + 1).toNat = xs.take i.toNat ++ [y] := by
  obtain ⟨h1, h2, h3⟩ := drop_get h0 h
  exact ⟨h1, h2 0, h3⟩

def wordsB (xs : List Int) : Bool := decide (1 ≤ (xs.length : Int) ∧ (xs.length : Int) ≤ 30) && decide (∀ n ∈ xs, 1 ≤ n ∧ n ≤ 80)
theorem wordsB_true {xs : List Int} (h : wordsB xs = true) : (1 ≤ (xs.length : Int) ∧ (xs.length : Int) ≤ 30) ∧ ∀ n ∈ xs, 1 ≤ n ∧ n ≤ 80 := by simpa [wordsB] using h
/-- What a line of words needs. -/
def needL (xs : List Int) : Int := xs.sum + xs.length - 1
theorem sum_bd : ∀ (xs : List Int), (∀ n ∈ xs, 1 ≤ n ∧ n ≤ 80) → (xs.length : Int) ≤ xs.sum ∧ xs.sum ≤ 80 * xs.length
  | [], _ => by simp
  | x :: xs, h => by
    have h1 := h x List.mem_cons_self
    have ih := sum_bd xs (fun n hn => h n (List.mem_cons_of_mem _ hn))
    rw [List.sum_cons, List.length_cons]; omega

/-- What each line needs. -/
def usedL : List Int → List Int → List Int
  | _, [] => []
  | ws, n :: ns => needL (ws.take n.toNat) :: usedL (ws.drop n.toNat) ns
theorem usedL_length : ∀ (ns ws : List Int), (usedL ws ns).length = ns.length
  | [], _ => rfl
  | n :: ns, ws => by simp [usedL, usedL_length ns]
/-- Lines of words. -/
def linesB (ws ls : List Int) : Bool := wordsB ws && (decide (ls.length ≤ ws.length) && (decide (∀ n ∈ ls, 1 ≤ n ∧ n ≤ (ws.length : Int)) && decide (ls.sum = (ws.length : Int))))
theorem linesB_true {ws ls : List Int} (h : linesB ws ls = true) : wordsB ws = true ∧ ls.length ≤ ws.length ∧ (∀ n ∈ ls, 1 ≤ n ∧ n ≤ (ws.length : Int)) ∧ ls.sum = (ws.length : Int) := by simpa [linesB] using h
theorem linesB_of {ws ls : List Int} (h1 : wordsB ws = true) (h2 : ls.length ≤ ws.length) (h3 : ∀ n ∈ ls, 1 ≤ n ∧ n ≤ (ws.length : Int)) (h4 : ls.sum = (ws.length : Int)) : linesB ws ls = true := by
  unfold linesB
  rw [h1, decide_eq_true h2, decide_eq_true h3, decide_eq_true h4]; rfl
theorem sum_ge : ∀ (ls : List Int), (∀ n ∈ ls, 1 ≤ n) → (ls.length : Int) ≤ ls.sum ∧ ∀ n ∈ ls, n ≤ ls.sum
  | [], _ => by simp
  | x :: xs, h => by
    have h1 := h x List.mem_cons_self
    have ih := sum_ge xs (fun n hn => h n (List.mem_cons_of_mem _ hn))
    rw [List.sum_cons, List.length_cons]
    refine ⟨by omega, fun n hn => ?_⟩
    rcases List.mem_cons.1 hn with rfl | hn
    · have := ih.1; omega
    · have := ih.2 n hn; omega
/-- As the program tests them. -/
theorem linesB_impl (ws ls : List Int) (h : wordsB ws = true) : linesB ws ls = (decide (∀ n ∈ ls, 1 ≤ n ∧ n ≤ 30) && (decide (ls.length ≤ 30) && decide (ls.sum = (ws.length : Int)))) := by
  obtain ⟨⟨w1, w2⟩, _⟩ := wordsB_true h
  cases hb : linesB ws ls with
  | true =>
    obtain ⟨_, b2, b3, b4⟩ := linesB_true hb
    rw [decide_eq_true (fun n hn => ⟨(b3 n hn).1, by have := (b3 n hn).2; omega⟩ : ∀ n ∈ ls, 1 ≤ n ∧ n ≤ 30), decide_eq_true (by omega : ls.length ≤ 30), decide_eq_true b4]; rfl
  | false =>
    symm
    rw [← Bool.not_eq_true]
    intro hc
    simp only [Bool.and_eq_true, decide_eq_true_eq] at hc
    obtain ⟨c1, c2, c3⟩ := hc
    have hs := sum_ge ls (fun n hn => (c1 n hn).1)
    have := linesB_of h (by omega) (fun n hn => ⟨(c1 n hn).1, by have := hs.2 n hn; omega⟩) c3
    rw [this] at hb; cases hb

theorem l1In_eq (a lo hi : Int) : spec_l1In.f a lo hi = some (decide (lo ≤ a ∧ a ≤ hi)) := by
  unfold spec_l1In.f
  by_cases h : a ≥ lo
  · rw [if_pos h]; congr 1; simp [show lo ≤ a from h]
  · rw [if_neg h]; congr 1; simp; omega

theorem l1All_l (lo hi : Int) (xs : List Int) (hn : xs.length < 4611686018427387904) : ∀ (ys : List Int) (i : Int), 0 ≤ i → xs.drop i.toNat = ys →
    Ev (fun k => spec_l1All.l0 k lo hi xs (xs.length : Int) i) (decide (∀ n ∈ ys, lo ≤ n ∧ n ≤ hi)) := by
  intro ys
  induction ys with
  | nil =>
    intro i h0 h
    have := drop_nil h0 h
    refine Ev.step (fun k => spec_l1All.l0.eq_2 ..) ?_
    exact ev_neg (by omega) (ev_now (by simp))
  | cons y ys ih =>
    intro i h0 h
    obtain ⟨h1, h2, h3, _⟩ := drop_cons h0 h
    refine Ev.step (fun k => spec_l1All.l0.eq_2 ..) ?_
    refine ev_pos h1 (ev_pos h0 (ev_pos h1 ?_))
    rw [h2, w64 (by omega) (by omega)]
    refine ev_some (l1In_eq ..) ?_
    by_cases hy : lo ≤ y ∧ y ≤ hi
    · exact ev_pos (by simpa using hy) (ev_val (ih _ (by omega) h3) (by simp [hy]))
    · exact ev_neg (by simpa using hy) (ev_now (by simp [hy]))
theorem l1All_ev (xs : List Int) (lo hi : Int) (hn : xs.length < 4611686018427387904) :
    Ev (fun k => spec_l1All.f k xs lo hi) (decide (∀ n ∈ xs, lo ≤ n ∧ n ≤ hi)) := l1All_l lo hi xs hn xs 0 (by omega) rfl

theorem within_eq (a lo hi : Int) : impl_within.f a lo hi = some (decide (lo ≤ a ∧ a ≤ hi)) := by
  unfold impl_within.f
  by_cases h : a ≥ lo
  · rw [if_pos h]; congr 1; simp [show lo ≤ a from h]
  · rw [if_neg h]; congr 1; simp; omega

theorem allWithin_l (lo hi : Int) (xs : List Int) (hn : xs.length < 4611686018427387904) : ∀ (ys : List Int) (i : Int), 0 ≤ i → xs.drop i.toNat = ys →
    Ev (fun k => impl_allWithin.l0 k lo hi xs (xs.length : Int) i) (decide (∀ n ∈ ys, lo ≤ n ∧ n ≤ hi)) := by
  intro ys
  induction ys with
  | nil =>
    intro i h0 h
    have := drop_nil h0 h
    refine Ev.step (fun k => impl_allWithin.l0.eq_2 ..) ?_
    exact ev_neg (by omega) (ev_now (by simp))
  | cons y ys ih =>
    intro i h0 h
    obtain ⟨h1, h2, h3, _⟩ := drop_cons h0 h
    refine Ev.step (fun k => impl_allWithin.l0.eq_2 ..) ?_
    refine ev_pos h1 (ev_pos h0 (ev_pos h1 ?_))
    rw [h2, w64 (by omega) (by omega)]
    refine ev_some (within_eq ..) ?_
    by_cases hy : lo ≤ y ∧ y ≤ hi
    · exact ev_pos (by simpa using hy) (ev_val (ih _ (by omega) h3) (by simp [hy]))
    · exact ev_neg (by simpa using hy) (ev_now (by simp [hy]))
theorem allWithin_ev (xs : List Int) (lo hi : Int) (hn : xs.length < 4611686018427387904) :
    Ev (fun k => impl_allWithin.f k xs lo hi) (decide (∀ n ∈ xs, lo ≤ n ∧ n ≤ hi)) := allWithin_l lo hi xs hn xs 0 (by omega) rfl

theorem lnGood_ev (xs : List Int) (hn : xs.length < 4611686018427387904) : Ev (fun k => spec_lnGood.f k xs) (wordsB xs) := by
  unfold spec_lnGood.f wordsB
  refine ev_some (l1In_eq ..) ?_
  by_cases h : 1 ≤ (xs.length : Int) ∧ (xs.length : Int) ≤ 30
  · refine ev_pos (by simpa using h) (Ev.bind (l1All_ev xs 1 80 hn) (ev_now (by simp [h])))
  · exact ev_neg (by simpa using h) (ev_now (by simp [h]))
theorem AreWords_ev (xs : List Int) (hn : xs.length < 4611686018427387904) : Ev (fun k => impl_AreWords.f k xs) (wordsB xs) := by
  unfold impl_AreWords.f wordsB
  refine ev_some (within_eq ..) ?_
  by_cases h : 1 ≤ (xs.length : Int) ∧ (xs.length : Int) ≤ 30
  · refine ev_pos (by simpa using h) (Ev.bind (allWithin_ev xs 1 80 hn) (ev_now (by simp [h])))
  · exact ev_neg (by simpa using h) (ev_now (by simp [h]))

theorem total_lw (xs : List Int) (hn : xs.length ≤ 1000) (hin : ∀ n ∈ xs, 1 ≤ n ∧ n ≤ 80) : ∀ (ys : List Int) (i s : Int), 0 ≤ i → xs.drop i.toNat = ys → 0 ≤ s → s + 80 * ys.length ≤ 1000000 →
    Ev (fun k => impl_total.l0 k s xs (xs.length : Int) i) (s + ys.sum) := by
  intro ys
  induction ys with
  | nil =>
    intro i s h0 h _ _
    have := drop_nil h0 h
    refine Ev.step (fun k => impl_total.l0.eq_2 ..) ?_
    exact ev_neg (by omega) (ev_now (by simp))
  | cons y ys ih =>
    intro i s h0 h hs hb
    obtain ⟨h1, h2, h3, _⟩ := drop_cons h0 h
    have hy := hin y (List.mem_of_mem_drop (by rw [h]; exact List.mem_cons_self))
    simp only [List.length_cons] at hb
    refine Ev.step (fun k => impl_total.l0.eq_2 ..) ?_
    refine ev_pos h1 (ev_pos h0 (ev_pos h1 ?_))
    rw [h2, w64 (x := i + 1) (by omega) (by omega), w64 (by omega) (by omega)]
    exact ev_val (ih (i + 1) (s + y) (by omega) h3 (by omega) (by omega)) (by rw [List.sum_cons]; omega)
theorem totalW_ev (xs : List Int) (hn : xs.length ≤ 1000) (hin : ∀ n ∈ xs, 1 ≤ n ∧ n ≤ 80) : Ev (fun k => impl_total.f k xs) xs.sum :=
  ev_val (total_lw xs hn hin xs 0 0 (by omega) rfl (by omega) (by omega)) (by omega)
theorem needs_ev (xs : List Int) (hn : xs.length ≤ 1000) (hin : ∀ n ∈ xs, 1 ≤ n ∧ n ≤ 80) : Ev (fun k => impl_needs.f k xs) (needL xs) := by
  have hs := sum_bd xs hin
  unfold impl_needs.f needL
  refine Ev.bind (totalW_ev xs hn hin) (ev_now ?_)
  rw [w64 (x := xs.sum + (xs.length : Int)) (by omega) (by omega), w64 (by omega) (by omega)]

theorem total_30 (xs : List Int) (hn : xs.length ≤ 30) (hin : ∀ n ∈ xs, 1 ≤ n ∧ n ≤ 30) : Ev (fun k => impl_total.f k xs) xs.sum := totalW_ev xs (by omega) (fun n hn => by have := hin n hn; omega)
theorem widths_l0 (ls : List Int) (hl : ls.length ≤ 30) : ∀ (ys : List Int) (i : Int) (ws out : List Int), 0 ≤ i → ls.drop i.toNat = ys → (∀ n ∈ ys, 1 ≤ n) → ys.sum = (ws.length : Int) → ws.length ≤ 30 → (∀ n ∈ ws, 1 ≤ n ∧ n ≤ 80) → out.length + ys.length ≤ 100 →
    Ev (fun k => impl_widths.l0 k ws out ls (ls.length : Int) i) (out ++ usedL ws ys, true) := by
  intro ys
  induction ys with
  | nil =>
    intro i ws out h0 h _ _ _ _ _
    have := drop_nil h0 h
    refine Ev.step (fun k => impl_widths.l0.eq_2 ..) ?_
    exact ev_neg (by omega) (ev_now (by simp [usedL]))
  | cons y ys ih =>
    intro i ws out h0 h hpos hsum hw hin ho
    obtain ⟨h1, h2, h3, _⟩ := drop_cons h0 h
    have hy := hpos y List.mem_cons_self
    have hpos2 := fun n hn => hpos n (List.mem_cons_of_mem y hn)
    have hs := (sum_ge ys hpos2).1
    rw [List.sum_cons] at hsum
    simp only [List.length_cons] at ho
    refine Ev.step (fun k => impl_widths.l0.eq_2 ..) ?_
    rw [h2, w64 (x := i + 1) (by omega) (by omega)]
    refine ev_pos h1 (ev_pos h0 (ev_pos h1 (ev_pos (by omega) (ev_pos (by omega) (Ev.bind (needs_ev (ws.take y.toNat) ?_ ?_) (ev_pos (by omega) ?_))))))
    · rw [List.length_take]; omega
    · exact fun n hn => hin n (List.mem_of_mem_take hn)
    · refine ev_val (ih (i + 1) (ws.drop y.toNat) _ (by omega) h3 hpos2 ?_ ?_ (fun n hn => hin n (List.mem_of_mem_drop hn)) (by simp; omega)) (by simp [usedL])
      · rw [List.length_drop]; omega
      · rw [List.length_drop]; omega
theorem widths_ev (ws ls : List Int) (hn : ws.length ≤ 1048576) (hn2 : ls.length ≤ 1048576) : Ev (fun k => impl_widths.f k ws ls) (if linesB ws ls = true then (usedL ws ls, true) else ([], false)) := by
  unfold impl_widths.f
  refine Ev.bind (AreWords_ev ws (by omega)) ?_
  have fail : ∀ (_ : ¬ linesB ws ls = true), Ev (fun k => impl_widths.j0 k ws ls true) (if linesB ws ls = true then (usedL ws ls, true) else ([], false)) := fun hb => by
    rw [if_neg hb]
    exact Ev.step (fun k => impl_widths.j0.eq_2 ..) (ev_pos rfl (ev_now rfl))
  by_cases h : wordsB ws = true
  · refine ev_pos h ?_
    have e := linesB_impl ws ls h
    obtain ⟨⟨w1, w2⟩, w3⟩ := wordsB_true h
    refine Ev.bind (allWithin_ev ls 1 30 (by omega)) ?_
    by_cases c1 : ∀ n ∈ ls, 1 ≤ n ∧ n ≤ 30
    · refine ev_pos (decide_eq_true c1) ?_
      rw [decide_eq_true c1, Bool.true_and] at e
      by_cases c2 : ls.length ≤ 30
      · rw [decide_eq_true c2, Bool.true_and] at e
        refine ev_neg (by omega) (Ev.bind (total_30 ls c2 c1) ?_)
        by_cases c3 : ls.sum = (ws.length : Int)
        · have hb : linesB ws ls = true := by rw [e, decide_eq_true c3]
          rw [if_pos hb]
          refine Ev.step (fun k => impl_widths.j0.eq_2 ..) (ev_neg (by simp [c3]) ?_)
          exact widths_l0 ls c2 ls 0 ws [] (by omega) rfl (fun n hn => (c1 n hn).1) c3 (by omega) w3 (by simp; omega)
        · have hb : ¬ linesB ws ls = true := by rw [e, decide_eq_false c3]; simp
          have e2 : (ls.sum != (ws.length : Int)) = true := by simpa using c3
          rw [e2]
          exact fail hb
      · exact ev_pos (by omega) (fail (by rw [e, decide_eq_false c2]; simp))
    · exact ev_neg (by rw [decide_eq_false c1]; simp) (fail (by rw [e, decide_eq_false c1]; simp))
  · exact ev_neg h (fail (fun hb => h (linesB_true hb).1))

theorem lnNeed_l (xs : List Int) (hn : xs.length ≤ 1000) (hin : ∀ n ∈ xs, 1 ≤ n ∧ n ≤ 80) : ∀ (ys : List Int) (i s : Int), 0 ≤ i → xs.drop i.toNat = ys → -1 ≤ s → s + 80 * ys.length ≤ 1000000 →
    Ev (fun k => spec_lnNeed.l0 k s xs (xs.length : Int) i) (s + ys.sum) := by
  intro ys
  induction ys with
  | nil =>
    intro i s h0 h _ _
    have := drop_nil h0 h
    refine Ev.step (fun k => spec_lnNeed.l0.eq_2 ..) ?_
    exact ev_neg (by omega) (ev_now (by simp))
  | cons y ys ih =>
    intro i s h0 h hs hb
    obtain ⟨h1, h2, h3, _⟩ := drop_cons h0 h
    have hy := hin y (List.mem_of_mem_drop (by rw [h]; exact List.mem_cons_self))
    simp only [List.length_cons] at hb
    refine Ev.step (fun k => spec_lnNeed.l0.eq_2 ..) ?_
    refine ev_pos h1 (ev_pos h0 (ev_pos h1 ?_))
    rw [h2, w64 (x := i + 1) (by omega) (by omega), w64 (by omega) (by omega)]
    exact ev_val (ih (i + 1) (s + y) (by omega) h3 (by omega) (by omega)) (by rw [List.sum_cons]; omega)
theorem lnNeed_ev (xs : List Int) (hn : xs.length ≤ 1000) (hin : ∀ n ∈ xs, 1 ≤ n ∧ n ≤ 80) : Ev (fun k => spec_lnNeed.f k xs) (needL xs) := by
  unfold spec_lnNeed.f needL
  rw [w64 (by omega) (by omega)]
  exact ev_val (lnNeed_l xs hn hin xs 0 ((xs.length : Int) - 1) (by omega) rfl (by omega) (by omega)) (by omega)

theorem lnLines_l0 (ws ls : List Int) (hl : ls.length ≤ 30) (hin : ∀ n ∈ ls, 1 ≤ n ∧ n ≤ 30) : ∀ (ys : List Int) (i s : Int), 0 ≤ i → ls.drop i.toNat = ys → 0 ≤ s → s + 30 * ys.length ≤ 100000 →
    Ev (fun k => spec_lnLines.l0 k ws s ls (ls.length : Int) i) (decide (s + ys.sum = (ws.length : Int))) := by
  intro ys
  induction ys with
  | nil =>
    intro i s h0 h _ _
    have := drop_nil h0 h
    refine Ev.step (fun k => spec_lnLines.l0.eq_2 ..) ?_
    refine ev_neg (by omega) (ev_now ?_)
    simp
    rfl
  | cons y ys ih =>
    intro i s h0 h hs hb
    obtain ⟨h1, h2, h3, _⟩ := drop_cons h0 h
    have hy := hin y (List.mem_of_mem_drop (by rw [h]; exact List.mem_cons_self))
    simp only [List.length_cons] at hb
    refine Ev.step (fun k => spec_lnLines.l0.eq_2 ..) ?_
    refine ev_pos h1 (ev_pos h0 (ev_pos h1 ?_))
    rw [h2, w64 (x := i + 1) (by omega) (by omega), w64 (by omega) (by omega)]
    refine ev_val (ih (i + 1) (s + y) (by omega) h3 (by omega) (by omega)) ?_
    rw [List.sum_cons]
    exact decide_eq_decide.2 (by omega)
theorem lnLines_ev (ws ls : List Int) (hn : ws.length ≤ 1048576) (hn2 : ls.length ≤ 1048576) : Ev (fun k => spec_lnLines.f k ws ls) (linesB ws ls) := by
  unfold spec_lnLines.f
  refine Ev.bind (lnGood_ev ws (by omega)) ?_
  have fail : ∀ (_ : linesB ws ls = false), Ev (fun k => spec_lnLines.j0 k ws ls true) (linesB ws ls) := fun hb => by
    rw [hb]
    exact Ev.step (fun k => spec_lnLines.j0.eq_2 ..) (ev_pos rfl (ev_now rfl))
  by_cases h : wordsB ws = true
  · obtain ⟨⟨w1, w2⟩, w3⟩ := wordsB_true h
    refine ev_pos h ?_
    have e : linesB ws ls = (decide (ls.length ≤ ws.length) && (decide (∀ n ∈ ls, 1 ≤ n ∧ n ≤ (ws.length : Int)) && decide (ls.sum = (ws.length : Int)))) := by unfold linesB; rw [h, Bool.true_and]
    by_cases c1 : ls.length ≤ ws.length
    · refine ev_neg (by omega) (Ev.bind (l1All_ev ls 1 (ws.length : Int) (by omega)) ?_)
      rw [decide_eq_true c1, Bool.true_and] at e
      by_cases c2 : ∀ n ∈ ls, 1 ≤ n ∧ n ≤ (ws.length : Int)
      · rw [decide_eq_true c2, Bool.true_and] at e
        rw [decide_eq_true c2]
        refine Ev.step (fun k => spec_lnLines.j0.eq_2 ..) (ev_neg (by simp) ?_)
        exact ev_val (lnLines_l0 ws ls (by omega) (fun n hn => ⟨(c2 n hn).1, by have := (c2 n hn).2; omega⟩) ls 0 0 (by omega) rfl (by omega) (by omega)) (by rw [e]; exact decide_eq_decide.2 (by omega))
      · rw [decide_eq_false c2]
        exact fail (by rw [e, decide_eq_false c2]; rfl)
    · exact ev_pos (by omega) (fail (by rw [e, decide_eq_false c1]; rfl))
  · exact ev_neg h (fail (by cases hb : linesB ws ls with | false => rfl | true => exact absurd (linesB_true hb).1 h))
theorem lnUsed_l0 (ws ls : List Int) (hl : ls.length ≤ 30) (hw : ws.length ≤ 30) (hin : ∀ n ∈ ws, 1 ≤ n ∧ n ≤ 80) : ∀ (ys : List Int) (i at_ : Int) (out : List Int), 0 ≤ i → ls.drop i.toNat = ys → (∀ n ∈ ys, 1 ≤ n) → 0 ≤ at_ → at_ + ys.sum = (ws.length : Int) → out.length + ys.length ≤ 100 →
    Ev (fun k => spec_lnUsed.l0 k ws out at_ ls (ls.length : Int) i) (out ++ usedL (ws.drop at_.toNat) ys) := by
  intro ys
  induction ys with
  | nil =>
    intro i at_ out h0 h _ _ _ _
    have := drop_nil h0 h
    refine Ev.step (fun k => spec_lnUsed.l0.eq_2 ..) ?_
    exact ev_neg (by omega) (ev_now (by simp [usedL]))
  | cons y ys ih =>
    intro i at_ out h0 h hpos ha hsum ho
    obtain ⟨h1, h2, h3, _⟩ := drop_cons h0 h
    have hy := hpos y List.mem_cons_self
    have hpos2 := fun n hn => hpos n (List.mem_cons_of_mem y hn)
    have hs := (sum_ge ys hpos2).1
    rw [List.sum_cons] at hsum
    simp only [List.length_cons] at ho
    refine Ev.step (fun k => spec_lnUsed.l0.eq_2 ..) ?_
    rw [h2, w64 (x := i + 1) (by omega) (by omega), w64 (x := at_ + y) (by omega) (by omega)]
    have e1 : (ws.take (at_ + y).toNat).drop at_.toNat = (ws.drop at_.toNat).take y.toNat := by
      rw [List.drop_take]; congr 1; omega
    have e2 : ws.drop (at_ + y).toNat = (ws.drop at_.toNat).drop y.toNat := by
      rw [List.drop_drop]; congr 1; omega
    rw [e1]
    refine ev_pos h1 (ev_pos h0 (ev_pos h1 (ev_pos (by omega) (ev_pos (by omega) (ev_pos (by omega) (Ev.bind (lnNeed_ev _ ?_ ?_) (ev_pos (by omega) ?_)))))))
    · rw [List.length_take, List.length_drop]; omega
    · exact fun n hn => hin n (List.mem_of_mem_drop (List.mem_of_mem_take hn))
    · refine ev_val (ih (i + 1) (at_ + y) _ (by omega) h3 hpos2 (by omega) (by omega) (by simp; omega)) ?_
      rw [e2]
      simp [usedL]
theorem lnUsed_ev (ws ls : List Int) (h : linesB ws ls = true) : Ev (fun k => spec_lnUsed.f k ws ls) (usedL ws ls) := by
  obtain ⟨b1, b2, b3, b4⟩ := linesB_true h
  obtain ⟨⟨w1, w2⟩, w3⟩ := wordsB_true b1
  exact lnUsed_l0 ws ls (by omega) (by omega) w3 ls 0 0 [] (by omega) rfl (fun n hn => (b3 n hn).1) (by omega) (by omega) (by simp; omega)

theorem toIntS_l (xs : List Int) (hn : xs.length < 4611686018427387904) : ∀ (ys : List Int) (i : Int) (zs : List Int), 0 ≤ i → xs.drop i.toNat = ys → zs.length = ys.length →
    Ev (fun k => laws_toIntS.l0 k xs (xs.take i.toNat ++ zs) i) xs := by
  intro ys
  induction ys with
  | nil =>
    intro i zs h0 h hz
    have := drop_nil h0 h
    refine Ev.step (fun k => laws_toIntS.l0.eq_2 ..) ?_
    have hz : zs = [] := List.eq_nil_of_length_eq_zero hz
    refine ev_neg (by omega) (ev_now ?_)
    rw [hz, List.append_nil, List.take_of_length_le (by omega)]
  | cons y ys ih =>
    intro i zs h0 h hz
    obtain ⟨h1, h2, h3, h4⟩ := drop_cons h0 h
    obtain ⟨z, zs, rfl⟩ : ∃ z zs', zs = z :: zs' := List.exists_cons_of_length_eq_add_one hz
    have hl : (xs.take i.toNat).length = i.toNat := by rw [List.length_take]; omega
    refine Ev.step (fun k => laws_toIntS.l0.eq_2 ..) ?_
    refine ev_pos h1 (ev_pos h0 (ev_pos (by rw [List.length_append, hl, List.length_cons]; omega) ?_))
    rw [h2, w64 (by omega) (by omega)]
    have e : (xs.take i.toNat ++ z :: zs).set i.toNat y = xs.take (i + 1).toNat ++ zs := by
      rw [h4, List.set_append_right _ _ (by omega), hl, Nat.sub_self, List.set_cons_zero, List.append_assoc]; rfl
    rw [e]
    exact ih (i + 1) zs (by omega) h3 (by simpa using hz)
theorem toIntS_ev (xs : List Int) (hn : xs.length ≤ 1048576) : Ev (fun k => laws_toIntS.f k xs) xs := by
  unfold laws_toIntS.f
  refine ev_pos (by omega) (ev_pos (by omega) ?_)
  exact toIntS_l xs (by omega) xs 0 _ (by omega) rfl (by simp)

theorem eqIntS_l (xs : List Int) (hn : xs.length < 4611686018427387904) : ∀ (ys : List Int) (i : Int), 0 ≤ i → xs.drop i.toNat = ys →
    Ev (fun k => laws_eqIntS.l0 k xs xs i) true := by
  intro ys
  induction ys with
  | nil =>
    intro i h0 h
    have := drop_nil h0 h
    refine Ev.step (fun k => laws_eqIntS.l0.eq_2 ..) ?_
    exact ev_neg (by omega) (ev_now rfl)
  | cons y ys ih =>
    intro i h0 h
    obtain ⟨h1, h2, h3, _⟩ := drop_cons h0 h
    refine Ev.step (fun k => laws_eqIntS.l0.eq_2 ..) ?_
    refine ev_pos h1 (ev_pos h0 (ev_pos h1 (ev_pos rfl ?_)))
    rw [w64 (by omega) (by omega)]
    exact ih _ (by omega) h3
theorem eqIntS_ev (xs : List Int) (hn : xs.length < 4611686018427387904) : Ev (fun k => laws_eqIntS.f k xs xs) true := by
  unfold laws_eqIntS.f
  exact ev_pos rfl (eqIntS_l xs hn xs 0 (by omega) rfl)

/-- What a list reads as behind the marking. -/
def marks (n : Nat) : List Int := (List.range n).map (fun i : Nat => (1 : Int) + i)
theorem marks_length (n : Nat) : (marks n).length = n := by simp [marks]
theorem marks_succ (n : Nat) : marks (n + 1) = marks n ++ [(1 : Int) + n] := by simp [marks, List.range_succ]
/-- A list whose first x elements are marked. -/
def marked (l : List Int) (x : Nat) : List Int := marks x ++ l.drop x
theorem marked_zero (l : List Int) : marked l 0 = l := by simp [marked, marks]
theorem marked_length (l : List Int) (x : Nat) (h : x ≤ l.length) : (marked l x).length = l.length := by simp [marked, marks_length]; omega
theorem marked_all (l : List Int) (x : Nat) (h : l.length ≤ x) (h2 : x ≤ l.length) : marked l x = marks l.length := by
  have e : x = l.length := by omega
  subst e
  simp [marked]
theorem marked_set (l : List Int) (x : Nat) (h : x < l.length) : (marked l x).set x (1 + (x : Int)) = marked l (x + 1) := by
  unfold marked
  rw [List.set_append_right _ _ (by rw [marks_length]; exact Nat.le_refl _), marks_length, Nat.sub_self, List.drop_eq_getElem_cons h, List.set_cons_zero, marks_succ, List.append_assoc]
  rfl

theorem markIntS_l (n : Nat) (hn : n < 1073741824) : ∀ (ys : List Int) (i : Nat), i + ys.length = n →
    Ev (fun k => laws_markIntS.l0 k (marks i ++ ys) (1 + (i : Int)) (i : Int)) ((1 : Int) + n, marks n) := by
  intro ys
  induction ys with
  | nil =>
    intro i h
    refine Ev.step (fun k => laws_markIntS.l0.eq_2 ..) ?_
    simp at h
    subst h
    exact ev_neg (by simp [marks_length]) (ev_now (by simp))
  | cons y ys ih =>
    intro i h
    simp at h
    refine Ev.step (fun k => laws_markIntS.l0.eq_2 ..) ?_
    refine ev_pos (by simp [marks_length]; omega) (ev_pos (by omega) ?_)
    rw [w64 (by omega) (by omega), w64 (by omega) (by omega)]
    have e : (marks i ++ y :: ys).set (i : Int).toNat (1 + (i : Int)) = marks (i + 1) ++ ys := by
      rw [marks_succ, Int.toNat_natCast, List.set_append_right _ _ (by rw [marks_length]; exact Nat.le_refl _), marks_length, Nat.sub_self, List.set_cons_zero, List.append_assoc]; rfl
    rw [e]
    have h2 := ih (i + 1) (by omega)
    have e2 : (1 : Int) + ((i + 1 : Nat) : Int) = 1 + (i : Int) + 1 := by omega
    have e3 : ((i + 1 : Nat) : Int) = (i : Int) + 1 := by omega
    rw [e2, e3] at h2
    exact h2
theorem markIntS_ev (xs : List Int) (hn : xs.length < 1073741824) : Ev (fun k => laws_markIntS.f k xs 1) ((1 : Int) + xs.length, marks xs.length) := markIntS_l xs.length hn xs 0 (by omega)

theorem markAny_l (n : Nat) (hn : n < 1073741824) : ∀ (m : Nat) (xs : List Int) (a i : Int), xs.length = n → 0 ≤ i → i + m = n → 0 ≤ a → a + m ≤ 1152921504606846976 →
    ∃ ys, Ev (fun k => laws_markIntS.l0 k xs a i) (a + m, ys) := by
  intro m
  induction m with
  | zero =>
    intro xs a i hl h0 h ha hb
    exact ⟨xs, Ev.step (fun k => laws_markIntS.l0.eq_2 ..) (ev_neg (by omega) (ev_now (by simp)))⟩
  | succ m ih =>
    intro xs a i hl h0 h ha hb
    have e1 := w64 (x := a + 1) (by omega) (by omega)
    have e2 := w64 (x := i + 1) (by omega) (by omega)
    obtain ⟨ys, hy⟩ := ih (xs.set i.toNat a) (a + 1) (i + 1) (by simpa using hl) (by omega) (by omega) (by omega) (by omega)
    refine ⟨ys, Ev.step (fun k => laws_markIntS.l0.eq_2 ..) (ev_pos (by omega) (ev_pos h0 ?_))⟩
    rw [e1, e2]
    exact ev_val hy (by congr 1; omega)
theorem markAny_ev (xs : List Int) (a : Int) (hn : xs.length < 1073741824) (ha : 0 ≤ a) (hb : a ≤ 1073741824) : ∃ ys, Ev (fun k => laws_markIntS.f k xs a) (a + xs.length, ys) :=
  markAny_l xs.length hn xs.length xs a 0 rfl (by omega) (by omega) ha (by omega)

theorem heldIntS_l (n : Nat) (hn : n < 1073741824) : ∀ (m i : Nat), i + m = n →
    Ev (fun k => laws_heldIntS.l0 k (marks n) (1 + (i : Int)) (i : Int)) ((1 : Int) + n) := by
  intro m
  induction m with
  | zero =>
    intro i h
    refine Ev.step (fun k => laws_heldIntS.l0.eq_2 ..) ?_
    exact ev_neg (by rw [marks_length]; omega) (ev_now (by omega))
  | succ m ih =>
    intro i h
    refine Ev.step (fun k => laws_heldIntS.l0.eq_2 ..) ?_
    have hr : rd (marks n) (i : Int) = 1 + (i : Int) := by
      simp [rd, marks, List.getD_eq_getElem?_getD, List.getElem?_range (show i < n by omega)]
    refine ev_pos (by rw [marks_length]; omega) (ev_pos (by omega) (ev_pos hr ?_))
    rw [w64 (by omega) (by omega), w64 (by omega) (by omega)]
    have h2 := ih (i + 1) (by omega)
    have e2 : (1 : Int) + ((i + 1 : Nat) : Int) = 1 + (i : Int) + 1 := by omega
    have e3 : ((i + 1 : Nat) : Int) = (i : Int) + 1 := by omega
    rw [e2, e3] at h2
    exact h2
theorem heldIntS_ev (n : Nat) (hn : n < 1073741824) : Ev (fun k => laws_heldIntS.f k (marks n) 1) ((1 : Int) + n) := heldIntS_l n hn n 0 (by omega)

def usedM (ws ls : List Int) : List Int × Bool := if linesB ws ls = true then (usedL ws ls, true) else ([], false)
theorem usedM_small (ws ls : List Int) : (usedM ws ls).1.length ≤ 1000 := by
  unfold usedM
  split
  · rename_i h
    obtain ⟨b1, b2, b3, b4⟩ := linesB_true h
    obtain ⟨⟨w1, w2⟩, w3⟩ := wordsB_true b1
    simp only [usedL_length]; omega
  · simp
theorem specWidths_ev (ws ls : List Int) (hn : ws.length ≤ 1048576) (hn2 : ls.length ≤ 1048576) : Ev (fun k => spec_WidthsUsed.f k ws ls) (usedM ws ls) := by
  unfold spec_WidthsUsed.f usedM
  refine Ev.bind (lnLines_ev ws ls hn hn2) ?_
  by_cases h : linesB ws ls = true
  · exact ev_pos h (Ev.bind (lnUsed_ev ws ls h) (ev_now (by rw [if_pos h])))
  · exact ev_neg h (ev_now (by rw [if_neg h]))
theorem implWidths_ev (ws ls : List Int) (hn : ws.length ≤ 1048576) (hn2 : ls.length ≤ 1048576) : Ev (fun k => impl_WidthsUsed.f k ws ls) (usedM ws ls) := by
  unfold impl_WidthsUsed.f usedM
  exact Ev.bind (widths_ev ws ls hn hn2) (ev_now rfl)
theorem FnExactWidthsUsed (l l1 : List Int) : ∃ k, laws_FnExactWidthsUsed.f k l l1 = some true := by
  refine Ev.rounds ?_
  unfold laws_FnExactWidthsUsed.f
  by_cases h : (l.length : Int) > 1048576
  · exact ev_pos h (ev_now rfl)
  by_cases h' : (l1.length : Int) > 1048576
  · exact ev_neg h (ev_pos h' (ev_now rfl))
  have hW := usedM_small l l1
  have hs := specWidths_ev l l1 (by omega) (by omega)
  have hi := implWidths_ev l l1 (by omega) (by omega)
  generalize usedM l l1 = r at hs hi hW
  obtain ⟨ys, hm⟩ := markAny_ev l1 (1 + (l.length : Int)) (by omega) (by omega) (by omega)
  refine ev_neg h (ev_neg h' (Ev.bind (toIntS_ev l (by omega)) (Ev.bind (toIntS_ev l1 (by omega)) (Ev.bind hs (Ev.bind (toIntS_ev l (by omega)) (Ev.bind (toIntS_ev l1 (by omega)) (Ev.bind hi (Ev.bind (eqIntS_ev r.1 (by omega)) (ev_pos rfl ?_)))))))))
  refine Ev.step (fun k => laws_FnExactWidthsUsed.j0.eq_2 ..) ?_
  refine ev_neg (by simp) (Ev.bind (toIntS_ev l (by omega)) (Ev.bind (eqIntS_ev l (by omega)) (ev_pos rfl (Ev.bind (toIntS_ev l1 (by omega)) (Ev.bind (eqIntS_ev l1 (by omega)) (ev_pos rfl ?_))))))
  refine Ev.bind (markIntS_ev l (by omega)) (Ev.bind hm (ev_neg (by simp only; omega) (Ev.bind (eqIntS_ev r.1 (by omega)) (ev_pos rfl ?_))))
  refine Ev.step (fun k => laws_FnExactWidthsUsed.j1.eq_2 ..) ?_
  refine ev_neg (by simp) (Ev.bind (markIntS_ev r.1 (by omega)) (Ev.bind (heldIntS_ev r.1.length (by omega)) (ev_neg (by omega) (ev_pos rfl ?_))))
  refine Ev.bind (toIntS_ev l (by omega)) (Ev.bind (toIntS_ev l1 (by omega)) (Ev.bind hi (Ev.bind (eqIntS_ev r.1 (by omega)) (ev_pos rfl ?_))))
  refine Ev.step (fun k => laws_FnExactWidthsUsed.j2.eq_2 ..) ?_
  exact ev_neg (by simp) (Ev.bind (heldIntS_ev r.1.length (by omega)) (ev_neg (by omega) (ev_pos rfl (ev_now rfl))))

end Go.Proofs.Ytaodhgpkdchknaa.Pure
