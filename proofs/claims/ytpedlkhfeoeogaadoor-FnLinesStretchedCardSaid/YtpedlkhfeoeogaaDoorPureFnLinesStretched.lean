/- The law FnLinesStretched holds for every two byte slices: stretched lines are just wide with even blanks, centred ones have as many on both sides, pages break where it is allowed, as far on as they can, and no line is lost. No condition but what the card lists. -/
import Derived.Test.YtpedlkhfeoeogaaDoorPFnLinesStretchedx22
import Derived.Laws.Bits64b
namespace Go.Proofs.YtpedlkhfeoeogaaDoor.Pure
open Go.RowKit Go.Proofs.YtpedlkhfeoeogaaDoor.PFnLinesStretched Go.Proofs.YtpedlkhfeoeogaaDoorW.PrintWords Go.Proofs.YtpedlkhfeoeogaaDoorW.PrintLast

theorem w64 {x : Int} (h1 : -9223372036854775808 ≤ x) (h2 : x ≤ 9223372036854775807) : wrap64 x = x := by
  unfold wrap64; omega
theorem ev_pos {α : Type} {c : Prop} [Decidable c] {f g : Nat → Option α} {r : α} (hc : c) (h : Ev f r) : Ev (fun k => if c then f k else g k) r := by
  simpa only [if_pos hc] using h
theorem ev_neg {α : Type} {c : Prop} [Decidable c] {f g : Nat → Option α} {r : α} (hc : ¬ c) (h : Ev g r) : Ev (fun k => if c then f k else g k) r := by
  simpa only [if_neg hc] using h
theorem ev_now {α : Type} {r s : α} (h : r = s) : Ev (fun _ => some r) s := h ▸ Ev.now r
theorem ev_some {α β : Type} {x : Option α} {f : Nat → α → Option β} {a : α} {r : β} (h : x = some a) (k : Ev (fun n => f n a) r) : Ev (fun n => x.bind (f n)) r := by
  subst h; exact k
theorem ev_val {α : Type} {g : Nat → Option α} {a b : α} (h : Ev g a) (e : a = b) : Ev g b := e ▸ h
theorem ev_suc {α : Type} {g : Nat → Option α} {r : α} (h : Ev (fun k => g (k + 1)) r) : Ev g r := Ev.step (fun _ => rfl) h
theorem drop_nil {α : Type} {xs : List α} {i : Int} (h0 : 0 ≤ i) (h : xs.drop i.toNat = []) : (xs.length : Int) ≤ i := by
  have := List.drop_eq_nil_iff.1 h
  omega
theorem drop_get {α : Type} {xs : List α} {i : Int} {y : α} {ys : List α} (h0 : 0 ≤ i) (h : xs.drop i.toNat = y :: ys) : i < (xs.length : Int) ∧ (∀ d, xs.getD i.toNat d = y) ∧ xs.drop (i + 1).toNat = ys ∧ xs.take (i + 1).toNat = xs.take i.toNat ++ [y] := by
  have hl : i.toNat < xs.length := by
    rcases Nat.lt_or_ge i.toNat xs.length with hl | hl
    · exact hl
    · rw [List.drop_eq_nil_iff.2 hl] at h; cases h
  have e := List.drop_eq_getElem_cons hl
  rw [h] at e
  injection e with e1 e2
  have h1 : (i + 1).toNat = i.toNat + 1 := by omega
  refine ⟨by omega, fun d => ?_, ?_, ?_⟩
  · rw [List.getD_eq_getElem?_getD, List.getElem?_eq_getElem hl, e1]; rfl
  · rw [h1]; exact e2.symm
  · rw [h1, List.take_add_one, List.getElem?_eq_getElem hl, e1]; rfl
theorem drop_cons {xs : List Int} {i : Int} {y : Int} {ys : List Int} (h0 : 0 ≤ i) (h : xs.drop i.toNat = y :: ys) : i < (xs.length : Int) ∧ rd xs i = y ∧ xs.drop (i + 1).toNat = ys ∧ xs.take (i + 1).toNat = xs.take i.toNat ++ [y] := by
  obtain ⟨h1, h2, h3⟩ := drop_get h0 h
  exact ⟨h1, h2 0, h3⟩

def wordsB (xs : List Int) : Bool := decide (1 ≤ (xs.length : Int) ∧ (xs.length : Int) ≤ 30) && decide (∀ n ∈ xs, 1 ≤ n ∧ n ≤ 80)
theorem wordsB_true {xs : List Int} (h : wordsB xs = true) : (1 ≤ (xs.length : Int) ∧ (xs.length : Int) ≤ 30) ∧ ∀ n ∈ xs, 1 ≤ n ∧ n ≤ 80 := by simpa [wordsB] using h
/-- What a line of words needs. -/
def needL (xs : List Int) : Int := xs.sum + xs.length - 1
theorem sum_bd : ∀ (xs : List Int), (∀ n ∈ xs, 1 ≤ n ∧ n ≤ 80) → (xs.length : Int) ≤ xs.sum ∧ xs.sum ≤ 80 * xs.length
  | [], _ => by simp
  | x :: xs, h => by
    have h1 := h x List.mem_cons_self
    have ih := sum_bd xs (fun n hn => h n (List.mem_cons_of_mem _ hn))
    rw [List.sum_cons, List.length_cons]; omega

theorem lnNeed_l (xs : List Int) (hn : xs.length ≤ 1000) (hin : ∀ n ∈ xs, 1 ≤ n ∧ n ≤ 80) : ∀ (ys : List Int) (i s : Int), 0 ≤ i → xs.drop i.toNat = ys → -1 ≤ s → s + 80 * ys.length ≤ 1000000 →
    Ev (fun k => spec_lnNeed.l0 k s xs (xs.length : Int) i) (s + ys.sum) := by
  intro ys
  induction ys with
  | nil =>
    intro i s h0 h _ _
    have := drop_nil h0 h
    refine Ev.step (fun k => spec_lnNeed.l0.eq_2 ..) ?_
    exact ev_neg (by omega) (ev_now (by simp))
  | cons y ys ih =>
    intro i s h0 h hs hb
    obtain ⟨h1, h2, h3, _⟩ := drop_cons h0 h
    have hy := hin y (List.mem_of_mem_drop (by rw [h]; exact List.mem_cons_self))
    simp only [List.length_cons] at hb
    refine Ev.step (fun k => spec_lnNeed.l0.eq_2 ..) ?_
    refine ev_pos h1 (ev_pos h0 (ev_pos h1 ?_))
    rw [h2, w64 (x := i + 1) (by omega) (by omega), w64 (by omega) (by omega)]
    exact ev_val (ih (i + 1) (s + y) (by omega) h3 (by omega) (by omega)) (by rw [List.sum_cons]; omega)
theorem lnNeed_ev (xs : List Int) (hn : xs.length ≤ 1000) (hin : ∀ n ∈ xs, 1 ≤ n ∧ n ≤ 80) : Ev (fun k => spec_lnNeed.f k xs) (needL xs) := by
  unfold spec_lnNeed.f needL
  rw [w64 (by omega) (by omega)]
  exact ev_val (lnNeed_l xs hn hin xs 0 ((xs.length : Int) - 1) (by omega) rfl (by omega) (by omega)) (by omega)

def settingB (l : List Int) (wide : Int) : Bool := wordsB l && (decide (1 ≤ wide ∧ wide ≤ 80) && decide (∀ n ∈ l, n ≤ wide))
theorem settingB_true {l : List Int} {wide : Int} (h : settingB l wide = true) : wordsB l = true ∧ (1 ≤ wide ∧ wide ≤ 80) ∧ ∀ n ∈ l, n ≤ wide := by simpa [settingB] using h

theorem l1In_eq (a lo hi : Int) : spec_l1In.f a lo hi = some (decide (lo ≤ a ∧ a ≤ hi)) := by
  unfold spec_l1In.f
  by_cases h : a ≥ lo
  · rw [if_pos h]; congr 1; simp [show lo ≤ a from h]
  · rw [if_neg h]; congr 1; simp; omega

theorem l1All_l (lo hi : Int) (xs : List Int) (hn : xs.length < 4611686018427387904) : ∀ (ys : List Int) (i : Int), 0 ≤ i → xs.drop i.toNat = ys →
    Ev (fun k => spec_l1All.l0 k lo hi xs (xs.length : Int) i) (decide (∀ n ∈ ys, lo ≤ n ∧ n ≤ hi)) := by
  intro ys
  induction ys with
  | nil =>
    intro i h0 h
    have := drop_nil h0 h
    refine Ev.step (fun k => spec_l1All.l0.eq_2 ..) ?_
    exact ev_neg (by omega) (ev_now (by simp))
  | cons y ys ih =>
    intro i h0 h
    obtain ⟨h1, h2, h3, _⟩ := drop_cons h0 h
    refine Ev.step (fun k => spec_l1All.l0.eq_2 ..) ?_
    refine ev_pos h1 (ev_pos h0 (ev_pos h1 ?_))
    rw [h2, w64 (by omega) (by omega)]
    refine ev_some (l1In_eq ..) ?_
    by_cases hy : lo ≤ y ∧ y ≤ hi
    · exact ev_pos (by simpa using hy) (ev_val (ih _ (by omega) h3) (by simp [hy]))
    · exact ev_neg (by simpa using hy) (ev_now (by simp [hy]))
theorem l1All_ev (xs : List Int) (lo hi : Int) (hn : xs.length < 4611686018427387904) :
    Ev (fun k => spec_l1All.f k xs lo hi) (decide (∀ n ∈ xs, lo ≤ n ∧ n ≤ hi)) := l1All_l lo hi xs hn xs 0 (by omega) rfl

theorem lnGood_evF (xs : List Int) (hn : xs.length < 4611686018427387904) : Ev (fun k => spec_lnGood.f k xs) (wordsB xs) := by
  unfold spec_lnGood.f wordsB
  refine ev_some (l1In_eq ..) ?_
  by_cases h : 1 ≤ (xs.length : Int) ∧ (xs.length : Int) ≤ 30
  · refine ev_pos (by simpa using h) (Ev.bind (l1All_ev xs 1 80 hn) (ev_now (by simp [h])))
  · exact ev_neg (by simpa using h) (ev_now (by simp [h]))
theorem lnWide_eq (w : Int) : spec_lnWide.f w = some (decide (1 ≤ w ∧ w ≤ 80)) := by
  unfold spec_lnWide.f
  rw [l1In_eq]; rfl
theorem lnFits_ev (xs : List Int) (wide : Int) (hn : xs.length < 4611686018427387904) : Ev (fun k => spec_lnFits.f k xs wide) (settingB xs wide) := by
  unfold spec_lnFits.f settingB
  refine Ev.bind (lnGood_evF xs hn) ?_
  by_cases h : wordsB xs = true
  · refine ev_pos h (ev_some (lnWide_eq wide) ?_)
    have hw := (wordsB_true h).2
    by_cases h2 : 1 ≤ wide ∧ wide ≤ 80
    · refine ev_pos (decide_eq_true h2) (Ev.bind (l1All_ev xs 1 wide hn) (ev_now ?_))
      rw [h, decide_eq_true h2]
      simp only [Bool.true_and]
      exact decide_eq_decide.2 ⟨fun hh n hm => (hh n hm).2, fun hh n hm => ⟨(hw n hm).1, hh n hm⟩⟩
    · exact ev_neg (by rw [decide_eq_false h2]; simp) (ev_now (by rw [decide_eq_false h2]; simp))
  · exact ev_neg h (ev_now (by rw [Bool.eq_false_iff.mpr h]; rfl))

theorem total_lw (xs : List Int) (hn : xs.length ≤ 1000) (hin : ∀ n ∈ xs, 1 ≤ n ∧ n ≤ 80) : ∀ (ys : List Int) (i s : Int), 0 ≤ i → xs.drop i.toNat = ys → 0 ≤ s → s + 80 * ys.length ≤ 1000000 →
    Ev (fun k => impl_total.l0 k s xs (xs.length : Int) i) (s + ys.sum) := by
  intro ys
  induction ys with
  | nil =>
    intro i s h0 h _ _
    have := drop_nil h0 h
    refine Ev.step (fun k => impl_total.l0.eq_2 ..) ?_
    exact ev_neg (by omega) (ev_now (by simp))
  | cons y ys ih =>
    intro i s h0 h hs hb
    obtain ⟨h1, h2, h3, _⟩ := drop_cons h0 h
    have hy := hin y (List.mem_of_mem_drop (by rw [h]; exact List.mem_cons_self))
    simp only [List.length_cons] at hb
    refine Ev.step (fun k => impl_total.l0.eq_2 ..) ?_
    refine ev_pos h1 (ev_pos h0 (ev_pos h1 ?_))
    rw [h2, w64 (x := i + 1) (by omega) (by omega), w64 (by omega) (by omega)]
    exact ev_val (ih (i + 1) (s + y) (by omega) h3 (by omega) (by omega)) (by rw [List.sum_cons]; omega)
theorem totalW_ev (xs : List Int) (hn : xs.length ≤ 1000) (hin : ∀ n ∈ xs, 1 ≤ n ∧ n ≤ 80) : Ev (fun k => impl_total.f k xs) xs.sum :=
  ev_val (total_lw xs hn hin xs 0 0 (by omega) rfl (by omega) (by omega)) (by omega)
theorem needs_ev (xs : List Int) (hn : xs.length ≤ 1000) (hin : ∀ n ∈ xs, 1 ≤ n ∧ n ≤ 80) : Ev (fun k => impl_needs.f k xs) (needL xs) := by
  have hs := sum_bd xs hin
  unfold impl_needs.f needL
  refine Ev.bind (totalW_ev xs hn hin) (ev_now ?_)
  rw [w64 (x := xs.sum + (xs.length : Int)) (by omega) (by omega), w64 (by omega) (by omega)]

theorem within_eq (a lo hi : Int) : impl_within.f a lo hi = some (decide (lo ≤ a ∧ a ≤ hi)) := by
  unfold impl_within.f
  by_cases h : a ≥ lo
  · rw [if_pos h]; congr 1; simp [show lo ≤ a from h]
  · rw [if_neg h]; congr 1; simp; omega

theorem allWithin_l (lo hi : Int) (xs : List Int) (hn : xs.length < 4611686018427387904) : ∀ (ys : List Int) (i : Int), 0 ≤ i → xs.drop i.toNat = ys →
    Ev (fun k => impl_allWithin.l0 k lo hi xs (xs.length : Int) i) (decide (∀ n ∈ ys, lo ≤ n ∧ n ≤ hi)) := by
  intro ys
  induction ys with
  | nil =>
    intro i h0 h
    have := drop_nil h0 h
    refine Ev.step (fun k => impl_allWithin.l0.eq_2 ..) ?_
    exact ev_neg (by omega) (ev_now (by simp))
  | cons y ys ih =>
    intro i h0 h
    obtain ⟨h1, h2, h3, _⟩ := drop_cons h0 h
    refine Ev.step (fun k => impl_allWithin.l0.eq_2 ..) ?_
    refine ev_pos h1 (ev_pos h0 (ev_pos h1 ?_))
    rw [h2, w64 (by omega) (by omega)]
    refine ev_some (within_eq ..) ?_
    by_cases hy : lo ≤ y ∧ y ≤ hi
    · exact ev_pos (by simpa using hy) (ev_val (ih _ (by omega) h3) (by simp [hy]))
    · exact ev_neg (by simpa using hy) (ev_now (by simp [hy]))
theorem allWithin_ev (xs : List Int) (lo hi : Int) (hn : xs.length < 4611686018427387904) :
    Ev (fun k => impl_allWithin.f k xs lo hi) (decide (∀ n ∈ xs, lo ≤ n ∧ n ≤ hi)) := allWithin_l lo hi xs hn xs 0 (by omega) rfl

theorem lnGood_ev (xs : List Int) (hn : xs.length < 4611686018427387904) : Ev (fun k => spec_lnGood.f k xs) (wordsB xs) := by
  unfold spec_lnGood.f wordsB
  refine ev_some (l1In_eq ..) ?_
  by_cases h : 1 ≤ (xs.length : Int) ∧ (xs.length : Int) ≤ 30
  · refine ev_pos (by simpa using h) (Ev.bind (l1All_ev xs 1 80 hn) (ev_now (by simp [h])))
  · exact ev_neg (by simpa using h) (ev_now (by simp [h]))
theorem AreWords_ev (xs : List Int) (hn : xs.length < 4611686018427387904) : Ev (fun k => impl_AreWords.f k xs) (wordsB xs) := by
  unfold impl_AreWords.f wordsB
  refine ev_some (within_eq ..) ?_
  by_cases h : 1 ≤ (xs.length : Int) ∧ (xs.length : Int) ≤ 30
  · refine ev_pos (by simpa using h) (Ev.bind (allWithin_ev xs 1 80 hn) (ev_now (by simp [h])))
  · exact ev_neg (by simpa using h) (ev_now (by simp [h]))

theorem foldMax_le (w : Int) : ∀ (zs : List Int) (a : Int), zs.foldl max a ≤ w ↔ a ≤ w ∧ ∀ n ∈ zs, n ≤ w
  | [], a => by simp
  | z :: zs, a => by
    rw [List.foldl_cons, foldMax_le w zs (max a z)]
    simp only [List.mem_cons, forall_eq_or_imp]
    constructor
    · intro h; exact ⟨by omega, by omega, h.2⟩
    · intro h; exact ⟨by omega, h.2.2⟩
theorem maxOf_le (w : Int) (zs : List Int) (h : 0 < zs.length) : Lib.maxOf zs ≤ w ↔ ∀ n ∈ zs, n ≤ w := by
  unfold Lib.maxOf
  rw [foldMax_le]
  rcases zs with _ | ⟨z, zs⟩
  · simp at h
  · simp only [List.headD_cons, List.mem_cons, forall_eq_or_imp]
    constructor
    · intro q; exact ⟨q.1, q.2.2⟩
    · intro q; exact ⟨q.1, q.1, q.2⟩
theorem isSetting_ev (xs : List Int) (wide : Int) (hn : xs.length < 4611686018427387904) : Ev (fun k => impl_isSetting.f k xs wide) (settingB xs wide) := by
  unfold impl_isSetting.f settingB
  refine Ev.bind (AreWords_ev xs hn) ?_
  by_cases h : wordsB xs = true
  · have hw := (wordsB_true h).1
    refine ev_pos h (ev_some (within_eq ..) ?_)
    rw [h, Bool.true_and]
    by_cases h2 : 1 ≤ wide ∧ wide ≤ 80
    · refine ev_pos (decide_eq_true h2) (ev_some (show slices_Max_int_int.f xs = some (Lib.maxOf xs) from by unfold slices_Max_int_int.f; rw [if_pos (by omega)]) (ev_now ?_))
      rw [decide_eq_true h2, Bool.true_and]
      exact decide_eq_decide.2 (maxOf_le wide xs (by omega))
    · exact ev_neg (by rw [decide_eq_false h2]; simp) (ev_now (by rw [decide_eq_false h2]; simp))
  · exact ev_neg h (ev_now (by rw [Bool.eq_false_iff.mpr h]; rfl))

/-- The blanks from place i on, m of them, q each and one more before place r. -/
def strL (q r : Int) : Nat → Int → List Int
  | 0, _ => []
  | m + 1, i => (q + if i < r then 1 else 0) :: strL q r m (i + 1)
theorem strL_length (q r : Int) : ∀ (m : Nat) (i : Int), (strL q r m i).length = m
  | 0, _ => rfl
  | m + 1, i => by simp [strL, strL_length q r m]
def stretchB (l : List Int) (wide : Int) : Bool := settingB l wide && (decide ((l.length : Int) ≠ 1) && decide (needL l ≤ wide))
def stretchL (l : List Int) (wide : Int) : List Int := strL ((wide - l.sum) / ((l.length : Int) - 1)) ((wide - l.sum) % ((l.length : Int) - 1)) (l.length - 1) 0
def stretchM (l : List Int) (wide : Int) : List Int := if stretchB l wide = true then stretchL l wide else []
theorem stretchB_true {l : List Int} {wide : Int} (h : stretchB l wide = true) : settingB l wide = true ∧ (l.length : Int) ≠ 1 ∧ needL l ≤ wide := by simpa [stretchB] using h
theorem stretchM_small (l : List Int) (wide : Int) : (stretchM l wide).length ≤ 1048576 := by
  unfold stretchM
  split
  · rename_i h
    have := (wordsB_true (settingB_true (stretchB_true h).1).1).1
    unfold stretchL; rw [strL_length]; omega
  · simp
theorem ceil_step (q s m : Int) (hm : 0 ≤ m) (h0 : 0 ≤ s) (h1 : s ≤ m) : (q * (m + 1) + s + m) / (m + 1) = q + if 0 < s then 1 else 0 := by
  have e : q * (m + 1) + s + m = (s + m) + q * (m + 1) := by omega
  rw [e, Int.add_mul_ediv_right _ _ (by omega), Int.add_comm]
  congr 1
  by_cases h : 0 < s
  · rw [if_pos h]
    have e2 : s + m = (s - 1) + 1 * (m + 1) := by omega
    rw [e2, Int.add_mul_ediv_right _ _ (by omega), Int.ediv_eq_zero_of_lt (by omega) (by omega)]; rfl
  · rw [if_neg h]
    exact Int.ediv_eq_zero_of_lt (by omega) (by omega)
theorem stretch_l (q r : Int) (hq0 : 0 ≤ q) (hq : q ≤ 1000) (_hr0 : 0 ≤ r) : ∀ (m : Nat) (i : Int) (out : List Int), 0 ≤ i → m ≤ 1000 → (r - i ≤ 0 ∨ r - i < m) → out.length + m ≤ 100000 →
    Ev (fun k => spec_lnStretch.l0 k out (q * (m : Int) + if i < r then r - i else 0) (m : Int)) (out ++ strL q r m i) := by
  intro m
  induction m with
  | zero =>
    intro i out h0 hm hri ho
    refine Ev.step (fun k => spec_lnStretch.l0.eq_2 ..) ?_
    exact ev_neg (by omega) (ev_now (by simp [strL]))
  | succ m ih =>
    intro i out h0 hm hri ho
    have hmul0 : 0 ≤ q * (m : Int) := Int.mul_nonneg hq0 (by omega)
    have hmul1 : q * (m : Int) ≤ 1000 * 1000 := Int.mul_le_mul hq (by omega) (by omega) (by omega)
    generalize hs : (if i < r then r - i else 0 : Int) = s
    have hs0 : 0 ≤ s ∧ s ≤ m := by split at hs <;> omega
    have hmm : q * ((m + 1 : Nat) : Int) = q * (m : Int) + q := by rw [Int.natCast_add, Int.mul_add]; simp
    have hm1 : ((m + 1 : Nat) : Int) = (m : Int) + 1 := by omega
    have hc : (q * ((m + 1 : Nat) : Int) + s + (m : Int)) / ((m : Int) + 1) = q + if 0 < s then 1 else 0 := by rw [hm1]; exact ceil_step q s m (by omega) (by omega) (by omega)
    have hw1 : wrap64 (wrap64 (q * ((m + 1 : Nat) : Int) + s + ((m + 1 : Nat) : Int)) - 1) = q * ((m + 1 : Nat) : Int) + s + (m : Int) := by
      rw [w64 (x := q * ((m + 1 : Nat) : Int) + s + ((m + 1 : Nat) : Int)) (by omega) (by omega), w64 (by omega) (by omega)]; omega
    have hd : wrap64 (Int.tdiv (q * ((m + 1 : Nat) : Int) + s + (m : Int)) ((m + 1 : Nat) : Int)) = q + if i < r then 1 else 0 := by
      rw [Int.tdiv_eq_ediv_of_nonneg (by omega)]
      rw [hm1] at hc ⊢
      rw [hc]
      have : (if 0 < s then 1 else 0 : Int) = if i < r then 1 else 0 := by
        split at hs
        · rename_i h; rw [if_pos h, if_pos (by omega)]
        · rename_i h; rw [if_neg h, if_neg (by omega)]
      rw [this]
      exact w64 (by split <;> omega) (by split <;> omega)
    refine Ev.step (fun k => spec_lnStretch.l0.eq_2 ..) ?_
    rw [hw1, hd]
    refine ev_pos (by omega) (ev_neg (by omega) (ev_pos (by omega) ?_))
    have e1 : wrap64 (((m + 1 : Nat) : Int) - 1) = (m : Int) := by rw [w64 (by omega) (by omega)]; omega
    have e2 : wrap64 (q * ((m + 1 : Nat) : Int) + s - (q + if i < r then 1 else 0)) = q * (m : Int) + if i + 1 < r then r - (i + 1) else 0 := by
      have : s - (if i < r then 1 else 0) = if i + 1 < r then r - (i + 1) else 0 := by
        rw [← hs]; split <;> split <;> omega
      rw [w64 (by split <;> omega) (by split <;> omega)]
      omega
    rw [e1, e2]
    exact ev_val (ih (i + 1) _ (by omega) (by omega) (by omega) (by simp; omega)) (by simp [strL])
theorem strL_bd (q r : Int) (h : 0 ≤ q) : ∀ (m : Nat) (i : Int), ∀ x ∈ strL q r m i, 0 ≤ x ∧ x ≤ q + 1
  | 0, _, x, hx => by simp [strL] at hx
  | m + 1, i, x, hx => by
    rcases List.mem_cons.1 hx with rfl | hx
    · split <;> omega
    · exact strL_bd q r h m (i + 1) x hx
theorem stretchL_facts {l : List Int} {wide : Int} (h : stretchB l wide = true) : 2 ≤ l.length ∧ l.length ≤ 30 ∧ (∀ n ∈ l, 1 ≤ n ∧ n ≤ 80) ∧ (∀ x ∈ stretchL l wide, 0 ≤ x ∧ x ≤ 1000) ∧ (stretchL l wide).length = l.length - 1 := by
  obtain ⟨h1, h2, h3⟩ := stretchB_true h
  obtain ⟨⟨w1, w2⟩, w3⟩ := wordsB_true (settingB_true h1).1
  have hwd := (settingB_true h1).2.1
  have hs := sum_bd l w3
  have hnl : needL l = l.sum + l.length - 1 := rfl
  have hB : 0 ≤ wide - l.sum := by omega
  have hq := Int.ediv_nonneg hB (by omega : 0 ≤ (l.length : Int) - 1)
  have hq2 : (wide - l.sum) / ((l.length : Int) - 1) ≤ wide - l.sum := Int.ediv_le_self _ hB
  refine ⟨by omega, by omega, w3, fun x hx => ?_, ?_⟩
  · have := strL_bd _ _ hq _ _ x hx; omega
  · unfold stretchL; rw [strL_length]
theorem lnStretch_ev (l : List Int) (wide : Int) (h : stretchB l wide = true) : Ev (fun k => spec_lnStretch.f k l wide) (stretchL l wide) := by
  obtain ⟨h1, h2, h3⟩ := stretchB_true h
  obtain ⟨⟨w1, w2⟩, w3⟩ := wordsB_true (settingB_true h1).1
  have hwd := (settingB_true h1).2.1
  have hs := sum_bd l w3
  have hg : 0 < (l.length : Int) - 1 := by omega
  have hnl : needL l = l.sum + l.length - 1 := rfl
  have hB : 0 ≤ wide - l.sum := by omega
  have hr := Int.emod_nonneg (wide - l.sum) (by omega : (l.length : Int) - 1 ≠ 0)
  have hr2 := Int.emod_lt_of_pos (wide - l.sum) hg
  have hq := Int.ediv_nonneg hB (by omega : 0 ≤ (l.length : Int) - 1)
  have hq2 : (wide - l.sum) / ((l.length : Int) - 1) ≤ wide - l.sum := Int.ediv_le_self _ hB
  unfold spec_lnStretch.f
  refine Ev.bind (lnNeed_ev l (by omega) w3) ?_
  have e1 : wrap64 ((l.length : Int) - 1) = ((l.length - 1 : Nat) : Int) := by rw [w64 (by omega) (by omega)]; omega
  have e2 : wrap64 (wrap64 (wrap64 (wide - needL l) + (l.length : Int)) - 1) = (wide - l.sum) / ((l.length : Int) - 1) * ((l.length - 1 : Nat) : Int) + if 0 < (wide - l.sum) % ((l.length : Int) - 1) then (wide - l.sum) % ((l.length : Int) - 1) - 0 else 0 := by
    rw [w64 (x := wide - needL l) (by omega) (by omega), w64 (x := wide - needL l + (l.length : Int)) (by omega) (by omega), w64 (by omega) (by omega)]
    have e3 : ((l.length - 1 : Nat) : Int) = (l.length : Int) - 1 := by omega
    have e4 := Int.ediv_mul_add_emod (wide - l.sum) ((l.length : Int) - 1)
    rw [e3]
    split <;> omega
  rw [e1, e2]
  exact stretch_l _ _ hq (by omega) hr (l.length - 1) 0 [] (by omega) (by omega) (by omega) (by simp; omega)
theorem implStretch_l (q r g B : Int) (hg0 : 0 < g) (hg : g ≤ 1000) (hq : Int.tdiv B g = q) (hr : Int.tmod B g = r) (hq0 : 0 ≤ q) (hq1 : q ≤ 1000) : ∀ (m : Nat) (i : Int) (out : List Int), 0 ≤ i → i + m = g → out.length + m ≤ 100000 →
    Ev (fun k => impl_StretchSpaces.l0 k out g B g i) (out ++ strL q r m i, true) := by
  intro m
  induction m with
  | zero =>
    intro i out h0 hm ho
    refine Ev.step (fun k => impl_StretchSpaces.l0.eq_2 ..) ?_
    exact ev_neg (by omega) (ev_now (by simp [strL]))
  | succ m ih =>
    intro i out h0 hm ho
    refine Ev.step (fun k => impl_StretchSpaces.l0.eq_2 ..) ?_
    rw [hq, hr, w64 (x := i + 1) (by omega) (by omega), w64 (x := q) (by omega) (by omega), w64 (x := q + 1) (by omega) (by omega)]
    refine ev_pos (by omega) (ev_neg (by omega) ?_)
    by_cases c : i < r
    · refine ev_pos c (ev_pos (by omega) (ev_val (ih (i + 1) _ (by omega) (by omega) (by simp only [List.length_append, List.length_cons, List.length_nil]; omega)) ?_))
      simp [strL, c]
    · refine ev_neg c (ev_pos (by omega) (ev_val (ih (i + 1) _ (by omega) (by omega) (by simp only [List.length_append, List.length_cons, List.length_nil]; omega)) ?_))
      simp [strL, c]
theorem implStretch_ev (l : List Int) (wide : Int) (hn : l.length ≤ 1048576) : Ev (fun k => impl_StretchSpaces.f k l wide) (stretchM l wide, stretchB l wide) := by
  have fall : ∀ b : Bool, b = true → stretchB l wide = false → Ev (fun k => impl_StretchSpaces.j0 k l wide b) (stretchM l wide, stretchB l wide) := fun b hb hf => by
    refine Ev.step (fun k => impl_StretchSpaces.j0.eq_2 ..) (ev_pos hb (ev_now ?_))
    unfold stretchM; rw [hf]; rfl
  unfold impl_StretchSpaces.f
  refine Ev.bind (isSetting_ev l wide (by omega)) ?_
  by_cases h1 : settingB l wide = true
  · obtain ⟨⟨w1, w2⟩, w3⟩ := wordsB_true (settingB_true h1).1
    have hwd := (settingB_true h1).2.1
    refine ev_pos h1 ?_
    by_cases h2 : (l.length : Int) = 1
    · exact ev_pos h2 (fall _ rfl (by unfold stretchB; rw [decide_eq_false (by omega : ¬ (l.length : Int) ≠ 1)]; simp))
    · refine ev_neg h2 (Ev.bind (needs_ev l (by omega) w3) ?_)
      by_cases h3 : needL l ≤ wide
      · have hb : stretchB l wide = true := by unfold stretchB; rw [h1, decide_eq_true h2, decide_eq_true h3]; rfl
        have hs := sum_bd l w3
        have hg : 0 < (l.length : Int) - 1 := by omega
        have hnl : needL l = l.sum + l.length - 1 := rfl
        have hB : 0 ≤ wide - l.sum := by omega
        have hq := Int.ediv_nonneg hB (by omega : 0 ≤ (l.length : Int) - 1)
        have hq2 : (wide - l.sum) / ((l.length : Int) - 1) ≤ wide - l.sum := Int.ediv_le_self _ hB
        refine Ev.step (fun k => impl_StretchSpaces.j0.eq_2 ..) (ev_neg (by simp; omega) (Ev.bind (totalW_ev l (by omega) w3) ?_))
        rw [w64 (x := (l.length : Int) - 1) (by omega) (by omega), w64 (x := wide - l.sum) (by omega) (by omega)]
        refine ev_val (implStretch_l _ _ ((l.length : Int) - 1) (wide - l.sum) hg (by omega) (Int.tdiv_eq_ediv_of_nonneg hB) (Int.tmod_eq_emod_of_nonneg hB) hq (by omega) (l.length - 1) 0 [] (by omega) (by omega) (by simp only [List.length_nil]; omega)) ?_
        unfold stretchM; rw [if_pos hb, hb]; rfl
      · exact fall _ (decide_eq_true (by omega)) (by unfold stretchB; rw [decide_eq_false h3]; simp)
  · exact ev_neg h1 (fall _ rfl (by unfold stretchB; rw [Bool.eq_false_iff.2 h1, Bool.false_and]))

theorem strL_get (q r : Int) : ∀ (m : Nat) (i : Int) (j : Nat), j < m → (strL q r m i)[j]? = some (q + if i + (j : Int) < r then 1 else 0)
  | 0, _, _, h => absurd h (by omega)
  | m + 1, i, 0, _ => by simp [strL]
  | m + 1, i, j + 1, h => by
    rw [strL, List.getElem?_cons_succ, strL_get q r m (i + 1) j (by omega), show i + 1 + (j : Int) = i + ((j + 1 : Nat) : Int) from by omega]
theorem strL_sum (q r : Int) : ∀ (m : Nat) (i : Int), r - i ≤ m → (strL q r m i).sum = q * (m : Int) + if i < r then r - i else 0
  | 0, i, h => by rw [if_neg (by omega)]; simp [strL]
  | m + 1, i, h => by
    have ih := strL_sum q r m (i + 1) (by omega)
    have e : q * ((m + 1 : Nat) : Int) = q * (m : Int) + q := by rw [Int.natCast_add, Int.mul_add]; simp
    rw [strL, List.sum_cons, ih, e]
    generalize q * (m : Int) = z
    by_cases c1 : i < r
    · rw [if_pos c1, if_pos c1]
      by_cases c2 : i + 1 < r
      · rw [if_pos c2]; omega
      · rw [if_neg c2]; omega
    · rw [if_neg c1, if_neg c1, if_neg (by omega)]; omega
/-- The blanks: how many, their sum, and each one. -/
theorem stretchL_more {l : List Int} {wide : Int} (h : stretchB l wide = true) : (stretchL l wide).sum = wide - l.sum ∧ (∀ x ∈ stretchL l wide, 1 ≤ x ∧ x ≤ 1000) ∧
    ∃ q r : Int, 1 ≤ q ∧ q ≤ 100 ∧ ∀ j : Nat, j < (stretchL l wide).length → (stretchL l wide)[j]? = some (q + if (j : Int) < r then 1 else 0) := by
  obtain ⟨h1, h2, h3⟩ := stretchB_true h
  obtain ⟨⟨w1, w2⟩, w3⟩ := wordsB_true (settingB_true h1).1
  have hwd := (settingB_true h1).2.1
  have hs := sum_bd l w3
  have hg : 0 < (l.length : Int) - 1 := by omega
  have hnl : needL l = l.sum + l.length - 1 := rfl
  have hB : 0 ≤ wide - l.sum := by omega
  have hr := Int.emod_nonneg (wide - l.sum) (by omega : (l.length : Int) - 1 ≠ 0)
  have hr2 := Int.emod_lt_of_pos (wide - l.sum) hg
  have hq : 1 ≤ (wide - l.sum) / ((l.length : Int) - 1) := Int.le_ediv_of_mul_le hg (by omega)
  have hq2 : (wide - l.sum) / ((l.length : Int) - 1) ≤ wide - l.sum := Int.ediv_le_self _ hB
  have e4 := Int.ediv_mul_add_emod (wide - l.sum) ((l.length : Int) - 1)
  have hm : ((l.length - 1 : Nat) : Int) = (l.length : Int) - 1 := by omega
  refine ⟨?_, ?_, (wide - l.sum) / ((l.length : Int) - 1), (wide - l.sum) % ((l.length : Int) - 1), hq, by omega, ?_⟩
  · unfold stretchL
    rw [strL_sum _ _ _ _ (by omega), hm]
    split <;> omega
  · intro x hx
    unfold stretchL at hx
    obtain ⟨j, hj⟩ := List.mem_iff_getElem?.1 hx
    have hjl : j < l.length - 1 := by
      have := (List.getElem?_eq_some_iff.1 hj).1
      rw [strL_length] at this; exact this
    rw [strL_get _ _ _ _ _ hjl] at hj
    injection hj with hj
    rw [← hj]
    constructor <;> split <;> omega
  · intro j hj
    unfold stretchL at hj ⊢
    rw [strL_length] at hj
    rw [strL_get _ _ _ _ _ hj, show (0 : Int) + (j : Int) = (j : Int) from by omega]

/-! ### Texts as lists of bytes -/
def mkB (l : List UInt8) : ByteArray := ⟨l.toArray⟩
theorem mkB_data (l : List UInt8) : (mkB l).data.toList = l := by simp [mkB]
theorem mkB_size (l : List UInt8) : (mkB l).size = l.length := by simp [mkB, ByteArray.size]
theorem mkB_eq (s : ByteArray) : mkB s.data.toList = s := by cases s; simp [mkB]
theorem mkB_append (a b : List UInt8) : mkB a ++ mkB b = mkB (a ++ b) := by
  apply ByteArray.ext
  simp [mkB, ByteArray.data_append]
theorem mkB_drop (l : List UInt8) (i : Nat) : (mkB l).extract i (mkB l).size = mkB (l.drop i) := by
  apply ByteArray.ext
  apply Array.toList_inj.1
  rw [mkB_size]
  simp only [mkB, ByteArray.data_extract, List.extract_toArray, List.extract_eq_take_drop]
  rw [List.take_of_length_le (by rw [List.length_drop]; exact Nat.le_refl _)]
theorem mkB_slice (l : List UInt8) (i j : Nat) : (mkB l).extract i j = mkB ((l.take j).drop i) := by
  apply ByteArray.ext
  apply Array.toList_inj.1
  simp [mkB, ByteArray.data_extract, List.drop_take]
theorem mkB_nums (xs : List Int) : strOfNums xs = mkB (xs.map fun n => UInt8.ofNat n.toNat) := rfl
theorem mkB_inj {a b : List UInt8} (h : mkB a = mkB b) : a = b := by
  have := congrArg (fun s => s.data.toList) h
  simpa [mkB] using this
theorem bt_mkB {l : List UInt8} {i : Nat} {x : UInt8} {xs : List UInt8} (h : l.drop i = x :: xs) : bt (mkB l) (i : Int) = (x.toNat : Int) := by
  have hl : i < l.length := by
    rcases Nat.lt_or_ge i l.length with g | g
    · exact g
    · rw [List.drop_eq_nil_iff.2 g] at h; cases h
  have e : l[i] = x := by
    have := List.drop_eq_getElem_cons hl
    rw [h] at this
    injection this with h1 _
    exact h1.symm
  have hs : (i : Int).toNat < (mkB l).size := by rw [Int.toNat_natCast, mkB_size]; exact hl
  rw [← bt_at _ _ hs, ← e]
  rfl
theorem drop_step {α : Type} {l : List α} {i : Nat} {x : α} {xs : List α} (h : l.drop i = x :: xs) : i < l.length ∧ l.drop (i + 1) = xs := by
  have hl : i < l.length := by
    rcases Nat.lt_or_ge i l.length with g | g
    · exact g
    · rw [List.drop_eq_nil_iff.2 g] at h; cases h
  have := List.drop_eq_getElem_cons hl
  rw [h] at this
  injection this with _ h2
  exact ⟨hl, h2.symm⟩

def headOn (x : UInt8) : List (List UInt8) → List (List UInt8)
  | p :: ps => (x :: p) :: ps
  | [] => [[x]]
/-- The parts of a text between a byte's places. -/
def parts (c : UInt8) : List UInt8 → List (List UInt8)
  | [] => [[]]
  | x :: xs => if x = c then [] :: parts c xs else headOn x (parts c xs)
def glue (cur : List UInt8) : List (List UInt8) → List (List UInt8)
  | p :: ps => (cur ++ p) :: ps
  | [] => [cur]
theorem headOn_length (x : UInt8) (ps : List (List UInt8)) (h : ps ≠ []) : (headOn x ps).length = ps.length := by
  cases ps with
  | nil => exact absurd rfl h
  | cons p ps => rfl
theorem parts_ne (c : UInt8) (l : List UInt8) : parts c l ≠ [] := by
  cases l with
  | nil => simp [parts]
  | cons x xs =>
    rw [parts]
    split
    · simp
    · cases parts c xs <;> simp [headOn]
theorem parts_length (c : UInt8) : ∀ (l : List UInt8), (parts c l).length ≤ l.length + 1
  | [] => by simp [parts]
  | x :: xs => by
    have := parts_length c xs
    rw [parts]
    split
    · simp only [List.length_cons]; omega
    · rw [headOn_length x _ (parts_ne c xs)]; simp only [List.length_cons]; omega
theorem parts_part_len (c : UInt8) : ∀ (l : List UInt8), ∀ p ∈ parts c l, p.length ≤ l.length
  | [], p, h => by simp [parts] at h; subst h; simp
  | x :: xs, p, h => by
    rw [parts] at h
    split at h
    · rcases List.mem_cons.1 h with rfl | h
      · simp
      · have := parts_part_len c xs p h; simp only [List.length_cons]; omega
    · have hne := parts_ne c xs
      rcases hp : parts c xs with _ | ⟨q, qs⟩
      · exact absurd hp hne
      · rw [hp] at h
        rcases List.mem_cons.1 h with rfl | h
        · have := parts_part_len c xs q (by rw [hp]; exact List.mem_cons_self)
          simp only [List.length_cons]; omega
        · have := parts_part_len c xs p (by rw [hp]; exact List.mem_cons_of_mem _ h)
          simp only [List.length_cons]; omega
theorem glue_nil (ps : List (List UInt8)) (h : ps ≠ []) : glue [] ps = ps := by
  cases ps with
  | nil => exact absurd rfl h
  | cons p ps => rfl
theorem glue_head (cur : List UInt8) (x : UInt8) (ps : List (List UInt8)) : glue (cur ++ [x]) ps = glue cur (headOn x ps) := by
  cases ps with
  | nil => rfl
  | cons p ps => simp [glue, headOn]

theorem index_cons_ (x c : UInt8) (xs : List UInt8) (h : x ≠ c) : Lib.index (x :: xs) [c] = if Lib.index xs [c] == -1 then -1 else Lib.index xs [c] + 1 := by
  have hp : ([c] : List UInt8).isPrefixOf (x :: xs) = false := by simp [List.isPrefixOf, Ne.symm h]
  rw [Lib.index, hp]; simp
theorem index_head_ (c : UInt8) (xs : List UInt8) : Lib.index (c :: xs) [c] = 0 := by rw [Lib.index]; simp [List.isPrefixOf]
theorem splitK_parts (c : UInt8) : ∀ (l : List UInt8) (k : Nat), l.count c ≤ k → Lib.splitK [c] 0 k l = parts c l := by
  intro l
  induction l with
  | nil =>
    intro k _
    cases k with
    | zero => rfl
    | succ k => unfold Lib.splitK; rw [if_pos (by simp [Lib.index])]; rfl
  | cons x xs ih =>
    intro k hk
    by_cases h : x = c
    · subst h
      rw [List.count_cons_self] at hk
      cases k with
      | zero => omega
      | succ k =>
        unfold Lib.splitK
        rw [index_head_, if_neg (by simp), parts, if_pos rfl]
        simp only [Int.toNat_zero, Nat.zero_add, List.take_zero, List.length_cons, List.length_nil, List.drop_succ_cons, List.drop_zero]
        rw [ih k (by omega)]
    · rw [List.count_cons_of_ne (by simpa using h)] at hk
      rw [parts, if_neg h, ← ih k hk]
      cases k with
      | zero => rfl
      | succ k =>
        unfold Lib.splitK
        rw [index_cons_ x c xs h]
        by_cases m : Lib.index xs [c] = -1
        · rw [if_pos (by rw [m]; simp), if_pos (by rw [m]; simp)]; rfl
        · have hge := Lib.index_ge xs [c]
          obtain ⟨j, hj⟩ : ∃ j : Nat, Lib.index xs [c] = j := ⟨(Lib.index xs [c]).toNat, by omega⟩
          have n1 : ((j : Int) == -1) = false := by simp
          have n2 : (((j : Int) + 1) == -1) = false := by simp; omega
          have t1 : ((j : Int) + 1).toNat = j + 1 := by omega
          rw [hj, n1]
          simp only [Bool.false_eq_true, if_false]
          rw [n2]
          simp only [Bool.false_eq_true, if_false, t1, Int.toNat_natCast, Nat.add_zero, List.length_cons, List.length_nil]
          rfl
theorem splitB_parts (c : UInt8) (l : List UInt8) : splitB (mkB l) (mkB [c]) = (parts c l).map mkB := by
  have h1 := Lib.splitB_data (mkB [c]) 0 (Lib.countB (mkB l) (mkB [c])) (mkB l)
  have h2 : Lib.countB (mkB l) (mkB [c]) = l.count c := by
    show Lib.count _ _ = _
    rw [mkB_data, mkB_data, Lib.count_one]
  rw [mkB_data, mkB_data, h2, splitK_parts c l _ (Nat.le_refl _)] at h1
  unfold splitB
  rw [h2]
  have h3 : (parts c l).map mkB = ((Lib.splitB (mkB [c]) 0 (l.count c) (mkB l)).map (·.data.toList)).map mkB := by rw [h1]
  rw [h3, List.map_map]
  have : (mkB ∘ fun x : ByteArray => x.data.toList) = id := by funext x; exact mkB_eq x
  rw [this, List.map_id]
theorem split_eq (c : UInt8) (l : List UInt8) (hl : l.length ≤ 4294967280) : strings_Split.f (mkB l) (mkB [c]) = some ((parts c l).map mkB) := by
  unfold strings_Split.f
  rw [if_pos (by rw [mkB_size]; exact hl), if_pos (by rw [mkB_size]; simp), splitB_parts]

def plainB (b : UInt8) : Bool := decide (32 ≤ b.toNat ∧ b.toNat ≤ 126)
theorem plain_lt {x : UInt8} (h : ¬ ((x.toNat : Int) < 32)) (h2 : ¬ ((x.toNat : Int) > 126)) : plainB x = true := by
  unfold plainB; rw [decide_eq_true_eq]; omega
theorem plain_not1 {x : UInt8} (h : (x.toNat : Int) < 32) : plainB x = false := by
  unfold plainB; rw [decide_eq_false_iff_not]; omega
theorem plain_not2 {x : UInt8} (h : (x.toNat : Int) > 126) : plainB x = false := by
  unfold plainB; rw [decide_eq_false_iff_not]; omega
/-- No part is empty; p: stands the byte ahead (or the begin). -/
def fullP (c : UInt8) : Bool → List UInt8 → Bool
  | p, [] => !p
  | p, x :: xs => if x = c then !p && fullP c true xs else fullP c false xs
theorem fullP_iff (c : UInt8) : ∀ (l : List UInt8), (fullP c true l = true ↔ [] ∉ parts c l) ∧ (fullP c false l = true ↔ [] ∉ (parts c l).tail)
  | [] => by simp [fullP, parts]
  | x :: xs => by
    obtain ⟨h1, h2⟩ := fullP_iff c xs
    by_cases e : x = c
    · subst e
      simp only [fullP, parts, if_true]
      exact ⟨by simp, by simpa using h1⟩
    · simp only [fullP, parts, if_neg e]
      rcases hp : parts c xs with _ | ⟨q, qs⟩
      · exact absurd hp (parts_ne c xs)
      · rw [hp] at h2
        simp only [headOn, List.tail_cons] at h2 ⊢
        exact ⟨by simpa using h2, h2⟩
def dblP (c : UInt8) : Bool → List UInt8 → Bool
  | _, [] => true
  | p, x :: xs => if x = c then !p && dblP c true xs else dblP c false xs
def endP (c : UInt8) : Bool → List UInt8 → Bool
  | p, [] => !p
  | _, x :: xs => endP c (decide (x = c)) xs
theorem fullP_eq (c : UInt8) : ∀ (l : List UInt8) (p : Bool), fullP c p l = (dblP c p l && endP c p l)
  | [], p => by simp [fullP, dblP, endP]
  | x :: xs, p => by
    by_cases e : x = c
    · simp [fullP, dblP, endP, e, fullP_eq c xs, Bool.and_assoc]
    · simp [fullP, dblP, endP, e, fullP_eq c xs]
def textOk (l : List UInt8) : Bool := decide (1 ≤ l.length ∧ l.length ≤ 200) && (l.all plainB && fullP 32 true l)
theorem textOk_true {l : List UInt8} (h : textOk l = true) : 1 ≤ l.length ∧ l.length ≤ 200 ∧ fullP 32 true l = true := by
  simp only [textOk, Bool.and_eq_true, decide_eq_true_eq] at h
  exact ⟨h.1.1, h.1.2, h.2.2⟩
theorem endP_last (c : UInt8) : ∀ (l : List UInt8) (p : Bool) (y : UInt8), l.drop (l.length - 1) = [y] → endP c p l = decide (y ≠ c)
  | [], p, y, h => by simp at h
  | [x], p, y, h => by simp at h; subst h; simp [endP]
  | x :: z :: zs, p, y, h => by
    rw [endP]
    refine endP_last c (z :: zs) _ y ?_
    simp only [List.length_cons] at h ⊢
    rw [show zs.length + 1 + 1 - 1 = (zs.length + 1 - 1) + 1 from by omega, List.drop_succ_cons] at h
    exact h
theorem toNat32 (y : UInt8) : ((y.toNat : Int) = 32) ↔ y = 32 := by
  constructor
  · intro h
    exact UInt8.toNat_inj.1 (by show y.toNat = 32; omega)
  · intro h; subst h; rfl
theorem lnText_l (l : List UInt8) (hl : l.length ≤ 1048576) : ∀ (ys : List UInt8) (i : Nat) (p : Bool), l.drop i = ys → (i = 0 → p = false ∧ ∀ y zs, ys = y :: zs → y ≠ 32) → (∀ z zs, 0 < i → l.drop (i - 1) = z :: zs → p = decide (z = 32)) →
    Ev (fun k => spec_lnText.l0 k (mkB l) (i : Int)) (ys.all plainB && dblP 32 p ys) := by
  intro ys
  induction ys with
  | nil =>
    intro i p h _ _
    have := List.drop_eq_nil_iff.1 h
    refine Ev.step (fun k => spec_lnText.l0.eq_2 ..) ?_
    exact ev_neg (by rw [mkB_size]; omega) (ev_now (by simp [dblP]))
  | cons y ys ih =>
    intro i p h h0 hp
    obtain ⟨g1, g2⟩ := drop_step h
    refine Ev.step (fun k => spec_lnText.l0.eq_2 ..) ?_
    rw [bt_mkB h, mkB_size, w64 (x := (i : Int) + 1) (by omega) (by omega), w64 (x := (i : Int) - 1) (by omega) (by omega)]
    refine ev_pos (by omega) (ev_pos (by omega) ?_)
    by_cases c1 : (y.toNat : Int) < 32
    · exact ev_pos c1 (ev_now (by rw [List.all_cons, plain_not1 c1, Bool.false_and, Bool.false_and]))
    by_cases c2 : (y.toNat : Int) > 126
    · exact ev_neg c1 (ev_pos c2 (ev_now (by rw [List.all_cons, plain_not2 c2, Bool.false_and, Bool.false_and])))
    refine ev_neg c1 (ev_neg c2 ?_)
    have hn := ih (i + 1) (decide (y = 32)) g2 (fun e => by omega) (fun z zs _ hz => by rw [show i + 1 - 1 = i from by omega, h] at hz; injection hz with a _; rw [a])
    rw [show ((i + 1 : Nat) : Int) = (i : Int) + 1 from by omega] at hn
    by_cases c3 : y = 32
    · have hi : 0 < i := by
        rcases Nat.eq_zero_or_pos i with z | z
        · exact absurd c3 ((h0 z).2 y ys rfl)
        · exact z
      obtain ⟨z, zs, hz⟩ : ∃ z zs, l.drop (i - 1) = z :: zs := by
        rcases hd : l.drop (i - 1) with _ | ⟨z, zs⟩
        · have := List.drop_eq_nil_iff.1 hd; omega
        · exact ⟨z, zs, rfl⟩
      have hpz := hp z zs hi hz
      have hb : bt (mkB l) ((i : Int) - 1) = (z.toNat : Int) := by rw [show (i : Int) - 1 = ((i - 1 : Nat) : Int) from by omega]; exact bt_mkB hz
      rw [hb]
      refine ev_pos ((toNat32 y).2 c3) (ev_pos (by omega) (ev_pos (by omega) ?_))
      by_cases c4 : z = 32
      · refine ev_pos ((toNat32 z).2 c4) (ev_now ?_)
        rw [dblP, if_pos c3, hpz, decide_eq_true c4]; simp
      · refine ev_neg (fun q => c4 ((toNat32 z).1 q)) (ev_val hn ?_)
        rw [List.all_cons, plain_lt c1 c2, Bool.true_and, dblP, if_pos c3, hpz, decide_eq_false c4, decide_eq_true c3]; simp
    · refine ev_neg (fun q => c3 ((toNat32 y).1 q)) (ev_val hn ?_)
      rw [List.all_cons, plain_lt c1 c2, Bool.true_and, dblP, if_neg c3, decide_eq_false c3]
theorem lnText_ev (l : List UInt8) (hl : l.length ≤ 1048576) : Ev (fun k => spec_lnText.f k (mkB l)) (textOk l) := by
  unfold spec_lnText.f
  rw [mkB_size]
  refine ev_some (l1In_eq ..) ?_
  by_cases h : 1 ≤ (l.length : Int) ∧ (l.length : Int) ≤ 200
  · have e : (1 ≤ l.length ∧ l.length ≤ 200) := by omega
    refine ev_pos (decide_eq_true h) (ev_pos (by omega) ?_)
    obtain ⟨x, xs, hx⟩ : ∃ x xs, l = x :: xs := by
      rcases l with _ | ⟨x, xs⟩
      · simp at e
      · exact ⟨x, xs, rfl⟩
    have hd0 : l.drop 0 = x :: xs := by rw [List.drop_zero, hx]
    have hb0 : bt (mkB l) 0 = (x.toNat : Int) := bt_mkB (i := 0) hd0
    obtain ⟨y, hy⟩ : ∃ y, l.drop (l.length - 1) = [y] := by
      have hlen : (l.drop (l.length - 1)).length = 1 := by rw [List.length_drop]; omega
      rcases hd : l.drop (l.length - 1) with _ | ⟨y, ys⟩
      · rw [hd] at hlen; simp at hlen
      · rw [hd] at hlen; simp at hlen; rw [hlen]; exact ⟨y, rfl⟩
    have hb1 : bt (mkB l) ((l.length : Int) - 1) = (y.toNat : Int) := by rw [show (l.length : Int) - 1 = ((l.length - 1 : Nat) : Int) from by omega]; exact bt_mkB hy
    rw [w64 (x := (l.length : Int) - 1) (by omega) (by omega), hb0, hb1]
    have hfull := fullP_eq 32 l true
    have hend := endP_last 32 l true y hy
    by_cases c1 : x = 32
    · refine ev_pos ((toNat32 x).2 c1) (Ev.step (fun k => spec_lnText.j0.eq_2 ..) (ev_pos rfl (ev_now ?_)))
      unfold textOk
      have : dblP 32 true l = false := by rw [hx, dblP, if_pos c1]; rfl
      rw [hfull, this]; simp
    · refine ev_neg (fun q => c1 ((toNat32 x).1 q)) (ev_pos (by omega) (ev_pos (by omega) (Ev.step (fun k => spec_lnText.j0.eq_2 ..) ?_)))
      by_cases c2 : y = 32
      · refine ev_pos (by rw [beq_iff_eq]; exact (toNat32 y).2 c2) (ev_now ?_)
        unfold textOk
        have q1 : decide (y ≠ 32) = false := decide_eq_false (fun z => z c2)
        rw [hfull, hend, q1]; simp
      · refine ev_neg (by rw [beq_iff_eq]; exact fun q => c2 ((toNat32 y).1 q)) ?_
        refine ev_val (lnText_l l hl l 0 false rfl (fun _ => ⟨rfl, fun a b hab => by rw [hx] at hab; injection hab with q _; rw [← q]; exact c1⟩) (fun _ _ z => by omega)) ?_
        unfold textOk
        have hdd : dblP 32 true l = dblP 32 false l := by rw [hx, dblP, dblP, if_neg c1, if_neg c1]
        have q1 : decide (y ≠ 32) = true := decide_eq_true c2
        rw [decide_eq_true e, Bool.true_and, hfull, hend, hdd, q1, Bool.and_true]
  · have e : ¬ (1 ≤ l.length ∧ l.length ≤ 200) := by omega
    refine ev_neg (by rw [decide_eq_false h]; simp) (Ev.step (fun k => spec_lnText.j0.eq_2 ..) (ev_pos rfl (ev_now ?_)))
    unfold textOk
    rw [decide_eq_false e, Bool.false_and]
theorem isText_end (l : List UInt8) (hl : l.length ≤ 1048576) : Ev (fun _ => (impl_within.f ((mkB l).size : Int) 1 200).bind fun t105 => (if t105 = true then ((strings_Split.f (mkB l) (⟨#[32]⟩ : ByteArray)).bind fun t106 => ((slices_Contains_string_string.f t106 (⟨#[]⟩ : ByteArray)).bind fun t109 => (some (!t109)))) else (some false))) (decide (1 ≤ l.length ∧ l.length ≤ 200) && fullP 32 true l) := by
  rw [mkB_size]
  refine ev_some (within_eq ..) ?_
  by_cases h : 1 ≤ (l.length : Int) ∧ (l.length : Int) ≤ 200
  · have e : (1 ≤ l.length ∧ l.length ≤ 200) := by omega
    refine ev_pos (decide_eq_true h) (ev_some (split_eq 32 l (by omega)) (ev_some rfl (ev_now ?_)))
    rw [decide_eq_true e, Bool.true_and]
    have hc : Lib.containsS ((parts 32 l).map mkB) (⟨#[]⟩ : ByteArray) = decide ([] ∈ parts 32 l) := by
      rw [Bool.eq_iff_iff, Lib.containsS_iff, decide_eq_true_eq]
      have e0 : (⟨#[]⟩ : ByteArray) = mkB [] := rfl
      rw [e0]
      constructor
      · intro hm
        obtain ⟨q, hq, hqe⟩ := List.mem_map.1 hm
        rw [← mkB_inj hqe]; exact hq
      · intro hm
        exact List.mem_map.2 ⟨[], hm, rfl⟩
    rw [hc]
    have := (fullP_iff 32 l).1
    rw [Bool.eq_iff_iff, this]
    simp
  · have e : ¬ (1 ≤ l.length ∧ l.length ≤ 200) := by omega
    refine ev_neg (by rw [decide_eq_false h]; simp) (ev_now ?_)
    rw [decide_eq_false e, Bool.false_and]
theorem isText_l (l : List UInt8) (hl : l.length ≤ 1048576) : ∀ (ys : List UInt8) (i : Nat), l.drop i = ys →
    Ev (fun k => impl_isText.l0 k (mkB l) (l.length : Int) (i : Int)) (decide (1 ≤ l.length ∧ l.length ≤ 200) && (ys.all plainB && fullP 32 true l)) := by
  intro ys
  induction ys with
  | nil =>
    intro i h
    have := List.drop_eq_nil_iff.1 h
    refine Ev.step (fun k => impl_isText.l0.eq_2 ..) ?_
    exact ev_neg (by omega) (ev_val (isText_end l hl) (by simp))
  | cons y ys ih =>
    intro i h
    obtain ⟨g1, g2⟩ := drop_step h
    refine Ev.step (fun k => impl_isText.l0.eq_2 ..) ?_
    rw [bt_mkB h, w64 (x := (i : Int) + 1) (by omega) (by omega)]
    refine ev_pos (by omega) (ev_pos (by omega) (ev_pos (by rw [mkB_size]; omega) ?_))
    by_cases c1 : (y.toNat : Int) < 32
    · exact ev_pos c1 (ev_now (by rw [List.all_cons, plain_not1 c1]; simp))
    by_cases c2 : (y.toNat : Int) > 126
    · exact ev_neg c1 (ev_pos c2 (ev_now (by rw [List.all_cons, plain_not2 c2]; simp)))
    have := ih (i + 1) g2
    rw [show ((i + 1 : Nat) : Int) = (i : Int) + 1 from by omega] at this
    exact ev_neg c1 (ev_neg c2 (ev_val this (by rw [List.all_cons, plain_lt c1 c2, Bool.true_and])))
theorem isText_ev (l : List UInt8) (hl : l.length ≤ 1048576) : Ev (fun k => impl_isText.f k (mkB l)) (textOk l) := by
  unfold impl_isText.f textOk
  rw [mkB_size]
  exact isText_l l hl l 0 rfl

theorem l1Split_l (c : UInt8) (l : List UInt8) (hl : l.length ≤ 2000000) : ∀ (ys : List UInt8) (i frm : Nat) (acc : List ByteArray), l.drop i = ys → i ≤ l.length → frm ≤ i → acc.length + ys.length ≤ 2000000 →
    Ev (fun k => spec_l1Split.l0 k (mkB l) (c.toNat : Int) acc (frm : Int) (i : Int)) (acc ++ (glue ((l.take i).drop frm) (parts c ys)).map mkB) := by
  intro ys
  induction ys with
  | nil =>
    intro i frm acc h hi hf ha
    have := List.drop_eq_nil_iff.1 h
    refine Ev.step (fun k => spec_l1Split.l0.eq_2 ..) ?_
    rw [mkB_size, Int.toNat_natCast]
    have e0 : (mkB l).extract frm l.length = mkB (l.drop frm) := by have := mkB_drop l frm; rw [mkB_size] at this; exact this
    rw [e0]
    refine ev_neg (by omega) (ev_pos (by omega) (ev_pos (by omega) (ev_pos (by simp only [List.length_nil] at ha; omega) (ev_now ?_))))
    rw [parts, glue, List.take_of_length_le (by omega)]
    simp
  | cons y ys ih =>
    intro i frm acc h hi hf ha
    obtain ⟨g1, g2⟩ := drop_step h
    simp only [List.length_cons] at ha
    refine Ev.step (fun k => spec_l1Split.l0.eq_2 ..) ?_
    rw [bt_mkB h, mkB_size, w64 (x := (i : Int) + 1) (by omega) (by omega), Int.toNat_natCast, Int.toNat_natCast, mkB_slice, show (i : Int) + 1 = ((i + 1 : Nat) : Int) from by omega]
    refine ev_pos (by omega) (ev_pos (by omega) ?_)
    have htk : (l.take (i + 1)).drop frm = (l.take i).drop frm ++ [y] := by
      have e : l.take (i + 1) = l.take i ++ [y] := by
        rw [List.take_add_one]
        have : l[i]? = some y := by rw [List.getElem?_eq_getElem g1]; have := List.drop_eq_getElem_cons g1; rw [h] at this; injection this with a _; rw [a]
        rw [this]; rfl
      rw [e, List.drop_append_of_le_length (by rw [List.length_take]; omega)]
    by_cases e : y = c
    · subst e
      refine ev_pos rfl (ev_pos (by omega) (ev_pos (by omega) (ev_pos (by omega) (ev_pos (by omega) ?_))))
      refine ev_val (ih (i + 1) (i + 1) _ g2 (by omega) (Nat.le_refl _) (by simp only [List.length_append, List.length_cons, List.length_nil]; omega)) ?_
      have e3 : (l.take (i + 1)).drop (i + 1) = [] := List.drop_of_length_le (by rw [List.length_take]; omega)
      rw [e3, glue_nil _ (parts_ne _ _), parts, if_pos rfl]
      simp only [glue, List.append_nil, List.map_cons, List.append_assoc, List.cons_append, List.nil_append]
    · have hne : ¬ ((y.toNat : Int) = (c.toNat : Int)) := fun q => e (UInt8.toNat_inj.1 (by omega))
      refine ev_neg hne (ev_val (ih (i + 1) frm acc g2 (by omega) (by omega) (by omega)) ?_)
      rw [htk, glue_head, parts, if_neg e]
theorem l1Split_ev (c : UInt8) (l : List UInt8) (hl : l.length ≤ 1999999) : Ev (fun k => spec_l1Split.f k (mkB l) (c.toNat : Int)) ((parts c l).map mkB) := by
  unfold spec_l1Split.f
  refine ev_val (l1Split_l c l (by omega) l 0 0 [] rfl (by omega) (Nat.le_refl _) (by simp only [List.length_nil]; omega)) ?_
  rw [List.take_zero, List.drop_nil, glue_nil _ (parts_ne _ _), List.nil_append]

def szL (xs : List ByteArray) : List Int := xs.map fun s => (s.size : Int)
def lensT (l : List UInt8) : List Int := (parts 32 l).map fun p => (p.length : Int)
theorem szL_parts (l : List UInt8) : szL ((parts 32 l).map mkB) = lensT l := by
  unfold szL lensT
  rw [List.map_map]
  apply List.map_congr_left
  intro p _
  exact congrArg (fun n : Nat => (n : Int)) (mkB_size p)
theorem lensT_length (l : List UInt8) : (lensT l).length = (parts 32 l).length := by simp [lensT]
theorem rdOf_drop {xs : List ByteArray} {i : Int} {y : ByteArray} {ys : List ByteArray} (h0 : 0 ≤ i) (h : xs.drop i.toNat = y :: ys) : rdOf ByteArray.empty xs i = y := by
  obtain ⟨_, h2, _, _⟩ := drop_get h0 h
  exact h2 _
theorem lnLengths_l (xs : List ByteArray) (hn : xs.length ≤ 1048576) : ∀ (ys : List ByteArray) (i : Int), 0 ≤ i → xs.drop i.toNat = ys →
    Ev (fun k => spec_lnLengths.l0 k (szL (xs.take i.toNat)) xs (xs.length : Int) i) (szL xs) := by
  intro ys
  induction ys with
  | nil =>
    intro i h0 h
    have := drop_nil h0 h
    refine Ev.step (fun k => spec_lnLengths.l0.eq_2 ..) ?_
    exact ev_neg (by omega) (ev_now (by rw [List.take_of_length_le (by omega)]))
  | cons y ys ih =>
    intro i h0 h
    obtain ⟨h1, _, h3, h4⟩ := drop_get h0 h
    refine Ev.step (fun k => spec_lnLengths.l0.eq_2 ..) ?_
    rw [rdOf_drop h0 h, w64 (x := i + 1) (by omega) (by omega)]
    refine ev_pos h1 (ev_pos h0 (ev_pos h1 (ev_pos (by unfold szL; rw [List.length_map, List.length_take]; omega) ?_)))
    have := ih (i + 1) (by omega) h3
    rw [h4] at this
    unfold szL at this ⊢
    rw [List.map_append] at this
    exact this
theorem lnLengths_ev (xs : List ByteArray) (hn : xs.length ≤ 1048576) : Ev (fun k => spec_lnLengths.f k xs) (szL xs) := by
  unfold spec_lnLengths.f
  exact lnLengths_l xs hn xs 0 (by omega) rfl
theorem lnParts_ev (l : List UInt8) (hl : l.length ≤ 1048575) : Ev (fun k => spec_lnParts.f k (mkB l)) ((parts 32 l).map mkB) := by
  unfold spec_lnParts.f
  exact Ev.bind (l1Split_ev 32 l (by omega)) (ev_now rfl)
def wordsM (l : List UInt8) : List Int × Bool := if textOk l = true then (if wordsB (lensT l) = true then (lensT l, true) else ([], false)) else ([], false)
theorem implWords_l (xs : List ByteArray) (hn : xs.length ≤ 1048576) : ∀ (ys : List ByteArray) (i : Int), 0 ≤ i → xs.drop i.toNat = ys →
    Ev (fun k => impl_WordsOfText.l0 k (szL (xs.take i.toNat)) xs (xs.length : Int) i) (if wordsB (szL xs) = true then (szL xs, true) else ([], false)) := by
  intro ys
  induction ys with
  | nil =>
    intro i h0 h
    have := drop_nil h0 h
    refine Ev.step (fun k => impl_WordsOfText.l0.eq_2 ..) ?_
    rw [List.take_of_length_le (by omega)]
    refine ev_neg (by omega) (Ev.bind (AreWords_ev (szL xs) (by unfold szL; rw [List.length_map]; omega)) ?_)
    by_cases c : wordsB (szL xs) = true
    · exact ev_pos c (ev_now (by rw [if_pos c]))
    · exact ev_neg c (ev_now (by rw [if_neg c]))
  | cons y ys ih =>
    intro i h0 h
    obtain ⟨h1, _, h3, h4⟩ := drop_get h0 h
    refine Ev.step (fun k => impl_WordsOfText.l0.eq_2 ..) ?_
    rw [rdOf_drop h0 h, w64 (x := i + 1) (by omega) (by omega)]
    refine ev_pos h1 (ev_pos h0 (ev_pos h1 (ev_pos (by unfold szL; rw [List.length_map, List.length_take]; omega) ?_)))
    have := ih (i + 1) (by omega) h3
    rw [h4] at this
    unfold szL at this ⊢
    rw [List.map_append] at this
    exact this
theorem parts_small (l : List UInt8) (h : l.length ≤ 1048575) : ((parts 32 l).map mkB).length ≤ 1048576 := by
  have := parts_length 32 l
  rw [List.length_map]; omega
theorem implWords_ev (l : List UInt8) (hl : l.length ≤ 1048576) : Ev (fun k => impl_WordsOfText.f k (mkB l)) (wordsM l) := by
  unfold impl_WordsOfText.f wordsM
  refine Ev.bind (isText_ev l hl) ?_
  by_cases h : textOk l = true
  · have ht := textOk_true h
    refine ev_pos h (ev_some (split_eq 32 l (by omega)) ?_)
    rw [if_pos h]
    have := implWords_l ((parts 32 l).map mkB) (parts_small l (by omega)) _ 0 (by omega) rfl
    rw [szL_parts] at this
    exact this
  · exact ev_neg h (ev_now (by rw [if_neg h]))

theorem repeat_eq (o : List UInt8) (d : Nat) (ho : o.length ≤ 1048576) (hd : d ≤ 1048576) : strings_Repeat.f (mkB o) (d : Int) = some (mkB (Lib.repeatL o d)) := by
  unfold strings_Repeat.f
  rw [if_pos (by omega), if_pos (by omega), if_pos (by rw [mkB_size]; exact ho), Int.toNat_natCast, mkB_data]
  rfl
theorem repeatL_len (o : List UInt8) (c : Nat) : (Lib.repeatL o c).length = c * o.length := Lib.repeatL_length o c

def sp (n : Nat) : List UInt8 := Lib.repeatL [32] n
theorem sp_len (n : Nat) : (sp n).length = n := by unfold sp; rw [repeatL_len]; simp
theorem sp_succ (n : Nat) : sp (n + 1) = [32] ++ sp n := rfl
/-- The line's bytes against the text's: what is left of the text behind the line; blanks may be more. -/
def matL : List UInt8 → List UInt8 → Option (List UInt8)
  | [], ts => some ts
  | c :: cs, [] => if c = 32 then matL cs [] else none
  | c :: cs, t :: ts => if c = t then matL cs ts else if c = 32 then matL cs (t :: ts) else none
theorem matL_same (cs ts : List UInt8) : ∀ (p : List UInt8), matL (p ++ cs) (p ++ ts) = matL cs ts
  | [] => rfl
  | x :: p => by rw [List.cons_append, List.cons_append, matL, if_pos rfl, matL_same cs ts p]
theorem matL_sp (cs : List UInt8) (t : UInt8) (ts : List UInt8) (ht : t ≠ 32) : ∀ (n : Nat), matL (sp n ++ cs) (t :: ts) = matL cs (t :: ts)
  | 0 => rfl
  | n + 1 => by
    rw [sp_succ, List.append_assoc, List.singleton_append, matL, if_neg (fun e => ht e.symm), if_pos rfl, matL_sp cs t ts ht n]
def joinT : List (List UInt8) → List UInt8
  | [] => []
  | p :: ps => 32 :: (p ++ joinT ps)
theorem parts_join : ∀ (l p : List UInt8) (ps : List (List UInt8)), parts 32 l = p :: ps → l = p ++ joinT ps
  | [], p, ps, h => by
    rw [parts] at h
    injection h with h1 h2
    subst h1; subst h2; rfl
  | x :: xs, p, ps, h => by
    rw [parts] at h
    obtain ⟨q, qs, hq⟩ : ∃ q qs, parts 32 xs = q :: qs := by
      rcases hd : parts 32 xs with _ | ⟨q, qs⟩
      · exact absurd hd (parts_ne 32 xs)
      · exact ⟨q, qs, rfl⟩
    have ih := parts_join xs q qs hq
    rw [hq] at h
    by_cases e : x = 32
    · rw [if_pos e] at h
      injection h with h1 h2
      subst h1; subst h2
      rw [e, List.nil_append, joinT, ← ih]
    · rw [if_neg e] at h
      simp only [headOn] at h
      injection h with h1 h2
      subst h1; subst h2
      rw [List.cons_append, ← ih]
theorem parts_no (c : UInt8) : ∀ (l : List UInt8), ∀ p ∈ parts c l, c ∉ p
  | [], p, h => by simp [parts] at h; subst h; simp
  | x :: xs, p, h => by
    rw [parts] at h
    have ih := parts_no c xs
    split at h
    · rcases List.mem_cons.1 h with rfl | h
      · simp
      · exact ih p h
    · rename_i hx
      rcases hp : parts c xs with _ | ⟨q, qs⟩
      · exact absurd hp (parts_ne c xs)
      · rw [hp] at h ih
        rcases List.mem_cons.1 h with rfl | h
        · intro hc
          rcases List.mem_cons.1 hc with e | hc
          · exact hx e.symm
          · exact ih q List.mem_cons_self hc
        · exact ih p (List.mem_cons_of_mem _ h)
theorem parts_sub (c : UInt8) : ∀ (l : List UInt8), ∀ p ∈ parts c l, ∀ x ∈ p, x ∈ l
  | [], p, h, x, hx => by simp [parts] at h; subst h; simp at hx
  | y :: ys, p, h, x, hx => by
    rw [parts] at h
    have ih := parts_sub c ys
    split at h
    · rcases List.mem_cons.1 h with rfl | h
      · simp at hx
      · exact List.mem_cons_of_mem _ (ih p h x hx)
    · rcases hp : parts c ys with _ | ⟨q, qs⟩
      · exact absurd hp (parts_ne c ys)
      · rw [hp] at h ih
        rcases List.mem_cons.1 h with rfl | h
        · rcases List.mem_cons.1 hx with rfl | hx
          · exact List.mem_cons_self
          · exact List.mem_cons_of_mem _ (ih q List.mem_cons_self x hx)
        · exact List.mem_cons_of_mem _ (ih p (List.mem_cons_of_mem _ h) x hx)
def joinS : List Int → List (List UInt8) → List UInt8
  | b :: bs, p :: ps => sp b.toNat ++ p ++ joinS bs ps
  | _, _ => []
def sumL (ps : List (List UInt8)) : Int := (ps.map fun p => (p.length : Int)).sum
theorem joinS_len : ∀ (bs : List Int) (ps : List (List UInt8)), bs.length = ps.length → (∀ b ∈ bs, 1 ≤ b) → ((joinS bs ps).length : Int) = bs.sum + sumL ps
  | [], [], _, _ => by simp [joinS, sumL]
  | [], _ :: _, h, _ => by simp at h
  | _ :: _, [], h, _ => by simp at h
  | b :: bs, p :: ps, h, hb => by
    have ih := joinS_len bs ps (by simpa using h) (fun x hx => hb x (List.mem_cons_of_mem _ hx))
    have h1 := hb b List.mem_cons_self
    have e : sumL (p :: ps) = p.length + sumL ps := by simp [sumL]
    simp only [joinS, List.length_append, sp_len, List.sum_cons, e]
    omega
theorem matL_join : ∀ (bs : List Int) (ps : List (List UInt8)), bs.length = ps.length → (∀ b ∈ bs, 1 ≤ b) → (∀ p ∈ ps, p ≠ [] ∧ (32 : UInt8) ∉ p) → matL (joinS bs ps) (joinT ps) = some []
  | [], [], _, _, _ => rfl
  | [], _ :: _, h, _, _ => by simp at h
  | _ :: _, [], h, _, _ => by simp at h
  | b :: bs, p :: ps, h, hb, hp => by
    have ih := matL_join bs ps (by simpa using h) (fun x hx => hb x (List.mem_cons_of_mem _ hx)) (fun x hx => hp x (List.mem_cons_of_mem _ hx))
    have h1 := hb b List.mem_cons_self
    obtain ⟨h2, h3⟩ := hp p List.mem_cons_self
    obtain ⟨m, hm⟩ : ∃ m, b.toNat = m + 1 := ⟨b.toNat - 1, by omega⟩
    rw [joinS, joinT, hm, sp_succ, List.append_assoc, List.append_assoc, List.singleton_append, matL, if_pos rfl]
    cases p with
    | nil => exact absurd rfl h2
    | cons y p =>
      have hy : y ≠ 32 := fun e => h3 (by rw [e]; exact List.mem_cons_self)
      rw [show (y :: p) ++ joinT ps = y :: (p ++ joinT ps) from rfl, matL_sp _ y _ hy m, show y :: (p ++ joinT ps) = (y :: p) ++ joinT ps from rfl, matL_same, ih]
/-- A text's last byte is no blank. -/
def endsOn (l : List UInt8) : Prop := ∃ ys y, l = ys ++ [y] ∧ y ≠ (32 : UInt8)
theorem endsOn_app (a : List UInt8) {b : List UInt8} (h : endsOn b) : endsOn (a ++ b) := by
  obtain ⟨ys, y, rfl, hy⟩ := h
  exact ⟨a ++ ys, y, by simp, hy⟩
theorem endsOn_part {p : List UInt8} (h1 : p ≠ []) (h2 : (32 : UInt8) ∉ p) : endsOn p := by
  refine ⟨p.dropLast, p.getLast h1, (List.dropLast_concat_getLast h1).symm, fun e => h2 ?_⟩
  rw [← e]; exact List.getLast_mem h1
theorem endsOn_join : ∀ (bs : List Int) (ps : List (List UInt8)), bs.length = ps.length → ps ≠ [] → (∀ p ∈ ps, p ≠ [] ∧ (32 : UInt8) ∉ p) → endsOn (joinS bs ps)
  | _, [], _, h, _ => absurd rfl h
  | [], _ :: _, h, _, _ => by simp at h
  | b :: bs, [p], h, _, hp => by
    have hb : bs = [] := List.eq_nil_of_length_eq_zero (by simpa using h)
    subst hb
    obtain ⟨h2, h3⟩ := hp p List.mem_cons_self
    simp only [joinS, List.append_nil]
    exact endsOn_app _ (endsOn_part h2 h3)
  | b :: bs, p :: q :: ps, h, _, hp => by
    rw [joinS]
    exact endsOn_app _ (endsOn_join bs (q :: ps) (by simpa using h) (by simp) (fun x hx => hp x (List.mem_cons_of_mem _ hx)))
theorem joinS_mem : ∀ (bs : List Int) (ps : List (List UInt8)) (x : UInt8), x ∈ joinS bs ps → x = 32 ∨ ∃ p ∈ ps, x ∈ p
  | b :: bs, p :: ps, x, h => by
    rw [joinS, List.mem_append, List.mem_append] at h
    rcases h with (h | h) | h
    · left
      have : ∀ (n : Nat), x ∈ sp n → x = 32 := by
        intro n
        induction n with
        | zero => intro h; simp [sp, Lib.repeatL] at h
        | succ n ih => intro h; rw [sp_succ, List.singleton_append] at h; rcases List.mem_cons.1 h with e | h; exact e; exact ih h
      exact this _ h
    · exact .inr ⟨p, List.mem_cons_self, h⟩
    · rcases joinS_mem bs ps x h with e | ⟨q, hq, hx⟩
      · exact .inl e
      · exact .inr ⟨q, List.mem_cons_of_mem _ hq, hx⟩
  | [], _, x, h => by simp [joinS] at h
  | _ :: _, [], x, h => by simp [joinS] at h

theorem ct32_ : (⟨#[32]⟩ : ByteArray) = mkB [32] := rfl
theorem ct0_ : (⟨#[]⟩ : ByteArray) = mkB [] := rfl
theorem sumL_head (x : UInt8) (ps : List (List UInt8)) (h : ps ≠ []) : sumL (headOn x ps) = sumL ps + 1 := by
  cases ps with
  | nil => exact absurd rfl h
  | cons p ps => simp only [sumL, headOn, List.map_cons, List.sum_cons, List.length_cons]; omega
theorem parts_sum (c : UInt8) : ∀ (l : List UInt8), sumL (parts c l) + (parts c l).length = (l.length : Int) + 1
  | [] => by simp [parts, sumL]
  | x :: xs => by
    have ih := parts_sum c xs
    rw [parts]
    split
    · simp only [sumL, List.map_cons, List.sum_cons, List.length_cons, List.length_nil] at ih ⊢; omega
    · rw [sumL_head x _ (parts_ne c xs), headOn_length x _ (parts_ne c xs), List.length_cons]; omega
theorem need_parts (l : List UInt8) : needL (lensT l) = (l.length : Int) := by
  have h := parts_sum 32 l
  have h2 := lensT_length l
  have e : needL (lensT l) = sumL (parts 32 l) + (lensT l).length - 1 := rfl
  omega
theorem specStr_l1 (ps : List (List UInt8)) (bs : List Int) (n i : Int) (hi : 0 ≤ i ∧ i ≤ 1000) (p : List UInt8) (qs : List (List UInt8)) (hp : ps.drop (i + 1).toNat = p :: qs) (hpl : p.length ≤ 1000) (r : ByteArray × Bool) : ∀ (m : Nat) (acc : List UInt8), acc.length + m ≤ 1000000 →
    Ev (fun k => spec_StretchText.l0 k (ps.map mkB) (mkB (acc ++ (sp m ++ p))) bs n (i + 1)) r →
    Ev (fun k => spec_StretchText.l1 k (ps.map mkB) (mkB acc) i (m : Int) bs n i) r := by
  intro m
  have hdm : (ps.map mkB).drop (i + 1).toNat = mkB p :: qs.map mkB := by rw [← List.map_drop, hp]; rfl
  have hln : i + 1 < ((ps.map mkB).length : Int) := (drop_get (by omega) hdm).1
  induction m with
  | zero =>
    intro acc ha hr
    refine Ev.step (fun k => spec_StretchText.l1.eq_2 ..) ?_
    rw [w64 (x := i + 1) (by omega) (by omega), rdOf_drop (by omega) hdm, mkB_append, mkB_size, mkB_size]
    refine ev_neg (by omega) (ev_pos (by omega) (ev_pos hln (ev_pos (by omega) ?_)))
    simpa [sp, Lib.repeatL] using hr
  | succ m ih =>
    intro acc ha hr
    refine Ev.step (fun k => spec_StretchText.l1.eq_2 ..) ?_
    rw [w64 (x := ((m + 1 : Nat) : Int) - 1) (by omega) (by omega), show ((m + 1 : Nat) : Int) - 1 = (m : Int) from by omega, ct32_, mkB_append, mkB_size]
    refine ev_pos (by omega) (ev_pos (by omega) (ih (acc ++ [32]) (by simp only [List.length_append, List.length_cons, List.length_nil]; omega) ?_))
    have e : acc ++ [32] ++ (sp m ++ p) = acc ++ (sp (m + 1) ++ p) := by rw [sp_succ]; simp
    rw [e]; exact hr
theorem specStr_l (ps : List (List UInt8)) (hpn : ps.length ≤ 1000) (hpb : ∀ p ∈ ps, p.length ≤ 1000) (bs : List Int) (_hbn : bs.length ≤ 1000) (hbb : ∀ b ∈ bs, 0 ≤ b ∧ b ≤ 1000) : ∀ (ys : List Int) (i : Int) (qs : List (List UInt8)) (acc : List UInt8), 0 ≤ i → bs.drop i.toNat = ys → ps.drop (i + 1).toNat = qs → qs.length = ys.length → acc.length + 2000 * ys.length ≤ 500000 →
    Ev (fun k => spec_StretchText.l0 k (ps.map mkB) (mkB acc) bs (bs.length : Int) i) (mkB (acc ++ joinS ys qs), true) := by
  intro ys
  induction ys with
  | nil =>
    intro i qs acc h0 h _ _ _
    have := drop_nil h0 h
    refine Ev.step (fun k => spec_StretchText.l0.eq_2 ..) ?_
    exact ev_neg (by omega) (ev_now (by simp [joinS]))
  | cons y ys ih =>
    intro i qs acc h0 h hq hl ha
    obtain ⟨h1, h2, h3, _⟩ := drop_cons h0 h
    obtain ⟨p, qs, rfl⟩ : ∃ p qs', qs = p :: qs' := by
      rcases qs with _ | ⟨p, qs⟩
      · simp at hl
      · exact ⟨p, qs, rfl⟩
    have hb := hbb y (List.mem_of_mem_drop (by rw [h]; exact List.mem_cons_self))
    have hpl := hpb p (List.mem_of_mem_drop (by rw [hq]; exact List.mem_cons_self))
    obtain ⟨_, _, q3, _⟩ := drop_get (by omega) hq
    simp only [List.length_cons] at hl ha
    obtain ⟨m, rfl⟩ : ∃ m : Nat, y = m := ⟨y.toNat, by omega⟩
    refine Ev.step (fun k => spec_StretchText.l0.eq_2 ..) ?_
    rw [h2]
    refine ev_pos h1 (ev_pos h0 (ev_pos h1 ?_))
    refine specStr_l1 ps bs _ i (by omega) p qs hq hpl _ m acc (by omega) ?_
    have s := sp_len m
    refine ev_val (ih (i + 1) qs _ (by omega) h3 q3 (by omega) (by simp only [List.length_append]; omega)) ?_
    simp [joinS]
theorem implStr_l (ps : List (List UInt8)) (hpn : ps.length ≤ 1000) (hpb : ∀ p ∈ ps, p.length ≤ 1000) (bs : List Int) (_hbn : bs.length ≤ 1000) (hbb : ∀ b ∈ bs, 0 ≤ b ∧ b ≤ 1000) : ∀ (ys : List Int) (i : Int) (qs : List (List UInt8)) (acc : List UInt8), 0 ≤ i → bs.drop i.toNat = ys → ps.drop (i + 1).toNat = qs → qs.length = ys.length → acc.length + 2000 * ys.length ≤ 500000 →
    Ev (fun k => impl_StretchText.l0 k bs (mkB acc) (ps.map mkB) ((ps.map mkB).length : Int) (i + 1)) (mkB (acc ++ joinS ys qs), true) := by
  intro ys
  induction ys with
  | nil =>
    intro i qs acc h0 h hq hl _
    have hq0 : qs = [] := List.eq_nil_of_length_eq_zero (by simpa using hl)
    subst hq0
    have := drop_nil (by omega) hq
    refine Ev.step (fun k => impl_StretchText.l0.eq_2 ..) ?_
    exact ev_neg (by rw [List.length_map]; omega) (ev_now (by simp [joinS]))
  | cons y ys ih =>
    intro i qs acc h0 h hq hl ha
    obtain ⟨h1, h2, h3, _⟩ := drop_cons h0 h
    obtain ⟨p, qs, rfl⟩ : ∃ p qs', qs = p :: qs' := by
      rcases qs with _ | ⟨p, qs⟩
      · simp at hl
      · exact ⟨p, qs, rfl⟩
    have hb := hbb y (List.mem_of_mem_drop (by rw [h]; exact List.mem_cons_self))
    have hpl := hpb p (List.mem_of_mem_drop (by rw [hq]; exact List.mem_cons_self))
    obtain ⟨q1, _, q3, _⟩ := drop_get (by omega) hq
    have hdm : (ps.map mkB).drop (i + 1).toNat = mkB p :: qs.map mkB := by rw [← List.map_drop, hq]; rfl
    have hln : i + 1 < ((ps.map mkB).length : Int) := (drop_get (by omega) hdm).1
    simp only [List.length_cons] at hl ha
    obtain ⟨m, rfl⟩ : ∃ m : Nat, y = m := ⟨y.toNat, by omega⟩
    have s := sp_len m
    refine Ev.step (fun k => impl_StretchText.l0.eq_2 ..) ?_
    rw [w64 (x := i + 1 - 1) (by omega) (by omega), show i + 1 - 1 = i from by omega, h2, w64 (x := i + 1 + 1) (by omega) (by omega), rdOf_drop (by omega) hdm, ct32_]
    refine ev_pos hln (ev_pos (by omega) (ev_pos hln (ev_pos (by omega) (ev_pos h0 (ev_pos h1 (ev_some (repeat_eq [32] m (by simp) (by omega)) ?_))))))
    have e : Lib.repeatL [32] m = sp m := rfl
    rw [e, mkB_append, mkB_append, mkB_size, mkB_size, mkB_size, mkB_size]
    refine ev_pos (by omega) (ev_pos (by rw [List.length_append]; omega) (ev_val (ih (i + 1) qs _ (by omega) h3 q3 (by omega) (by simp only [List.length_append]; omega)) ?_))
    simp [joinS]
def strOk (l : List UInt8) (w : Int) : Bool := textOk l && stretchB (lensT l) w
def strM (l : List UInt8) (w : Int) : ByteArray × Bool := if strOk l w = true then (mkB ((parts 32 l).headD [] ++ joinS (stretchL (lensT l) w) (parts 32 l).tail), true) else (⟨#[]⟩, false)
theorem specStr_ev (l : List UInt8) (w : Int) (hl : l.length ≤ 1048576) : Ev (fun k => spec_StretchText.f k (mkB l) w) (strM l w) := by
  have fall : ∀ b : Bool, b = true → strOk l w = false → Ev (fun k => spec_StretchText.j0 k (mkB l) w b) (strM l w) := fun b hb hf => by
    refine Ev.step (fun k => spec_StretchText.j0.eq_2 ..) (ev_pos hb (ev_now ?_))
    unfold strM; rw [hf]; rfl
  unfold spec_StretchText.f
  refine Ev.bind (lnText_ev l hl) ?_
  by_cases h1 : textOk l = true
  · have ht := textOk_true h1
    have hpl := parts_length 32 l
    have hll := lensT_length l
    refine ev_pos h1 (Ev.bind (lnParts_ev l (by omega)) (Ev.bind (lnLengths_ev _ (parts_small l (by omega))) ?_))
    rw [szL_parts]
    refine Ev.bind (lnFits_ev (lensT l) w (by omega)) ?_
    by_cases h2 : settingB (lensT l) w = true
    · refine ev_pos h2 (Ev.bind (lnParts_ev l (by omega)) ?_)
      rw [List.length_map, ← hll]
      by_cases h3 : ((lensT l).length : Int) = 1
      · exact ev_pos h3 (fall _ rfl (by unfold strOk stretchB; rw [decide_eq_false (by omega : ¬ ((lensT l).length : Int) ≠ 1)]; simp))
      · refine ev_neg h3 ?_
        rw [mkB_size]
        have hne := need_parts l
        by_cases h4 : (l.length : Int) > w
        · exact fall _ (decide_eq_true h4) (by unfold strOk stretchB; rw [decide_eq_false (by omega : ¬ needL (lensT l) ≤ w)]; simp)
        · have hb : stretchB (lensT l) w = true := by unfold stretchB; rw [h2, decide_eq_true h3, decide_eq_true (by omega : needL (lensT l) ≤ w)]; rfl
          have hok : strOk l w = true := by unfold strOk; rw [h1, hb]; rfl
          obtain ⟨f1, f2, _, f4, f5⟩ := stretchL_facts hb
          obtain ⟨p, qs, hpq⟩ : ∃ p qs, parts 32 l = p :: qs := by
            rcases hd : parts 32 l with _ | ⟨p, qs⟩
            · exact absurd hd (parts_ne 32 l)
            · exact ⟨p, qs, rfl⟩
          refine Ev.step (fun k => spec_StretchText.j0.eq_2 ..) (ev_neg (by simp; omega) (Ev.bind (lnParts_ev l (by omega)) (ev_pos (by rw [List.length_map]; omega) (Ev.bind (lnLengths_ev _ (parts_small l (by omega))) ?_))))
          rw [szL_parts]
          refine Ev.bind (lnStretch_ev (lensT l) w hb) ?_
          have hr0 : rdOf ByteArray.empty ((parts 32 l).map mkB) 0 = mkB p := by rw [hpq]; rfl
          have hpb : ∀ p ∈ parts 32 l, p.length ≤ 1000 := fun p hp => by have := parts_part_len 32 l p hp; omega
          have hpp := hpb p (by rw [hpq]; exact List.mem_cons_self)
          have hpc : (parts 32 l).length = qs.length + 1 := by rw [hpq]; rfl
          rw [hr0]
          refine ev_val (specStr_l (parts 32 l) (by omega) hpb _ (by omega) f4 _ 0 qs p (by omega) rfl (by rw [hpq]; rfl) (by rw [Int.toNat_zero, List.drop_zero]; omega) (by rw [Int.toNat_zero, List.drop_zero]; omega)) ?_
          unfold strM; rw [if_pos hok, hpq]; rfl
    · exact ev_neg h2 (fall _ rfl (by unfold strOk stretchB; rw [Bool.eq_false_iff.2 h2, Bool.false_and, Bool.and_false]))
  · exact ev_neg h1 (fall _ rfl (by unfold strOk; rw [Bool.eq_false_iff.2 h1, Bool.false_and]))
theorem implStr_ev (l : List UInt8) (w : Int) (hl : l.length ≤ 1048576) : Ev (fun k => impl_StretchText.f k (mkB l) w) (strM l w) := by
  unfold impl_StretchText.f
  refine Ev.bind (implWords_ev l hl) ?_
  have no : strOk l w = false → ((⟨#[]⟩ : ByteArray), false) = strM l w := fun h => by unfold strM; rw [h]; rfl
  by_cases h1 : textOk l = true
  · have ht := textOk_true h1
    have hpl := parts_length 32 l
    have hll := lensT_length l
    by_cases h3 : wordsB (lensT l) = true
    · have e : wordsM l = (lensT l, true) := by unfold wordsM; rw [if_pos h1, if_pos h3]
      rw [e]
      refine ev_pos rfl (Ev.bind (implStretch_ev (lensT l) w (by omega)) ?_)
      by_cases hb : stretchB (lensT l) w = true
      · have hok : strOk l w = true := by unfold strOk; rw [h1, hb]; rfl
        have hM : stretchM (lensT l) w = stretchL (lensT l) w := by unfold stretchM; rw [if_pos hb]
        rw [hM]
        obtain ⟨f1, f2, _, f4, f5⟩ := stretchL_facts hb
        obtain ⟨p, qs, hpq⟩ : ∃ p qs, parts 32 l = p :: qs := by
          rcases hd : parts 32 l with _ | ⟨p, qs⟩
          · exact absurd hd (parts_ne 32 l)
          · exact ⟨p, qs, rfl⟩
        have hpb : ∀ p ∈ parts 32 l, p.length ≤ 1000 := fun p hp => by have := parts_part_len 32 l p hp; omega
        have hpp := hpb p (by rw [hpq]; exact List.mem_cons_self)
        have hpc : (parts 32 l).length = qs.length + 1 := by rw [hpq]; rfl
        refine ev_pos hb (ev_some (split_eq 32 l (by omega)) ?_)
        have hr0 : rdOf ByteArray.empty ((parts 32 l).map mkB) 0 = mkB p := by rw [hpq]; rfl
        refine Ev.step (fun k => impl_StretchText.l0.eq_2 ..) ?_
        rw [hr0, ct0_, mkB_append, mkB_size, mkB_size, w64 (x := 0 + 1) (by omega) (by omega)]
        refine ev_pos (by rw [List.length_map]; omega) (ev_pos (by omega) (ev_pos (by rw [List.length_map]; omega) (ev_neg (by omega) (ev_pos (by simp only [List.length_nil]; omega) ?_))))
        refine ev_val (implStr_l (parts 32 l) (by omega) hpb _ (by omega) f4 _ 0 qs p (by omega) rfl (by rw [hpq]; rfl) (by rw [Int.toNat_zero, List.drop_zero]; omega) (by rw [Int.toNat_zero, List.drop_zero]; omega)) ?_
        unfold strM; rw [if_pos hok, hpq]; rfl
      · exact ev_neg hb (ev_now (no (by unfold strOk; rw [Bool.eq_false_iff.2 hb, Bool.and_false])))
    · have e : wordsM l = ([], false) := by unfold wordsM; rw [if_pos h1, if_neg h3]
      rw [e]
      exact ev_neg (by simp) (ev_now (no (by unfold strOk stretchB settingB; rw [Bool.eq_false_iff.2 h3]; simp)))
  · have e : wordsM l = ([], false) := by unfold wordsM; rw [if_neg h1]
    rw [e]
    exact ev_neg (by simp) (ev_now (no (by unfold strOk; rw [Bool.eq_false_iff.2 h1, Bool.false_and])))

theorem ce32_ : (⟨#[32]⟩ : ByteArray) = mkB [32] := rfl
theorem sp_snoc (n : Nat) : sp (n + 1) = sp n ++ [32] := by
  unfold sp
  rw [Lib.repeatL_add, Lib.repeatL_one]
def centreL (l : List UInt8) (w : Int) : List UInt8 := (sp ((w.toNat - l.length) / 2) ++ l) ++ sp ((w.toNat - l.length) - (w.toNat - l.length) / 2)
def centreOk (l : List UInt8) (w : Int) : Bool := textOk l && (decide (1 ≤ w ∧ w ≤ 80) && decide (¬ (l.length : Int) > w))
def centreM (l : List UInt8) (w : Int) : ByteArray × Bool := if centreOk l w = true then (mkB (centreL l w), true) else (⟨#[]⟩, false)
theorem specCentre_l (l : List UInt8) (hl : l.length ≤ 200) (w : Nat) (hw : w ≤ 80) (hlw : l.length ≤ w) : ∀ (d j : Nat), j + d = w - l.length →
    Ev (fun k => spec_CentreText.l0 k (mkB l) (w : Int) (mkB ((sp (j / 2) ++ l) ++ sp (j - j / 2))) (d : Int)) (mkB (centreL l (w : Int)), true) := by
  intro d
  induction d with
  | zero =>
    intro j hj
    refine Ev.step (fun k => spec_CentreText.l0.eq_2 ..) ?_
    refine ev_neg (by omega) (ev_now ?_)
    unfold centreL
    rw [Int.toNat_natCast, show w - l.length = j from by omega]
  | succ d ih =>
    intro j hj
    refine Ev.step (fun k => spec_CentreText.l0.eq_2 ..) ?_
    rw [mkB_size, mkB_size, ce32_, mkB_append, mkB_append, w64 (x := (w : Int) - (l.length : Int)) (by omega) (by omega), w64 (x := (w : Int) - (l.length : Int) - ((d + 1 : Nat) : Int)) (by omega) (by omega), w64 (x := ((d + 1 : Nat) : Int) - 1) (by omega) (by omega), show ((d + 1 : Nat) : Int) - 1 = (d : Int) from by omega, show (w : Int) - (l.length : Int) - ((d + 1 : Nat) : Int) = (j : Int) from by omega]
    have hm : Int.tmod (j : Int) 2 = ((j % 2 : Nat) : Int) := by rw [Int.tmod_eq_emod_of_nonneg (by omega)]; omega
    have hsz : ((sp (j / 2) ++ l) ++ sp (j - j / 2)).length = j + l.length := by simp only [List.length_append, sp_len]; omega
    rw [hm, hsz]
    refine ev_pos (by omega) ?_
    have hn := ih (j + 1) (by omega)
    by_cases c : j % 2 = 0
    · refine ev_pos (by omega) (ev_pos (by omega) ?_)
      rw [show (j + 1) / 2 = j / 2 from by omega, show j + 1 - j / 2 = (j - j / 2) + 1 from by omega, sp_snoc, ← List.append_assoc] at hn
      exact hn
    · refine ev_neg (by omega) (ev_pos (by omega) ?_)
      rw [show (j + 1) / 2 = j / 2 + 1 from by omega, show j + 1 - (j / 2 + 1) = j - j / 2 from by omega, sp_succ] at hn
      have e : [32] ++ (sp (j / 2) ++ l ++ sp (j - j / 2)) = [32] ++ sp (j / 2) ++ l ++ sp (j - j / 2) := by simp
      rw [e]
      exact hn
theorem specCentre_ev (l : List UInt8) (w : Int) (hl : l.length ≤ 1048576) : Ev (fun k => spec_CentreText.f k (mkB l) w) (centreM l w) := by
  have fall : ∀ b : Bool, b = true → centreOk l w = false → Ev (fun k => spec_CentreText.j0 k (mkB l) w b) (centreM l w) := fun b hb hf => by
    refine Ev.step (fun k => spec_CentreText.j0.eq_2 ..) (ev_pos hb (ev_now ?_))
    unfold centreM; rw [hf]; rfl
  have ebk : spec_lnWide.f w = some (decide (1 ≤ w ∧ w ≤ 80)) := by unfold spec_lnWide.f; rw [l1In_eq]; rfl
  unfold spec_CentreText.f
  refine Ev.bind (lnText_ev l hl) ?_
  by_cases h1 : textOk l = true
  · have ht := textOk_true h1
    refine ev_pos h1 (ev_some ebk ?_)
    by_cases h2 : 1 ≤ w ∧ w ≤ 80
    · refine ev_pos (decide_eq_true h2) ?_
      rw [mkB_size]
      by_cases h3 : (l.length : Int) > w
      · exact fall _ (decide_eq_true h3) (by unfold centreOk; rw [decide_eq_false (not_not_intro h3), Bool.and_false, Bool.and_false])
      · have hok : centreOk l w = true := by unfold centreOk; rw [h1, decide_eq_true h2, decide_eq_true h3]; rfl
        refine Ev.step (fun k => spec_CentreText.j0.eq_2 ..) (ev_neg (by rw [decide_eq_false h3]; simp) ?_)
        obtain ⟨n, rfl⟩ : ∃ n : Nat, w = n := ⟨w.toNat, by omega⟩
        rw [mkB_size, w64 (x := (n : Int) - (l.length : Int)) (by omega) (by omega), show (n : Int) - (l.length : Int) = ((n - l.length : Nat) : Int) from by omega]
        have := specCentre_l l (by omega) n (by omega) (by omega) (n - l.length) 0 (by omega)
        have e : (sp (0 / 2) ++ l) ++ sp (0 - 0 / 2) = l := by simp [sp, Lib.repeatL]
        rw [e] at this
        refine ev_val this ?_
        unfold centreM; rw [if_pos hok]
    · exact ev_neg (by rw [decide_eq_false h2]; simp) (fall _ rfl (by unfold centreOk; rw [decide_eq_false h2, Bool.false_and, Bool.and_false]))
  · exact ev_neg h1 (fall _ rfl (by unfold centreOk; rw [Bool.eq_false_iff.2 h1, Bool.false_and]))
theorem implCentre_ev (l : List UInt8) (w : Int) (hl : l.length ≤ 1048576) : Ev (fun k => impl_CentreText.f k (mkB l) w) (centreM l w) := by
  have fall : ∀ b : Bool, b = true → centreOk l w = false → Ev (fun k => impl_CentreText.j0 k (mkB l) w b) (centreM l w) := fun b hb hf => by
    refine Ev.step (fun k => impl_CentreText.j0.eq_2 ..) (ev_pos hb (ev_now ?_))
    unfold centreM; rw [hf]; rfl
  unfold impl_CentreText.f
  refine Ev.bind (isText_ev l hl) ?_
  by_cases h1 : textOk l = true
  · have ht := textOk_true h1
    refine ev_pos h1 (ev_some (within_eq ..) ?_)
    by_cases h2 : 1 ≤ w ∧ w ≤ 80
    · refine ev_pos (decide_eq_true h2) ?_
      rw [mkB_size]
      by_cases h3 : (l.length : Int) > w
      · exact fall _ (decide_eq_true h3) (by unfold centreOk; rw [decide_eq_false (not_not_intro h3), Bool.and_false, Bool.and_false])
      · have hok : centreOk l w = true := by unfold centreOk; rw [h1, decide_eq_true h2, decide_eq_true h3]; rfl
        refine Ev.step (fun k => impl_CentreText.j0.eq_2 ..) (ev_neg (by rw [decide_eq_false h3]; simp) ?_)
        obtain ⟨n, rfl⟩ : ∃ n : Nat, w = n := ⟨w.toNat, by omega⟩
        have e0 : (n : Int) - (l.length : Int) = ((n - l.length : Nat) : Int) := by omega
        have e1 : Int.tdiv ((n - l.length : Nat) : Int) 2 = (((n - l.length) / 2 : Nat) : Int) := by rw [Int.tdiv_eq_ediv_of_nonneg (by omega)]; omega
        have e2 : ((n - l.length : Nat) : Int) - (((n - l.length) / 2 : Nat) : Int) = ((n - l.length - (n - l.length) / 2 : Nat) : Int) := by omega
        rw [mkB_size, w64 (x := (n : Int) - (l.length : Int)) (by omega) (by omega), e0, e1, w64 (x := (((n - l.length) / 2 : Nat) : Int)) (by omega) (by omega), e2, w64 (x := ((n - l.length - (n - l.length) / 2 : Nat) : Int)) (by omega) (by omega), ce32_]
        refine ev_some (repeat_eq [32] ((n - l.length) / 2) (by simp) (by omega)) ?_
        have s1 := sp_len ((n - l.length) / 2)
        have s2 := sp_len (n - l.length - (n - l.length) / 2)
        unfold sp at s1 s2
        rw [mkB_size, mkB_append]
        refine ev_pos (by omega) (ev_some (repeat_eq [32] (n - l.length - (n - l.length) / 2) (by simp) (by omega)) ?_)
        rw [mkB_size, mkB_size, mkB_append]
        refine ev_pos (by rw [List.length_append]; omega) (ev_now ?_)
        unfold centreM centreL sp; rw [if_pos hok, Int.toNat_natCast]
    · exact ev_neg (by rw [decide_eq_false h2]; simp) (fall _ rfl (by unfold centreOk; rw [decide_eq_false h2, Bool.false_and, Bool.and_false]))
  · exact ev_neg h1 (fall _ rfl (by unfold centreOk; rw [Bool.eq_false_iff.2 h1, Bool.false_and]))

/-- The breaks behind the inner lines of a paragraph of n lines, b lines ahead of it. -/
def midL (b : Int) (m : Nat) (k : Int) : List Int := (List.range m).map (fun j : Nat => b + (k + j))
theorem midL_zero (b k : Int) : midL b 0 k = [] := rfl
theorem midL_succ (b : Int) (m : Nat) (k : Int) : midL b (m + 1) k = (b + k) :: midL b m (k + 1) := by
  unfold midL
  rw [List.range_succ_eq_map, List.map_cons, List.map_map]
  congr 1
  · simp
  · refine List.map_congr_left fun j _ => ?_
    simp only [Function.comp_apply]
    omega
theorem midL_length (b : Int) (m : Nat) (k : Int) : (midL b m k).length = m := by simp [midL]
/-- All allowed breaks, that behind all lines the last one. -/
def allowL : Int → List Int → List Int
  | _, [] => []
  | b, n :: ns => midL b (n - 3).toNat 2 ++ (b + n) :: allowL (b + n) ns
theorem allowL_length : ∀ (ns : List Int) (b : Int), (∀ n ∈ ns, n ≤ 60) → (allowL b ns).length ≤ 61 * ns.length
  | [], b, _ => by simp [allowL]
  | n :: ns, b, h => by
    have h1 := h n List.mem_cons_self
    have ih := allowL_length ns (b + n) (fun x hx => h x (List.mem_cons_of_mem _ hx))
    simp only [allowL, List.length_append, midL_length, List.length_cons]
    omega
def parB (l : List Int) (a : Int) : Bool := decide (1 ≤ (l.length : Int) ∧ (l.length : Int) ≤ 12) && (decide (∀ n ∈ l, 1 ≤ n ∧ n ≤ 60) && decide (2 ≤ a ∧ a ≤ 60))
theorem parB_true {l : List Int} {a : Int} (h : parB l a = true) : (1 ≤ (l.length : Int) ∧ (l.length : Int) ≤ 12) ∧ (∀ n ∈ l, 1 ≤ n ∧ n ≤ 60) ∧ (2 ≤ a ∧ a ≤ 60) := by
  simpa [parB, and_assoc] using h

theorem lnPages_ev (l : List Int) (a : Int) (hn : l.length < 4611686018427387904) : Ev (fun k => spec_lnPages.f k l a) (parB l a) := by
  unfold spec_lnPages.f parB
  refine ev_some (l1In_eq ..) ?_
  by_cases h : 1 ≤ (l.length : Int) ∧ (l.length : Int) ≤ 12
  · refine ev_pos (by simpa using h) (Ev.bind (l1All_ev l 1 60 hn) ?_)
    by_cases h2 : ∀ n ∈ l, 1 ≤ n ∧ n ≤ 60
    · exact ev_pos (decide_eq_true h2) (ev_some (l1In_eq ..) (ev_now (by rw [decide_eq_true h, decide_eq_true h2]; rfl)))
    · exact ev_neg (by rw [decide_eq_false h2]; simp) (ev_now (by rw [decide_eq_false h2]; simp))
  · exact ev_neg (by simpa using h) (ev_now (by simp [h]))
theorem areParagraphs_ev (l : List Int) (a : Int) (hn : l.length < 4611686018427387904) : Ev (fun k => impl_areParagraphs.f k l a) (parB l a) := by
  unfold impl_areParagraphs.f parB
  refine ev_some (within_eq ..) ?_
  by_cases h : 1 ≤ (l.length : Int) ∧ (l.length : Int) ≤ 12
  · refine ev_pos (by simpa using h) (Ev.bind (allWithin_ev l 1 60 hn) ?_)
    by_cases h2 : ∀ n ∈ l, 1 ≤ n ∧ n ≤ 60
    · exact ev_pos (decide_eq_true h2) (ev_some (within_eq ..) (ev_now (by rw [decide_eq_true h, decide_eq_true h2]; rfl)))
    · exact ev_neg (by rw [decide_eq_false h2]; simp) (ev_now (by rw [decide_eq_false h2]; simp))
  · exact ev_neg (by simpa using h) (ev_now (by simp [h]))
theorem allowed_l1 (n : Int) (P : List Int) (idx : Int) (r : List Int) (hn0 : 1 ≤ n) (hn : n ≤ 60) : ∀ (m : Nat) (x b : Int) (out : List Int), 2 ≤ x → x ≤ 61 → 0 ≤ b → b ≤ 100000 → (n - 1 - x).toNat = m → out.length + m < 1000000 →
    Ev (fun k => impl_allowed.l0 k (out ++ midL b m x ++ [b + n]) (b + n) P (P.length : Int) (wrap64 (idx + 1))) r → Ev (fun k => impl_allowed.l1 k out b n x P (P.length : Int) idx) r := by
  intro m
  induction m with
  | zero =>
    intro x b out hx hx2 hb0 hb hm ho h
    refine Ev.step (fun k => impl_allowed.l1.eq_2 ..) ?_
    rw [w64 (x := n - 1) (by omega) (by omega), w64 (x := b + n) (by omega) (by omega)]
    refine ev_neg (by omega) (ev_pos (by omega) ?_)
    simpa [midL_zero] using h
  | succ m ih =>
    intro x b out hx hx2 hb0 hb hm ho h
    refine Ev.step (fun k => impl_allowed.l1.eq_2 ..) ?_
    rw [w64 (x := n - 1) (by omega) (by omega), w64 (x := b + x) (by omega) (by omega), w64 (x := x + 1) (by omega) (by omega)]
    refine ev_pos (by omega) (ev_pos (by omega) ?_)
    refine ih (x + 1) b (out ++ [b + x]) (by omega) (by omega) hb0 hb (by omega) (by simp; omega) ?_
    rw [midL_succ] at h
    simpa using h
theorem allowed_l0 (P : List Int) (hP : P.length ≤ 12) (hin : ∀ n ∈ P, 1 ≤ n ∧ n ≤ 60) : ∀ (ys : List Int) (i b : Int) (out : List Int), 0 ≤ i → P.drop i.toNat = ys → 0 ≤ b → b + 60 * ys.length ≤ 10000 → out.length + 61 * ys.length ≤ 10000 →
    Ev (fun k => impl_allowed.l0 k out b P (P.length : Int) i) (out ++ allowL b ys) := by
  intro ys
  induction ys with
  | nil =>
    intro i b out h0 h _ _ _
    have := drop_nil h0 h
    refine Ev.step (fun k => impl_allowed.l0.eq_2 ..) ?_
    exact ev_neg (by omega) (ev_now (by simp [allowL]))
  | cons y ys ih =>
    intro i b out h0 h hb0 hb ho
    obtain ⟨h1, h2, h3, _⟩ := drop_cons h0 h
    have hy := hin y (List.mem_of_mem_drop (by rw [h]; exact List.mem_cons_self))
    simp only [List.length_cons] at hb ho
    refine Ev.step (fun k => impl_allowed.l0.eq_2 ..) ?_
    refine ev_pos h1 (ev_pos h0 (ev_pos h1 ?_))
    rw [h2]
    refine allowed_l1 y P i _ hy.1 hy.2 (y - 3).toNat 2 b out (by omega) (by omega) hb0 (by omega) (by omega) (by omega) ?_
    rw [w64 (by omega) (by omega)]
    refine ev_val (ih (i + 1) (b + y) _ (by omega) h3 (by omega) (by omega) ?_) (by simp [allowL])
    simp only [List.length_append, midL_length, List.length_cons, List.length_nil]
    omega
theorem allowed_ev (P : List Int) (hP : P.length ≤ 12) (hin : ∀ n ∈ P, 1 ≤ n ∧ n ≤ 60) : Ev (fun k => impl_allowed.f k P) (allowL 0 P) := by
  unfold impl_allowed.f
  exact allowed_l0 P hP hin P 0 0 [] (by omega) rfl (by omega) (by omega) (by simp; omega)

/-- The reference's lines of one paragraph from line x on: the last one of all is told by 'last'. -/
theorem lnAllowed_l1 (P : List Int) (idx n : Int) (hidx : 0 ≤ idx) (hi2 : idx < P.length) (hP : P.length ≤ 12) (r : List Int) (hn0 : 1 ≤ n) (hn : n ≤ 60) (b : Int) (hb0 : 0 ≤ b) (hb : b ≤ 100000) : ∀ (m : Nat) (x : Int) (out : List Int), 1 ≤ x → (n + 1 - x).toNat = m → x ≤ n + 1 → out.length + m < 1000000 →
    Ev (fun k => spec_lnAllowed.l0 k P (out ++ (((List.range m).map (fun j : Nat => x + j)).filter (fun v => decide (v = n ∧ idx ≠ (P.length : Int) - 1) || decide (1 < v ∧ v < n - 1))).map (fun v => b + v)) (b + n) P (P.length : Int) (idx + 1)) r →
    Ev (fun k => spec_lnAllowed.l1 k P out b idx n x P (P.length : Int) idx) r := by
  intro m
  induction m with
  | zero =>
    intro x out hx hm hx2 ho h
    refine Ev.step (fun k => spec_lnAllowed.l1.eq_2 ..) ?_
    rw [w64 (x := b + n) (by omega) (by omega), w64 (x := idx + 1) (by omega) (by omega)]
    refine ev_neg (by omega) ?_
    simpa using h
  | succ m ih =>
    intro x out hx hm hx2 ho h
    refine Ev.step (fun k => spec_lnAllowed.l1.eq_2 ..) ?_
    rw [w64 (x := n - 1) (by omega) (by omega), w64 (x := b + x) (by omega) (by omega), w64 (x := x + 1) (by omega) (by omega), w64 (x := (P.length : Int) - 1) (by omega) (by omega)]
    have er : (List.range (m + 1)).map (fun j : Nat => x + (j : Int)) = x :: (List.range m).map (fun j : Nat => (x + 1) + (j : Int)) := by
      rw [List.range_succ_eq_map, List.map_cons, List.map_map]
      congr 1
      · simp
      · refine List.map_congr_left fun j _ => ?_
        simp only [Function.comp_apply]
        omega
    rw [er] at h
    have skip : ∀ (_ : ¬ (x = n ∧ idx ≠ (P.length : Int) - 1)) (_ : ¬ (1 < x ∧ x < n - 1)), Ev (fun k => spec_lnAllowed.l1 k P out b idx n (x + 1) P (P.length : Int) idx) r := fun c1 c2 => by
      refine ih (x + 1) out (by omega) (by omega) (by omega) (by omega) ?_
      rw [List.filter_cons_of_neg (by simp [c1, c2])] at h
      exact h
    have take : ∀ (_ : (x = n ∧ idx ≠ (P.length : Int) - 1) ∨ (1 < x ∧ x < n - 1)), Ev (fun k => spec_lnAllowed.l1 k P (out ++ [b + x]) b idx n (x + 1) P (P.length : Int) idx) r := fun c => by
      refine ih (x + 1) (out ++ [b + x]) (by omega) (by omega) (by omega) (by simp; omega) ?_
      rw [List.filter_cons_of_pos (by simpa using c)] at h
      simpa using h
    refine ev_pos (by omega) ?_
    by_cases c1 : x < n
    · refine ev_pos c1 ?_
      by_cases c2 : x = 1
      · exact ev_pos c2 (skip (by omega) (by omega))
      · refine ev_neg c2 ?_
        by_cases c3 : x = n - 1
        · exact ev_pos c3 (skip (by omega) (by omega))
        · exact ev_neg c3 (ev_neg (by omega) (ev_pos (by omega) (take (by omega))))
    · refine ev_neg c1 (ev_pos (by omega) ?_)
      by_cases c4 : idx = (P.length : Int) - 1
      · exact ev_pos c4 (skip (by omega) (by omega))
      · exact ev_neg c4 (ev_pos (by omega) (take (by omega)))
theorem filter_lines (b n : Int) (hn0 : 1 ≤ n) (last : Bool) : (((List.range n.toNat).map (fun j : Nat => 1 + (j : Int))).filter (fun v => decide (v = n ∧ last = false) || decide (1 < v ∧ v < n - 1))).map (fun v => b + v) = midL b (n - 3).toNat 2 ++ (if last then [] else [b + n]) := by
  obtain ⟨N, rfl⟩ : ∃ N : Nat, n = (N : Int) + 1 := ⟨(n - 1).toNat, by omega⟩
  have e1 : ((N : Int) + 1).toNat = N + 1 := by omega
  rw [e1, List.range_succ, List.map_append, List.filter_append, List.map_append]
  congr 1
  · -- the lines ahead of the last one
    rcases Nat.lt_or_ge N 2 with h | h
    · have e2 : ((N : Int) + 1 - 3).toNat = 0 := by omega
      rw [e2, midL_zero]
      have : N = 0 ∨ N = 1 := by omega
      rcases this with rfl | rfl <;> simp
    · obtain ⟨M, rfl⟩ : ∃ M, N = M + 2 := ⟨N - 2, by omega⟩
      have e2 : (((M + 2 : Nat) : Int) + 1 - 3).toNat = M := by omega
      rw [e2, List.range_succ_eq_map, List.map_cons, List.filter_cons_of_neg (by simp; omega), List.range_succ, List.map_append, List.map_append, List.filter_append, List.map_append]
      have e3 : List.filter (fun v => decide (v = ((M + 2 : Nat) : Int) + 1 ∧ last = false) || decide (1 < v ∧ v < ((M + 2 : Nat) : Int) + 1 - 1)) (List.map (fun j : Nat => 1 + (j : Int)) (List.map Nat.succ [M])) = [] := by
        simp; omega
      rw [e3, List.map_nil, List.append_nil, List.filter_eq_self.2]
      · unfold midL
        rw [List.map_map, List.map_map]
        refine List.map_congr_left fun j _ => ?_
        simp only [Function.comp_apply]
        omega
      · intro a ha
        simp only [List.mem_map, List.mem_range] at ha
        obtain ⟨j, ⟨i, hi, rfl⟩, rfl⟩ := ha
        simp
        omega
  · have hv : (1 : Int) + (N : Int) = (N : Int) + 1 := by omega
    simp only [List.map_cons, List.map_nil, hv]
    cases last
    · rw [List.filter_cons_of_pos (by simp)]; simp
    · rw [List.filter_cons_of_neg (by simp; omega)]; simp
theorem lnAllowed_l0 (P : List Int) (hP : P.length ≤ 12) (hin : ∀ n ∈ P, 1 ≤ n ∧ n ≤ 60) : ∀ (ys : List Int) (i b : Int) (out : List Int), 0 ≤ i → P.drop i.toNat = ys → 0 ≤ b → b + 60 * ys.length ≤ 10000 → out.length + 61 * ys.length ≤ 10000 →
    Ev (fun k => spec_lnAllowed.l0 k P out b P (P.length : Int) i) (out ++ (allowL b ys).dropLast) := by
  intro ys
  induction ys with
  | nil =>
    intro i b out h0 h _ _ _
    have := drop_nil h0 h
    refine Ev.step (fun k => spec_lnAllowed.l0.eq_2 ..) ?_
    exact ev_neg (by omega) (ev_now (by simp [allowL]))
  | cons y ys ih =>
    intro i b out h0 h hb0 hb ho
    obtain ⟨h1, h2, h3, _⟩ := drop_cons h0 h
    have hy := hin y (List.mem_of_mem_drop (by rw [h]; exact List.mem_cons_self))
    simp only [List.length_cons] at hb ho
    have hlen : (P.length : Int) = i + 1 + ys.length := by
      have := congrArg List.length h
      rw [List.length_drop, List.length_cons] at this
      omega
    refine Ev.step (fun k => spec_lnAllowed.l0.eq_2 ..) ?_
    refine ev_pos h1 (ev_pos h0 (ev_pos h1 ?_))
    rw [h2]
    refine lnAllowed_l1 P i y h0 h1 hP _ hy.1 hy.2 b hb0 (by omega) y.toNat 1 out (by omega) (by omega) (by omega) (by omega) ?_
    have hf := filter_lines b y hy.1 (decide (i = (P.length : Int) - 1))
    have ef : (fun v : Int => decide (v = y ∧ i ≠ (P.length : Int) - 1) || decide (1 < v ∧ v < y - 1)) = (fun v => decide (v = y ∧ decide (i = (P.length : Int) - 1) = false) || decide (1 < v ∧ v < y - 1)) := by
      funext v; simp
    rw [ef, hf]
    cases ys with
    | nil =>
      have hl : decide (i = (P.length : Int) - 1) = true := by simp at hlen ⊢; omega
      rw [hl]
      refine ev_val (ih (i + 1) (b + y) _ (by omega) h3 (by omega) (by simp; omega) ?_) ?_
      · simp [midL_length]; omega
      · simp [allowL]
    | cons z zs =>
      have hl : decide (i = (P.length : Int) - 1) = false := by simp at hlen ⊢; omega
      rw [hl]
      simp only [List.length_cons] at hb ho
      refine ev_val (ih (i + 1) (b + y) _ (by omega) h3 (by omega) (by simp only [List.length_cons]; omega) ?_) ?_
      · simp [midL_length]; omega
      · have hne : allowL (b + y) (z :: zs) ≠ [] := by simp [allowL]
        have e : allowL b (y :: z :: zs) = midL b (y - 3).toNat 2 ++ (b + y) :: allowL (b + y) (z :: zs) := rfl
        rw [e, List.dropLast_append_of_ne_nil (by simp), List.dropLast_cons_of_ne_nil hne]
        simp
theorem lnAllowed_ev (P : List Int) (hP : P.length ≤ 12) (hin : ∀ n ∈ P, 1 ≤ n ∧ n ≤ 60) : Ev (fun k => spec_lnAllowed.f k P) (allowL 0 P).dropLast := by
  unfold spec_lnAllowed.f
  exact lnAllowed_l0 P hP hin P 0 0 [] (by omega) rfl (by omega) (by omega) (by simp; omega)

theorem total_l (xs : List Int) (hn : xs.length ≤ 12) (hin : ∀ n ∈ xs, 1 ≤ n ∧ n ≤ 60) : ∀ (ys : List Int) (i s : Int), 0 ≤ i → xs.drop i.toNat = ys → 0 ≤ s → s + 60 * ys.length ≤ 10000 →
    Ev (fun k => impl_total.l0 k s xs (xs.length : Int) i) (s + ys.sum) := by
  intro ys
  induction ys with
  | nil =>
    intro i s h0 h _ _
    have := drop_nil h0 h
    refine Ev.step (fun k => impl_total.l0.eq_2 ..) ?_
    exact ev_neg (by omega) (ev_now (by simp))
  | cons y ys ih =>
    intro i s h0 h hs hb
    obtain ⟨h1, h2, h3, _⟩ := drop_cons h0 h
    have hy := hin y (List.mem_of_mem_drop (by rw [h]; exact List.mem_cons_self))
    simp only [List.length_cons] at hb
    refine Ev.step (fun k => impl_total.l0.eq_2 ..) ?_
    refine ev_pos h1 (ev_pos h0 (ev_pos h1 ?_))
    rw [h2, w64 (x := i + 1) (by omega) (by omega), w64 (by omega) (by omega)]
    exact ev_val (ih (i + 1) (s + y) (by omega) h3 (by omega) (by omega)) (by rw [List.sum_cons]; omega)
theorem total_ev (xs : List Int) (hn : xs.length ≤ 12) (hin : ∀ n ∈ xs, 1 ≤ n ∧ n ≤ 60) : Ev (fun k => impl_total.f k xs) xs.sum :=
  ev_val (total_l xs hn hin xs 0 0 (by omega) rfl (by omega) (by omega)) (by omega)
theorem sum_bound : ∀ (xs : List Int), (∀ n ∈ xs, 1 ≤ n ∧ n ≤ 60) → (xs.length : Int) ≤ xs.sum ∧ xs.sum ≤ 60 * xs.length
  | [], _ => by simp
  | x :: xs, h => by
    have h1 := h x List.mem_cons_self
    have ih := sum_bound xs (fun n hn => h n (List.mem_cons_of_mem _ hn))
    rw [List.sum_cons, List.length_cons]; omega
theorem midL_mem {b : Int} {m : Nat} {k z : Int} (h : z ∈ midL b m k) : b + k ≤ z ∧ z < b + k + m := by
  unfold midL at h
  obtain ⟨j, hj, rfl⟩ := List.mem_map.1 h
  have := List.mem_range.1 hj
  omega
theorem allowL_mem : ∀ (ns : List Int) (b z : Int), (∀ n ∈ ns, 1 ≤ n ∧ n ≤ 60) → z ∈ allowL b ns → b < z ∧ z ≤ b + ns.sum
  | [], b, z, _, h => by simp [allowL] at h
  | n :: ns, b, z, hin, h => by
    have hn := hin n List.mem_cons_self
    have hin2 := fun x hx => hin x (List.mem_cons_of_mem n hx)
    have hs := sum_bound ns hin2
    rw [allowL, List.mem_append, List.mem_cons] at h
    rw [List.sum_cons]
    rcases h with h | rfl | h
    · have := midL_mem h; omega
    · omega
    · have := allowL_mem ns (b + n) z hin2 h; omega
theorem allowL_sorted : ∀ (ns : List Int) (b : Int), (∀ n ∈ ns, 1 ≤ n ∧ n ≤ 60) → (allowL b ns).Pairwise (· < ·)
  | [], b, _ => by simp [allowL]
  | n :: ns, b, hin => by
    have hn := hin n List.mem_cons_self
    have hin2 := fun x hx => hin x (List.mem_cons_of_mem n hx)
    rw [allowL, List.pairwise_append]
    refine ⟨?_, ?_, ?_⟩
    · unfold midL
      rw [List.pairwise_map]
      exact List.pairwise_lt_range.imp (fun h => by omega)
    · rw [List.pairwise_cons]
      exact ⟨fun z hz => (allowL_mem ns (b + n) z hin2 hz).1, allowL_sorted ns (b + n) hin2⟩
    · intro x hx y hy
      have h1 := midL_mem hx
      rw [List.mem_cons] at hy
      rcases hy with rfl | hy
      · omega
      · have := allowL_mem ns (b + n) y hin2 hy; omega
theorem allowL_last : ∀ (ns : List Int) (b : Int), ns ≠ [] → allowL b ns = (allowL b ns).dropLast ++ [b + ns.sum]
  | [], _, h => absurd rfl h
  | [n], b, _ => by simp [allowL]
  | n :: z :: zs, b, _ => by
    have ih := allowL_last (z :: zs) (b + n) (by simp)
    have e : allowL b (n :: z :: zs) = midL b (n - 3).toNat 2 ++ (b + n) :: allowL (b + n) (z :: zs) := rfl
    have hne : allowL (b + n) (z :: zs) ≠ [] := by simp [allowL]
    rw [e, List.dropLast_append_of_ne_nil (by simp), List.dropLast_cons_of_ne_nil hne, List.append_assoc, List.cons_append, List.sum_cons]
    have e2 : b + (n + (z :: zs).sum) = b + n + (z :: zs).sum := by omega
    rw [e2, ← ih]
/-- The last one that is not greater than c, as the program seeks it. -/
def lastLe (c : Int) : Int → List Int → Int
  | e, [] => e
  | e, b :: bs => lastLe c (if b ≤ c then b else e) bs
/-- The greatest one that is not greater than c, as the reference seeks it. -/
def mostLe (c : Int) : Int → List Int → Int
  | e, [] => e
  | e, b :: bs => mostLe c (if b ≤ c then max e b else e) bs
theorem most_last (c : Int) : ∀ (bs : List Int) (d e : Int), bs.Pairwise (· < ·) → (∀ x ∈ bs, e ≤ x) → mostLe c (max d e) bs = max d (lastLe c e bs)
  | [], d, e, _, _ => rfl
  | b :: bs, d, e, hs, he => by
    rw [List.pairwise_cons] at hs
    have hb := he b List.mem_cons_self
    simp only [mostLe, lastLe]
    by_cases h : b ≤ c
    · rw [if_pos h, if_pos h]
      have e1 : max (max d e) b = max d b := by omega
      rw [e1]
      exact most_last c bs d b hs.2 (fun x hx => by have := hs.1 x hx; omega)
    · rw [if_neg h, if_neg h]
      exact most_last c bs d e hs.2 (fun x hx => he x (List.mem_cons_of_mem _ hx))
theorem last_start (c : Int) : ∀ (bs : List Int) (d e : Int), (∀ x ∈ bs, c < x) ∧ lastLe c d bs = d ∧ lastLe c e bs = e ∨ lastLe c d bs = lastLe c e bs
  | [], d, e => .inl ⟨by simp, rfl, rfl⟩
  | b :: bs, d, e => by
    simp only [lastLe]
    by_cases h : b ≤ c
    · rw [if_pos h, if_pos h]; exact .inr rfl
    · rw [if_neg h, if_neg h]
      rcases last_start c bs d e with ⟨h1, h2, h3⟩ | h1
      · exact .inl ⟨fun x hx => by rcases List.mem_cons.1 hx with rfl | hx; omega; exact h1 x hx, h2, h3⟩
      · exact .inr h1
theorem lastLe_snoc (c z : Int) (hz : c < z) : ∀ (bs : List Int) (e : Int), lastLe c e (bs ++ [z]) = lastLe c e bs
  | [], e => by simp [lastLe]; omega
  | b :: bs, e => by simp only [List.cons_append, lastLe]; exact lastLe_snoc c z hz bs _
theorem lastLe_le (c : Int) : ∀ (bs : List Int) (e : Int), lastLe c e bs ≤ max e c
  | [], e => by simp only [lastLe]; omega
  | b :: bs, e => by
    simp only [lastLe]
    have := lastLe_le c bs (if b ≤ c then b else e)
    split at this <;> rename_i h <;> simp only [h, if_true, if_false] <;> omega

theorem implBreaks_l1 (P : List Int) (lines : Int) (out A : List Int) (from_ : Int) (r : List Int × Bool) (hA : A.length < 100000) (hl : 2 ≤ lines ∧ lines ≤ 60) (hf : 0 ≤ from_ ∧ from_ ≤ 10000) (z : Int) (hr : Ev (fun k => if z ≤ from_ then some (([] : List Int), false) else if out.length < 17592186044416 then impl_ParagraphBreaks.l0 k P lines (out ++ [z]) A z else none) r) : ∀ (ys : List Int) (i e : Int), 0 ≤ i → A.drop i.toNat = ys → lastLe (from_ + lines) e ys = z →
    Ev (fun k => impl_ParagraphBreaks.l1 k P lines out A from_ e A (A.length : Int) i) r := by
  intro ys
  induction ys with
  | nil =>
    intro i e h0 h hz
    have := drop_nil h0 h
    simp only [lastLe] at hz
    subst hz
    refine Ev.step (fun k => impl_ParagraphBreaks.l1.eq_2 ..) ?_
    exact ev_neg (by omega) hr
  | cons y ys ih =>
    intro i e h0 h hz
    obtain ⟨h1, h2, h3, _⟩ := drop_cons h0 h
    refine Ev.step (fun k => impl_ParagraphBreaks.l1.eq_2 ..) ?_
    refine ev_pos h1 (ev_pos h0 (ev_pos h1 ?_))
    rw [h2, w64 (x := from_ + lines) (by omega) (by omega), w64 (x := i + 1) (by omega) (by omega)]
    simp only [lastLe] at hz
    by_cases hy : y ≤ from_ + lines
    · rw [if_pos hy] at hz
      exact ev_pos hy (ih (i + 1) y (by omega) h3 hz)
    · rw [if_neg hy] at hz
      exact ev_neg hy (ih (i + 1) e (by omega) h3 hz)
theorem most_eq (a b : Int) : spec_l1Most.f a b = some (max a b) := by
  unfold spec_l1Most.f
  split
  · congr 1; omega
  · congr 1; omega
theorem specBreaks_l2 (lines T : Int) (out A : List Int) (from_ : Int) (r : List Int × Bool) (hA : A.length < 100000) (hl : 2 ≤ lines ∧ lines ≤ 60) (hf : 0 ≤ from_ ∧ from_ ≤ 10000) (z : Int) (hr : Ev (fun k => if z = from_ then some (([] : List Int), false) else if out.length < 17592186044416 then spec_lnBreaks.l1 k lines T A (out ++ [z]) z else none) r) : ∀ (ys : List Int) (i e : Int), 0 ≤ i → A.drop i.toNat = ys → mostLe (from_ + lines) e ys = z →
    Ev (fun k => spec_lnBreaks.l2 k lines T A out from_ e A (A.length : Int) i) r := by
  intro ys
  induction ys with
  | nil =>
    intro i e h0 h hz
    have := drop_nil h0 h
    simp only [mostLe] at hz
    subst hz
    refine Ev.step (fun k => spec_lnBreaks.l2.eq_2 ..) ?_
    exact ev_neg (by omega) hr
  | cons y ys ih =>
    intro i e h0 h hz
    obtain ⟨h1, h2, h3, _⟩ := drop_cons h0 h
    refine Ev.step (fun k => spec_lnBreaks.l2.eq_2 ..) ?_
    refine ev_pos h1 (ev_pos h0 (ev_pos h1 ?_))
    rw [h2, w64 (x := from_ + lines) (by omega) (by omega), w64 (x := i + 1) (by omega) (by omega)]
    simp only [mostLe] at hz
    by_cases hy : y ≤ from_ + lines
    · rw [if_pos hy] at hz
      exact ev_pos hy (ev_some (most_eq ..) (ih (i + 1) (max e y) (by omega) h3 hz))
    · rw [if_neg hy] at hz
      exact ev_neg hy (ih (i + 1) e (by omega) h3 hz)
/-- Both find the same breaks, from any break on. -/
theorem breaks_same (P : List Int) (lines : Int) (hP : P.length ≤ 12) (hP1 : 1 ≤ P.length) (hin : ∀ n ∈ P, 1 ≤ n ∧ n ≤ 60) (hl : 2 ≤ lines ∧ lines ≤ 60) : ∀ (m : Nat) (from_ : Int) (out : List Int), 0 ≤ from_ → from_ ≤ P.sum → P.sum - from_ ≤ m → out.length + m ≤ 10000 →
    ∃ r : List Int × Bool, Ev (fun k => impl_ParagraphBreaks.l0 k P lines out (allowL 0 P) from_) r ∧ Ev (fun k => spec_lnBreaks.l1 k lines P.sum (allowL 0 P).dropLast out from_) r ∧ r.1.length ≤ out.length + m ∧ (r.2 = false → r.1 = []) := by
  intro m
  have hsb := sum_bound P hin
  have hne : P ≠ [] := by intro e; rw [e] at hP1; simp at hP1
  have hA := allowL_length P 0 (fun n hn => (hin n hn).2)
  have hlast := allowL_last P 0 hne
  have hsort := allowL_sorted P 0 hin
  have hmem := fun z hz => allowL_mem P 0 z hin hz
  induction m with
  | zero =>
    intro from_ out h0 h1 h2 h3
    refine ⟨(out, true), ?_, ?_, by simp, by simp⟩
    · refine Ev.step (fun k => impl_ParagraphBreaks.l0.eq_2 ..) (Ev.bind (total_ev P hP hin) ?_)
      rw [w64 (by omega) (by omega)]
      exact ev_neg (by omega) (ev_now rfl)
    · refine Ev.step (fun k => spec_lnBreaks.l1.eq_2 ..) ?_
      rw [w64 (by omega) (by omega)]
      exact ev_neg (by omega) (ev_now rfl)
  | succ m ih =>
    intro from_ out h0 h1 h2 h3
    by_cases hc : P.sum - from_ > lines
    · -- the next break
      have hz : lastLe (from_ + lines) from_ (allowL 0 P) = lastLe (from_ + lines) from_ (allowL 0 P).dropLast := by
        conv => lhs; rw [hlast]
        exact lastLe_snoc _ _ (by omega) _ _
      have hs2 : (allowL 0 P).dropLast.Pairwise (· < ·) := hsort.sublist (List.dropLast_sublist _)
      have hm2 := most_last (from_ + lines) (allowL 0 P).dropLast from_ 0 hs2 (fun x hx => by have := hmem x ((List.dropLast_sublist _).subset hx); omega)
      have e0 : max from_ 0 = from_ := by omega
      rw [e0] at hm2
      have hst := last_start (from_ + lines) (allowL 0 P).dropLast from_ 0
      have hle := lastLe_le (from_ + lines) (allowL 0 P).dropLast from_
      generalize hE : lastLe (from_ + lines) from_ (allowL 0 P).dropLast = E at hz hst hle
      generalize hM : mostLe (from_ + lines) from_ (allowL 0 P).dropLast = M at hm2
      generalize hZ : lastLe (from_ + lines) 0 (allowL 0 P).dropLast = Z at hm2 hst
      have hrel : (E ≤ from_ ∧ M = from_) ∨ (from_ < E ∧ M = E) := by
        rcases hst with ⟨_, r1, r2⟩ | r1
        · left; omega
        · by_cases h : from_ < E
          · right; omega
          · left; omega
      rcases hrel with ⟨hr1, hr2⟩ | ⟨hr1, hr2⟩
      · refine ⟨([], false), ?_, ?_, by simp, by simp⟩
        · refine Ev.step (fun k => impl_ParagraphBreaks.l0.eq_2 ..) (Ev.bind (total_ev P hP hin) ?_)
          rw [w64 (by omega) (by omega)]
          refine ev_pos hc (implBreaks_l1 P lines out (allowL 0 P) from_ _ (by omega) hl ⟨h0, by omega⟩ E ?_ (allowL 0 P) 0 from_ (by omega) rfl hz)
          exact ev_pos hr1 (ev_now rfl)
        · refine Ev.step (fun k => spec_lnBreaks.l1.eq_2 ..) ?_
          rw [w64 (by omega) (by omega)]
          refine ev_pos hc (specBreaks_l2 lines P.sum out (allowL 0 P).dropLast from_ _ (by rw [List.length_dropLast]; omega) hl ⟨h0, by omega⟩ M ?_ (allowL 0 P).dropLast 0 from_ (by omega) rfl hM)
          exact ev_pos hr2 (ev_now rfl)
      · obtain ⟨r, q1, q2, q3, q4⟩ := ih E (out ++ [E]) (by omega) (by omega) (by omega) (by simp; omega)
        refine ⟨r, ?_, ?_, by simp at q3; omega, q4⟩
        · refine Ev.step (fun k => impl_ParagraphBreaks.l0.eq_2 ..) (Ev.bind (total_ev P hP hin) ?_)
          rw [w64 (by omega) (by omega)]
          refine ev_pos hc (implBreaks_l1 P lines out (allowL 0 P) from_ _ (by omega) hl ⟨h0, by omega⟩ E ?_ (allowL 0 P) 0 from_ (by omega) rfl hz)
          exact ev_neg (by omega) (ev_pos (by omega) q1)
        · refine Ev.step (fun k => spec_lnBreaks.l1.eq_2 ..) ?_
          rw [w64 (by omega) (by omega)]
          refine ev_pos hc (specBreaks_l2 lines P.sum out (allowL 0 P).dropLast from_ _ (by rw [List.length_dropLast]; omega) hl ⟨h0, by omega⟩ E ?_ (allowL 0 P).dropLast 0 from_ (by omega) rfl (hM.trans hr2))
          exact ev_neg (by omega) (ev_pos (by omega) q2)
    · refine ⟨(out, true), ?_, ?_, by simp, by simp⟩
      · refine Ev.step (fun k => impl_ParagraphBreaks.l0.eq_2 ..) (Ev.bind (total_ev P hP hin) ?_)
        rw [w64 (by omega) (by omega)]
        exact ev_neg hc (ev_now rfl)
      · refine Ev.step (fun k => spec_lnBreaks.l1.eq_2 ..) ?_
        rw [w64 (by omega) (by omega)]
        exact ev_neg hc (ev_now rfl)

theorem lnBreaks_l0 (P : List Int) (lines : Int) (hP : P.length ≤ 12) (hin : ∀ n ∈ P, 1 ≤ n ∧ n ≤ 60) (r : List Int × Bool) (hr : Ev (fun k => spec_lnBreaks.l1 k lines P.sum (allowL 0 P).dropLast [] 0) r) : ∀ (ys : List Int) (i s : Int), 0 ≤ i → P.drop i.toNat = ys → 0 ≤ s → s + 60 * ys.length ≤ 10000 → s + ys.sum = P.sum →
    Ev (fun k => spec_lnBreaks.l0 k P lines s P (P.length : Int) i) r := by
  intro ys
  induction ys with
  | nil =>
    intro i s h0 h _ _ hs
    have := drop_nil h0 h
    refine Ev.step (fun k => spec_lnBreaks.l0.eq_2 ..) ?_
    refine ev_neg (by omega) (Ev.bind (lnAllowed_ev P hP hin) ?_)
    have e : s = P.sum := by simpa using hs
    rw [e]
    exact hr
  | cons y ys ih =>
    intro i s h0 h hs0 hb hs
    obtain ⟨h1, h2, h3, _⟩ := drop_cons h0 h
    have hy := hin y (List.mem_of_mem_drop (by rw [h]; exact List.mem_cons_self))
    simp only [List.length_cons] at hb
    rw [List.sum_cons] at hs
    refine Ev.step (fun k => spec_lnBreaks.l0.eq_2 ..) ?_
    refine ev_pos h1 (ev_pos h0 (ev_pos h1 ?_))
    rw [h2, w64 (x := i + 1) (by omega) (by omega), w64 (by omega) (by omega)]
    exact ih (i + 1) (s + y) (by omega) h3 (by omega) (by omega) (by omega)
/-- Program and reference tell the same breaks. -/
theorem breaksPair (l : List Int) (a : Int) (hn : l.length ≤ 1048576) : ∃ r : List Int × Bool, Ev (fun k => impl_ParagraphBreaks.f k l a) r ∧ Ev (fun k => spec_ParagraphBreaks.f k l a) r ∧ r.1.length ≤ 1000 ∧ (r.2 = true → parB l a = true) ∧ (r.2 = false → r.1 = []) := by
  by_cases h : parB l a = true
  · obtain ⟨h1, h2, h3⟩ := parB_true h
    have hs := sum_bound l h2
    obtain ⟨r, q1, q2, q3, q4⟩ := breaks_same l a (by omega) (by omega) h2 h3 720 0 [] (by omega) (by omega) (by omega) (by simp)
    refine ⟨r, ?_, ?_, by simp at q3; omega, fun _ => h, q4⟩
    · unfold impl_ParagraphBreaks.f
      exact Ev.bind (areParagraphs_ev l a (by omega)) (ev_pos h (Ev.bind (allowed_ev l (by omega) h2) q1))
    · unfold spec_ParagraphBreaks.f
      refine Ev.bind (lnPages_ev l a (by omega)) (ev_pos h (Ev.bind (a := r) ?_ (ev_now rfl)))
      unfold spec_lnBreaks.f
      exact lnBreaks_l0 l a (by omega) h2 r q2 l 0 0 (by omega) rfl (by omega) (by omega) (by omega)
  · refine ⟨([], false), ?_, ?_, by simp, by simp, by simp⟩
    · unfold impl_ParagraphBreaks.f
      exact Ev.bind (areParagraphs_ev l a (by omega)) (ev_neg h (ev_now rfl))
    · unfold spec_ParagraphBreaks.f
      exact Ev.bind (lnPages_ev l a (by omega)) (ev_neg h (ev_now rfl))

theorem midL_iff (b : Int) (m : Nat) (k z : Int) : z ∈ midL b m k ↔ b + k ≤ z ∧ z < b + k + m := by
  constructor
  · exact midL_mem
  · intro h
    unfold midL
    exact List.mem_map.2 ⟨(z - b - k).toNat, List.mem_range.2 (by omega), by omega⟩
theorem allowL_append : ∀ (xs ys : List Int) (b : Int), allowL b (xs ++ ys) = allowL b xs ++ allowL (b + xs.sum) ys
  | [], ys, b => by simp [allowL]
  | x :: xs, ys, b => by
    rw [List.cons_append, allowL, allowL_append xs ys (b + x), allowL, List.sum_cons, List.append_assoc, List.cons_append, show b + x + xs.sum = b + (x + xs.sum) from by omega]
/-- The breaks but the last one: those below the sum. -/
theorem allow_drop (P : List Int) (hne : P ≠ []) (hin : ∀ n ∈ P, 1 ≤ n ∧ n ≤ 60) (z : Int) : z ∈ (allowL 0 P).dropLast ↔ z ∈ allowL 0 P ∧ z ≠ P.sum := by
  have hl := allowL_last P 0 hne
  have hs := allowL_sorted P 0 hin
  rw [hl, List.pairwise_append] at hs
  have h3 := hs.2.2
  constructor
  · intro h
    refine ⟨(List.dropLast_sublist _).subset h, ?_⟩
    have := h3 z h (0 + P.sum) (by simp)
    omega
  · rintro ⟨h1, h2⟩
    rw [hl, List.mem_append] at h1
    rcases h1 with h | h
    · exact h
    · simp at h; omega
theorem allow_iff (pre post : List Int) (n i : Int) (hin : ∀ m ∈ pre ++ n :: post, 1 ≤ m ∧ m ≤ 60) (h1 : 1 ≤ i) (h2 : i ≤ n) :
    pre.sum + i ∈ (allowL 0 (pre ++ n :: post)).dropLast ↔ (i = n ∧ post ≠ [] ∨ 1 < i ∧ i < n - 1) := by
  have hinp : ∀ m ∈ pre, 1 ≤ m ∧ m ≤ 60 := fun m hm => hin m (List.mem_append_left _ hm)
  have hinq : ∀ m ∈ post, 1 ≤ m ∧ m ≤ 60 := fun m hm => hin m (List.mem_append_right _ (List.mem_cons_of_mem _ hm))
  rw [allow_drop _ (by simp) hin, allowL_append, List.mem_append, allowL, List.mem_append, List.mem_cons, midL_iff, List.sum_append, List.sum_cons]
  have a1 : pre.sum + i ∈ allowL 0 pre → pre.sum + i ≤ pre.sum := fun h => by have := allowL_mem pre 0 _ hinp h; omega
  have a2 : pre.sum + i ∈ allowL (0 + pre.sum + n) post → pre.sum + n < pre.sum + i := fun h => by have := allowL_mem post _ _ hinq h; omega
  have hsp := sum_bound post hinq
  have hpl : post ≠ [] ↔ 1 ≤ (post.length : Int) := by
    cases post with
    | nil => simp
    | cons x xs => simp; omega
  rw [hpl]
  have hpz : (post.length : Int) = 0 → post.sum = 0 := fun h => by
    have : post = [] := List.eq_nil_of_length_eq_zero (by omega)
    rw [this]; rfl
  constructor
  · rintro ⟨h | h | h | h, h5⟩
    · have := a1 h; omega
    · omega
    · left
      by_cases hz : (post.length : Int) = 0
      · have := hpz hz; omega
      · omega
    · have := a2 h; omega
  · rintro (⟨h3, h4⟩ | ⟨h3, h4⟩)
    · exact ⟨.inr (.inr (.inl (by omega))), by omega⟩
    · exact ⟨.inr (.inl (by omega)), by omega⟩

theorem lastLe_ge (c : Int) : ∀ (bs : List Int) (e : Int), bs.Pairwise (· < ·) → (∀ x ∈ bs, e ≤ x) → e ≤ lastLe c e bs
  | [], e, _, _ => Int.le_refl _
  | b :: bs, e, hs, he => by
    rw [List.pairwise_cons] at hs
    rw [lastLe]
    by_cases h : b ≤ c
    · rw [if_pos h]
      have := lastLe_ge c bs b hs.2 (fun x hx => by have := hs.1 x hx; omega)
      have := he b List.mem_cons_self
      omega
    · rw [if_neg h]
      exact lastLe_ge c bs e hs.2 (fun x hx => he x (List.mem_cons_of_mem _ hx))
theorem lastLe_mem (c : Int) : ∀ (bs : List Int) (e : Int), lastLe c e bs = e ∨ lastLe c e bs ∈ bs
  | [], e => .inl rfl
  | b :: bs, e => by
    rw [lastLe]
    rcases lastLe_mem c bs (if b ≤ c then b else e) with h | h
    · rw [h]; split
      · exact .inr List.mem_cons_self
      · exact .inl rfl
    · exact .inr (List.mem_cons_of_mem _ h)
theorem lastLe_max (c : Int) : ∀ (bs : List Int) (e : Int), bs.Pairwise (· < ·) → ∀ x ∈ bs, x ≤ c → x ≤ lastLe c e bs
  | [], _, _, x, hx, _ => by simp at hx
  | b :: bs, e, hs, x, hx, hc => by
    rw [List.pairwise_cons] at hs
    rw [lastLe]
    rcases List.mem_cons.1 hx with rfl | hx
    · rw [if_pos hc]
      exact lastLe_ge c bs x hs.2 (fun y hy => by have := hs.1 y hy; omega)
    · exact lastLe_max c bs _ hs.2 x hx hc
/-- Breaks as they are to be: each one allowed, as far on as can be, and the rest on the last page. -/
def ChainB (A : List Int) (T lines : Int) : Int → List Int → Prop
  | at_, [] => T - at_ ≤ lines ∧ 1 ≤ T - at_
  | at_, b :: bs => b ∈ A ∧ at_ < b ∧ b - at_ ≤ lines ∧ (∀ x ∈ A, ¬ (b < x ∧ x ≤ at_ + lines)) ∧ ChainB A T lines b bs
theorem breaks_chain (P : List Int) (lines : Int) (hP : P.length ≤ 12) (hP1 : 1 ≤ P.length) (hin : ∀ n ∈ P, 1 ≤ n ∧ n ≤ 60) (hl : 2 ≤ lines ∧ lines ≤ 60) : ∀ (m : Nat) (from_ : Int) (out : List Int), 0 ≤ from_ → from_ < P.sum → P.sum - from_ ≤ m → out.length + m ≤ 10000 →
    ∃ r : List Int × Bool, Ev (fun k => impl_ParagraphBreaks.l0 k P lines out (allowL 0 P) from_) r ∧ (r.2 = true → ∃ bs, r.1 = out ++ bs ∧ ChainB (allowL 0 P).dropLast P.sum lines from_ bs) := by
  intro m
  have hsb := sum_bound P hin
  have hne : P ≠ [] := by intro e; rw [e] at hP1; simp at hP1
  have hA := allowL_length P 0 (fun n hn => (hin n hn).2)
  have hlast := allowL_last P 0 hne
  have hsort := allowL_sorted P 0 hin
  induction m with
  | zero => intro from_ out h0 h1 h2 h3; omega
  | succ m ih =>
    intro from_ out h0 h1 h2 h3
    by_cases hc : P.sum - from_ > lines
    · have hz : lastLe (from_ + lines) from_ (allowL 0 P) = lastLe (from_ + lines) from_ (allowL 0 P).dropLast := by
        conv => lhs; rw [hlast]
        exact lastLe_snoc _ _ (by omega) _ _
      have hs2 : (allowL 0 P).dropLast.Pairwise (· < ·) := hsort.sublist (List.dropLast_sublist _)
      have hle := lastLe_le (from_ + lines) (allowL 0 P).dropLast from_
      have hmm := lastLe_mem (from_ + lines) (allowL 0 P).dropLast from_
      have hmx := lastLe_max (from_ + lines) (allowL 0 P).dropLast from_ hs2
      generalize hE : lastLe (from_ + lines) from_ (allowL 0 P).dropLast = E at hz hle hmm hmx
      by_cases hr1 : E ≤ from_
      · refine ⟨([], false), ?_, by simp⟩
        refine Ev.step (fun k => impl_ParagraphBreaks.l0.eq_2 ..) (Ev.bind (total_ev P hP hin) ?_)
        rw [w64 (by omega) (by omega)]
        refine ev_pos hc (implBreaks_l1 P lines out (allowL 0 P) from_ _ (by omega) hl ⟨h0, by omega⟩ E ?_ (allowL 0 P) 0 from_ (by omega) rfl hz)
        exact ev_pos hr1 (ev_now rfl)
      · have hEA : E ∈ (allowL 0 P).dropLast := by
          rcases hmm with e | e
          · omega
          · exact e
        have hE2 := (allow_drop P hne hin E).1 hEA
        have hE3 := allowL_mem P 0 E hin hE2.1
        obtain ⟨r, q1, q2⟩ := ih E (out ++ [E]) (by omega) (by omega) (by omega) (by simp; omega)
        refine ⟨r, ?_, fun hr => ?_⟩
        · refine Ev.step (fun k => impl_ParagraphBreaks.l0.eq_2 ..) (Ev.bind (total_ev P hP hin) ?_)
          rw [w64 (by omega) (by omega)]
          refine ev_pos hc (implBreaks_l1 P lines out (allowL 0 P) from_ _ (by omega) hl ⟨h0, by omega⟩ E ?_ (allowL 0 P) 0 from_ (by omega) rfl hz)
          exact ev_neg (by omega) (ev_pos (by omega) q1)
        · obtain ⟨bs, e, hch⟩ := q2 hr
          exact ⟨E :: bs, by rw [e]; simp, hEA, by omega, by omega, fun x hx hq => by have := hmx x hx hq.2; omega, hch⟩
    · refine ⟨(out, true), ?_, fun _ => ⟨[], by simp, by simp only [ChainB]; omega⟩⟩
      refine Ev.step (fun k => impl_ParagraphBreaks.l0.eq_2 ..) (Ev.bind (total_ev P hP hin) ?_)
      rw [w64 (by omega) (by omega)]
      exact ev_neg hc (ev_now rfl)
theorem Ev_one {α : Type} {g : Nat → Option α} {a b : α} (h1 : Ev g a) (h2 : Ev g b) : a = b := by
  obtain ⟨k1, e1⟩ := h1
  obtain ⟨k2, e2⟩ := h2
  have q1 := e1 (max k1 k2) (Nat.le_max_left _ _)
  rw [e2 (max k1 k2) (Nat.le_max_right _ _)] at q1
  exact (Option.some.inj q1).symm
/-- Program and reference tell the same breaks, and these are as they are to be. -/
theorem breaksMore (l : List Int) (a : Int) (hn : l.length ≤ 1048576) : ∃ r : List Int × Bool, Ev (fun k => impl_ParagraphBreaks.f k l a) r ∧ Ev (fun k => spec_ParagraphBreaks.f k l a) r ∧ r.1.length ≤ 1000 ∧
    (r.2 = true → parB l a = true ∧ ChainB (allowL 0 l).dropLast l.sum a 0 r.1) ∧ (r.2 = false → r.1 = []) := by
  obtain ⟨r, hi, hs, hW, hp, hf⟩ := breaksPair l a hn
  refine ⟨r, hi, hs, hW, fun hr => ⟨hp hr, ?_⟩, hf⟩
  obtain ⟨h1, h2, h3⟩ := parB_true (hp hr)
  have hsb := sum_bound l h2
  obtain ⟨r2, q1, q2⟩ := breaks_chain l a (by omega) (by omega) h2 h3 720 0 [] (by omega) (by omega) (by omega) (by simp)
  have q3 : Ev (fun k => impl_ParagraphBreaks.f k l a) r2 := by
    unfold impl_ParagraphBreaks.f
    exact Ev.bind (areParagraphs_ev l a (by omega)) (ev_pos (hp hr) (Ev.bind (allowed_ev l (by omega) h2) q1))
  have e := Ev_one hi q3
  subst e
  obtain ⟨bs, e, hc⟩ := q2 hr
  rw [e, List.nil_append]
  exact hc

def leftL (lines : Int) : Int → List Int → List Int
  | _, [] => []
  | at_, b :: bs => wrap64 (lines - wrap64 (b - at_)) :: leftL lines b bs
theorem leftL_length (lines : Int) : ∀ (bs : List Int) (at_ : Int), (leftL lines at_ bs).length = bs.length
  | [], _ => rfl
  | b :: bs, _ => by simp [leftL, leftL_length lines bs b]
theorem wrap_side (x y z : Int) : wrap64 (wrap64 (x - y) + z) = wrap64 (x - wrap64 (y - z)) := by unfold wrap64; omega
theorem ChainB_le (A : List Int) (T lines : Int) : ∀ (bs : List Int) (at_ : Int), ChainB A T lines at_ bs → at_ ≤ T
  | [], at_, h => by simp only [ChainB] at h; omega
  | b :: bs, at_, h => by
    simp only [ChainB] at h
    have := ChainB_le A T lines bs b h.2.2.2.2
    omega
/-- What is left over on each page: its sum, and that each is small. -/
theorem left_sum (A : List Int) (T lines : Int) (hl : 2 ≤ lines ∧ lines ≤ 60) : ∀ (bs : List Int) (at_ : Int), 0 ≤ at_ → T ≤ 720 → ChainB A T lines at_ bs →
    (leftL lines at_ (bs ++ [T])).sum = ((bs.length : Int) + 1) * lines - (T - at_) ∧ ∀ x ∈ leftL lines at_ (bs ++ [T]), 0 ≤ x ∧ x ≤ 60
  | [], at_, h0, hT, h => by
    simp only [ChainB] at h
    simp only [List.nil_append, leftL, List.sum_cons, List.sum_nil, List.length_nil]
    rw [w64 (x := T - at_) (by omega) (by omega), w64 (by omega) (by omega)]
    refine ⟨by simp, fun x hx => ?_⟩
    simp at hx; omega
  | b :: bs, at_, h0, hT, h => by
    simp only [ChainB] at h
    obtain ⟨h1, h2, h3, h4, h5⟩ := h
    have hb := ChainB_le A T lines bs b h5
    obtain ⟨e, hx⟩ := left_sum A T lines hl bs b (by omega) hT h5
    simp only [List.cons_append, leftL, List.sum_cons, List.length_cons, e]
    rw [w64 (x := b - at_) (by omega) (by omega), w64 (by omega) (by omega)]
    have em : (((bs.length + 1 : Nat) : Int) + 1) * lines = ((bs.length : Int) + 1) * lines + lines := by rw [Int.natCast_add, Int.add_mul]; simp
    rw [em]
    refine ⟨by omega, fun x hx2 => ?_⟩
    rcases List.mem_cons.1 hx2 with rfl | hx2
    · omega
    · exact hx x hx2

theorem implLeft_l (lines : Int) (B : List Int) (hB : B.length ≤ 100000) : ∀ (ys : List Int) (i at_ : Int) (out : List Int), 0 ≤ i → B.drop i.toNat = ys → out.length + ys.length ≤ 100000 →
    Ev (fun k => impl_LinesLeftOver.l0 k lines out at_ B (B.length : Int) i) (out ++ leftL lines at_ ys, true) := by
  intro ys
  induction ys with
  | nil =>
    intro i at_ out h0 h ho
    have := drop_nil h0 h
    refine Ev.step (fun k => impl_LinesLeftOver.l0.eq_2 ..) ?_
    exact ev_neg (by omega) (ev_now (by simp [leftL]))
  | cons y ys ih =>
    intro i at_ out h0 h ho
    obtain ⟨h1, h2, h3, _⟩ := drop_cons h0 h
    simp only [List.length_cons] at ho
    refine Ev.step (fun k => impl_LinesLeftOver.l0.eq_2 ..) ?_
    refine ev_pos h1 (ev_pos h0 (ev_pos h1 (ev_pos (by omega) ?_)))
    rw [h2, w64 (x := i + 1) (by omega) (by omega)]
    exact ev_val (ih (i + 1) y _ (by omega) h3 (by simp; omega)) (by simp [leftL])
theorem specLeft_l (lines : Int) (B : List Int) (hB : B.length ≤ 100000) : ∀ (ys : List Int) (i at_ : Int) (out : List Int), 0 ≤ i → B.drop i.toNat = ys → out.length + ys.length ≤ 100000 →
    Ev (fun k => spec_LinesLeftOver.l1 k lines at_ out B (B.length : Int) i) (out ++ leftL lines at_ ys, true) := by
  intro ys
  induction ys with
  | nil =>
    intro i at_ out h0 h ho
    have := drop_nil h0 h
    refine Ev.step (fun k => spec_LinesLeftOver.l1.eq_2 ..) ?_
    exact ev_neg (by omega) (ev_now (by simp [leftL]))
  | cons y ys ih =>
    intro i at_ out h0 h ho
    obtain ⟨h1, h2, h3, _⟩ := drop_cons h0 h
    simp only [List.length_cons] at ho
    refine Ev.step (fun k => spec_LinesLeftOver.l1.eq_2 ..) ?_
    refine ev_pos h1 (ev_pos h0 (ev_pos h1 (ev_pos (by omega) ?_)))
    rw [h2, w64 (x := i + 1) (by omega) (by omega), wrap_side]
    exact ev_val (ih (i + 1) y _ (by omega) h3 (by simp; omega)) (by simp [leftL])
theorem specLeft_l0 (lines : Int) (P B : List Int) (r : List Int × Bool) (hB : B.length ≤ 1000) (hP : P.length ≤ 12) (hin : ∀ n ∈ P, 1 ≤ n ∧ n ≤ 60) (hr : r = (leftL lines 0 (B ++ [P.sum]), true)) : ∀ (ys : List Int) (i s : Int), 0 ≤ i → P.drop i.toNat = ys → 0 ≤ s → s + 60 * ys.length ≤ 10000 → s + ys.sum = P.sum →
    Ev (fun k => spec_LinesLeftOver.l0 k lines B s 0 P (P.length : Int) i) r := by
  intro ys
  induction ys with
  | nil =>
    intro i s h0 h _ _ hs
    have := drop_nil h0 h
    have e : s = P.sum := by simpa using hs
    refine Ev.step (fun k => spec_LinesLeftOver.l0.eq_2 ..) ?_
    refine ev_neg (by omega) (ev_some (a := B) ?_ (ev_pos (by omega) (ev_some rfl ?_)))
    · unfold spec_l1Own.f
      simp only [Option.bind_some, List.length_nil, List.nil_append]
      rw [if_pos (by omega)]
    · rw [e]
      exact ev_val (specLeft_l lines (B ++ [P.sum]) (by simp; omega) (B ++ [P.sum]) 0 0 [] (by omega) rfl (by simp; omega)) (by rw [hr, List.nil_append])
  | cons y ys ih =>
    intro i s h0 h hs0 hb hs
    obtain ⟨h1, h2, h3, _⟩ := drop_cons h0 h
    have hy := hin y (List.mem_of_mem_drop (by rw [h]; exact List.mem_cons_self))
    simp only [List.length_cons] at hb
    rw [List.sum_cons] at hs
    refine Ev.step (fun k => spec_LinesLeftOver.l0.eq_2 ..) ?_
    refine ev_pos h1 (ev_pos h0 (ev_pos h1 ?_))
    rw [h2, w64 (x := i + 1) (by omega) (by omega), w64 (by omega) (by omega)]
    exact ih (i + 1) (s + y) (by omega) h3 (by omega) (by omega) (by omega)
def leftM (l : List Int) (a : Int) (r : List Int × Bool) : List Int × Bool := if r.2 = true then (leftL a 0 (r.1 ++ [l.sum]), true) else ([], false)
theorem leftBoth (l : List Int) (a : Int) (hn : l.length ≤ 1048576) (r : List Int × Bool) (hi : Ev (fun k => impl_ParagraphBreaks.f k l a) r) (hs : Ev (fun k => spec_ParagraphBreaks.f k l a) r) (hW : r.1.length ≤ 1000) (hp : r.2 = true → parB l a = true) :
    Ev (fun k => spec_LinesLeftOver.f k l a) (leftM l a r) ∧ Ev (fun k => impl_LinesLeftOver.f k l a) (leftM l a r) := by
  by_cases hr : r.2 = true
  · obtain ⟨h1, h2, _⟩ := parB_true (hp hr)
    have hsb := sum_bound l h2
    have e : leftM l a r = (leftL a 0 (r.1 ++ [l.sum]), true) := if_pos hr
    rw [e]
    refine ⟨?_, ?_⟩
    · unfold spec_LinesLeftOver.f
      exact Ev.bind hs (ev_pos hr (specLeft_l0 a l r.1 _ hW (by omega) h2 rfl l 0 0 (by omega) rfl (by omega) (by omega) (by omega)))
    · unfold impl_LinesLeftOver.f
      refine Ev.bind hi (ev_pos hr (Ev.bind (total_ev l (by omega) h2) (ev_pos (by omega) (ev_some rfl ?_))))
      exact ev_val (implLeft_l a (r.1 ++ [l.sum]) (by simp; omega) (r.1 ++ [l.sum]) 0 0 [] (by omega) rfl (by simp; omega)) (by rw [List.nil_append])
  · have e : leftM l a r = ([], false) := if_neg hr
    rw [e]
    refine ⟨?_, ?_⟩
    · unfold spec_LinesLeftOver.f
      exact Ev.bind hs (ev_neg hr (ev_now rfl))
    · unfold impl_LinesLeftOver.f
      exact Ev.bind hi (ev_neg hr (ev_now rfl))

def breaksM (l : List Int) (a : Int) : List Int := if parB l a = true then (allowL 0 l).dropLast else []
theorem breaksM_small (l : List Int) (a : Int) : (breaksM l a).length < 1073741824 := by
  unfold breaksM
  split
  · rename_i h
    obtain ⟨h1, h2, _⟩ := parB_true h
    have := allowL_length l 0 (fun n hn => (h2 n hn).2)
    rw [List.length_dropLast]; omega
  · simp
theorem specBreaks_ev (l : List Int) (a : Int) (hn : l.length ≤ 1048576) : Ev (fun k => spec_BreaksAllowed.f k l a) (breaksM l a, parB l a) := by
  unfold spec_BreaksAllowed.f breaksM
  refine Ev.bind (lnPages_ev l a (by omega)) ?_
  by_cases h : parB l a = true
  · obtain ⟨h1, h2, _⟩ := parB_true h
    refine ev_pos h (Ev.bind (lnAllowed_ev l (by omega) h2) (ev_now (by rw [if_pos h, h])))
  · exact ev_neg h (ev_now (by rw [if_neg h, Bool.eq_false_iff.mpr h]))
theorem implBreaks_ev (l : List Int) (a : Int) (hn : l.length ≤ 1048576) : Ev (fun k => impl_BreaksAllowed.f k l a) (breaksM l a, parB l a) := by
  unfold impl_BreaksAllowed.f breaksM
  refine Ev.bind (areParagraphs_ev l a (by omega)) ?_
  by_cases h : parB l a = true
  · obtain ⟨h1, h2, _⟩ := parB_true h
    have hlen := allowL_length l 0 (fun n hn => (h2 n hn).2)
    have hpos : 0 < (allowL 0 l).length := by
      cases l with
      | nil => simp at h1
      | cons x xs => simp [allowL]; omega
    refine ev_pos h (Ev.bind (allowed_ev l (by omega) h2) ?_)
    rw [w64 (by omega) (by omega)]
    refine ev_pos (by omega) (ev_pos (by omega) (ev_now ?_))
    rw [if_pos h, h]
    congr 1
    rw [List.dropLast_eq_take]
    congr 1
    omega
  · exact ev_neg h (ev_now (by rw [if_neg h, Bool.eq_false_iff.mpr h]))

/-! ### A cursor's draws: they end, and what they draw is small -/
def Dr {α : Type} (P : α → Prop) (B : Int) (g : Nat → Option (α × Int × Int)) : Prop := ∃ p : α × Int × Int, Ev g p ∧ P p.1 ∧ 0 ≤ p.2.1 ∧ p.2.1 ≤ B
theorem Dr.bind {α β : Type} {P : α → Prop} {Q : β → Prop} {B C : Int} {g : Nat → Option (α × Int × Int)} {f : Nat → (α × Int × Int) → Option (β × Int × Int)} (h : Dr P B g) (k : ∀ p : α × Int × Int, P p.1 → 0 ≤ p.2.1 → p.2.1 ≤ B → Dr Q C (fun n => f n p)) : Dr Q C (fun n => (g n).bind (f n)) := by
  obtain ⟨p, h1, h2, h3, h4⟩ := h
  obtain ⟨q, k1, k2, k3, k4⟩ := k p h2 h3 h4
  exact ⟨q, Ev.bind h1 k1, k2, k3, k4⟩
theorem Dr.now {α : Type} {P : α → Prop} {B : Int} {r : α} {a s : Int} (h : P r) (h0 : 0 ≤ a) (h1 : a ≤ B) : Dr P B (fun _ => some (r, a, s)) := ⟨(r, a, s), ev_now rfl, h, h0, h1⟩
theorem Dr.pos {α : Type} {P : α → Prop} {B : Int} {c : Prop} [Decidable c] {f g : Nat → Option (α × Int × Int)} (hc : c) (h : Dr P B f) : Dr P B (fun k => if c then f k else g k) := by
  simpa only [if_pos hc] using h
theorem Dr.neg {α : Type} {P : α → Prop} {B : Int} {c : Prop} [Decidable c] {f g : Nat → Option (α × Int × Int)} (hc : ¬ c) (h : Dr P B g) : Dr P B (fun k => if c then f k else g k) := by
  simpa only [if_neg hc] using h
theorem Dr.step {α : Type} {P : α → Prop} {B : Int} {g f : Nat → Option (α × Int × Int)} (h : ∀ k, g (k + 1) = f k) (k : Dr P B f) : Dr P B g := by
  obtain ⟨p, k1, k2⟩ := k
  exact ⟨p, Ev.step h k1, k2⟩
theorem Dr.mono {α : Type} {P Q : α → Prop} {B C : Int} {g : Nat → Option (α × Int × Int)} (h : Dr P B g) (hP : ∀ r, P r → Q r) (hB : B ≤ C) : Dr Q C g := by
  obtain ⟨p, h1, h2, h3, h4⟩ := h
  exact ⟨p, h1, hP _ h2, h3, by omega⟩
theorem Dr.some {α : Type} {γ : Type} {P : α → Prop} {B : Int} {x : Option γ} {y : γ} {f : Nat → γ → Option (α × Int × Int)} (h : x = Option.some y) (k : Dr P B (fun n => f n y)) : Dr P B (fun n => x.bind (f n)) := by
  subst h; exact k
def byteL (c : List Int) : Prop := ∀ x ∈ c, 0 ≤ x ∧ x ≤ 255
theorem byte_rd {c : List Int} (hc : byteL c) (i : Int) : 0 ≤ rd c i ∧ rd c i ≤ 255 := by
  unfold rd
  rw [List.getD_eq_getElem?_getD]
  rcases h : c[i.toNat]? with _ | x
  · simp
  · exact hc x (List.mem_of_getElem? h)
theorem b255 (z : Int) (h : 0 ≤ z) (h2 : z < 18446744073709551616) : 0 ≤ Go.bits .and .u64 z 255 ∧ Go.bits .and .u64 z 255 ≤ 255 := by
  obtain ⟨n, rfl⟩ : ∃ n : Nat, z = n := ⟨z.toNat, by omega⟩
  have e := bits_and_u64_nat n 255 (by omega) (by omega)
  have e2 : ((255 : Nat) : Int) = 255 := rfl
  rw [e2] at e
  rw [e]
  have := Nat.and_le_right (n := n) (m := 255)
  omega
theorem u64r (z : Int) : 0 ≤ IntKind.u64.wrap z ∧ IntKind.u64.wrap z < 18446744073709551616 := by
  have e : IntKind.u64.wrap z = z % 18446744073709551616 := by simp [IntKind.wrap, IntKind.signed, IntKind.bits]
  rw [e]; omega
theorem next_ok (c : List Int) (hc : byteL c) (a s : Int) (h0 : 0 ≤ a) (h1 : a ≤ 1000000000) : ∃ r s', spec_l1Cur_next.f c a s = some (r, a + 1, s') ∧ 0 ≤ r ∧ r ≤ 255 := by
  unfold spec_l1Cur_next.f
  rw [w64 (x := a + 1) (by omega) (by omega)]
  have hb := byte_rd hc a
  have hz : ∀ z : Int, 0 ≤ wrap64 (Go.bits .and .u64 (IntKind.u64.wrap z / 1099511627776) 255) ∧ wrap64 (Go.bits .and .u64 (IntKind.u64.wrap z / 1099511627776) 255) ≤ 255 := fun z => by
    have h := u64r z
    have := b255 (IntKind.u64.wrap z / 1099511627776) (by omega) (by omega)
    rw [w64 (by omega) (by omega)]; exact this
  by_cases c1 : a < (c.length : Int)
  · by_cases c2 : a + 1 ≤ (c.length : Int)
    · exact ⟨_, _, by rw [if_pos c1, if_pos h0, if_pos c2], by rw [w64 (by omega) (by omega)]; exact hb⟩
    · exact ⟨_, _, by rw [if_pos c1, if_pos h0, if_neg c2], hz _⟩
  · by_cases c2 : a + 1 ≤ (c.length : Int)
    · exact ⟨_, _, by rw [if_neg c1, if_pos c2], by omega⟩
    · exact ⟨_, _, by rw [if_neg c1, if_neg c2], hz _⟩
theorem pick_ok (c : List Int) (hc : byteL c) (a s n : Int) (h0 : 0 ≤ a) (h1 : a ≤ 1000000) (hn : n ≤ 1000000) : ∃ r a' s', spec_l1Cur_pick.f c a s n = some (r, a', s') ∧ (0 ≤ r ∧ (r < n ∨ r = 0)) ∧ 0 ≤ a' ∧ a' ≤ a + 2 := by
  unfold spec_l1Cur_pick.f
  by_cases c1 : n ≤ 1
  · exact ⟨0, a, s, by rw [if_pos c1], by omega, h0, by omega⟩
  obtain ⟨x, s1, e1, x0, x1⟩ := next_ok c hc a s h0 (by omega)
  by_cases c2 : n > 200
  · obtain ⟨y, s2, e2, y0, y1⟩ := next_ok c hc (a + 1) s1 (by omega) (by omega)
    have hm : Int.tmod (x * 256 + y) n = (x * 256 + y) % n := Int.tmod_eq_emod_of_nonneg (by omega)
    have hr0 := Int.emod_nonneg (x * 256 + y) (by omega : n ≠ 0)
    have hr1 := Int.emod_lt_of_pos (x * 256 + y) (by omega : 0 < n)
    refine ⟨(x * 256 + y) % n, a + 2, s2, ?_, by omega, by omega, by omega⟩
    rw [if_neg c1, e1]
    simp only [Option.bind_some]
    rw [if_pos c2, e2]
    simp only [Option.bind_some]
    rw [if_neg (by omega), w64 (x := x * 256) (by omega) (by omega), w64 (by omega) (by omega), hm, show a + 1 + 1 = a + 2 from by omega]
  · have hm : Int.tmod x n = x % n := Int.tmod_eq_emod_of_nonneg (by omega)
    have hr0 := Int.emod_nonneg x (by omega : n ≠ 0)
    have hr1 := Int.emod_lt_of_pos x (by omega : 0 < n)
    refine ⟨x % n, a + 1, s1, ?_, by omega, by omega, by omega⟩
    rw [if_neg c1, e1]
    simp only [Option.bind_some]
    rw [if_neg c2, if_neg (by omega), hm]
theorem pick_dr (c : List Int) (hc : byteL c) (a s n B : Int) (h0 : 0 ≤ a) (h1 : a ≤ B) (hB : B ≤ 1000000) (hn : n ≤ 1000000) : Dr (fun r => 0 ≤ r ∧ (r < n ∨ r = 0)) (B + 2) (fun _ => spec_l1Cur_pick.f c a s n) := by
  obtain ⟨r, a', s', e, h2, h3, h4⟩ := pick_ok c hc a s n h0 (by omega) hn
  exact ⟨(r, a', s'), by rw [e]; exact ev_now rfl, h2, h3, by show a' ≤ B + 2; omega⟩
theorem one_dr (c : List Int) (hc : byteL c) (a s n B : Int) (h0 : 0 ≤ a) (h1 : a ≤ B) (hB : B ≤ 1000000) (hn : n ≤ 1000000) : Dr (fun _ => True) (B + 2) (fun _ => spec_l1Cur_one.f c a s n) := by
  unfold spec_l1Cur_one.f
  exact Dr.bind (pick_dr c hc a s n B h0 h1 hB hn) fun p3 _ h3 h4 => Dr.now trivial h3 h4
theorem among_dr (c : List Int) (hc : byteL c) (a s B : Int) (l : List Int) (hl : 1 ≤ l.length) (hl2 : l.length ≤ 1000000) (h0 : 0 ≤ a) (h1 : a ≤ B) (hB : B ≤ 1000000) : Dr (fun _ => True) (B + 2) (fun _ => spec_l1Cur_among.f c a s l) := by
  unfold spec_l1Cur_among.f
  refine Dr.bind (pick_dr c hc a s _ B h0 h1 hB (by omega)) fun p3 h2 h3 h4 => ?_
  exact Dr.pos h2.1 (Dr.pos (by omega) (Dr.now trivial h3 h4))
theorem of_dr (c : List Int) (hc : byteL c) (a s B : Int) (l : List ByteArray) (N : Nat) (hN : ∀ x ∈ l, x.size ≤ N) (hl : 1 ≤ l.length) (hl2 : l.length ≤ 1000000) (h0 : 0 ≤ a) (h1 : a ≤ B) (hB : B ≤ 1000000) : Dr (fun r => r.size ≤ N) (B + 2) (fun _ => spec_l1Cur_of.f c a s l) := by
  unfold spec_l1Cur_of.f
  refine Dr.bind (pick_dr c hc a s _ B h0 h1 hB (by omega)) fun p3 h2 h3 h4 => ?_
  refine Dr.pos h2.1 (Dr.pos (by omega) (Dr.now ?_ h3 h4))
  have hr : p3.1.toNat < l.length := by omega
  refine hN _ ?_
  show rdOf ByteArray.empty l p3.1 ∈ l
  unfold rdOf
  rw [List.getD_eq_getElem?_getD, List.getElem?_eq_getElem hr]
  exact List.getElem_mem hr

theorem sureWords_l (c : List Int) (hc : byteL c) : ∀ (m : Nat) (out : List Int) (a s B : Int), 0 ≤ a → a ≤ B → B + 2 * m ≤ 1000000 → out.length + m ≤ 1000 →
    Dr (fun r => r.length ≤ out.length + m) (B + 2 * m) (fun k => spec_l1Cur_sureWords.l0 k out (m : Int) c a s) := by
  intro m
  induction m with
  | zero =>
    intro out a s B h0 h1 hB ho
    refine Dr.step (fun k => spec_l1Cur_sureWords.l0.eq_2 ..) (Dr.neg (by omega) (Dr.now (by simp) h0 (by omega)))
  | succ m ih =>
    intro out a s B h0 h1 hB ho
    refine Dr.step (fun k => spec_l1Cur_sureWords.l0.eq_2 ..) (Dr.pos (by omega) (Dr.bind (pick_dr c hc a s 8 B h0 h1 (by omega) (by omega)) fun p3 h2 h3 h4 => ?_))
    refine Dr.pos (by omega) ?_
    have e : wrap64 (((m + 1 : Nat) : Int) - 1) = (m : Int) := by rw [w64 (by omega) (by omega)]; omega
    rw [e]
    exact (ih (out ++ [wrap64 (1 + p3.1)]) p3.2.1 p3.2.2 (B + 2) h3 h4 (by omega) (by simp; omega)).mono (fun _ h => by simp at h; omega) (by omega)
theorem sureWords_dr (c : List Int) (hc : byteL c) (a s B n : Int) (h0 : 0 ≤ a) (h1 : a ≤ B) (hB : B ≤ 900000) (hn0 : 1 ≤ n) (hn : n ≤ 100) : Dr (fun r => r.length ≤ 100) (B + 300) (fun k => spec_l1Cur_sureWords.f k c a s n) := by
  unfold spec_l1Cur_sureWords.f
  refine Dr.bind (pick_dr c hc a s n B h0 h1 (by omega) (by omega)) fun p3 h2 h3 h4 => ?_
  have e : wrap64 (1 + p3.1) = ((p3.1 + 1).toNat : Int) := by rw [w64 (by omega) (by omega)]; omega
  rw [e]
  exact (sureWords_l c hc (p3.1 + 1).toNat [] p3.2.1 p3.2.2 (B + 2) h3 h4 (by omega) (by simp; omega)).mono (fun _ h => by simp at h; omega) (by omega)
theorem words_l (c : List Int) (hc : byteL c) : ∀ (d : Nat) (out : List Int) (a s B : Int), 0 ≤ a → a ≤ B → B + 2 * d + 2 ≤ 1000000 → 200 ≤ out.length + d → out.length ≤ 200 →
    Dr (fun r => r.length ≤ 200) (B + 2 * d + 2) (fun k => spec_l1Cur_words.l0 k out c a s) := by
  intro d
  induction d with
  | zero =>
    intro out a s B h0 h1 hB ho ho2
    refine Dr.step (fun k => spec_l1Cur_words.l0.eq_2 ..) (Dr.bind (pick_dr c hc a s 2 B h0 h1 (by omega) (by omega)) fun p3 h2 h3 h4 => ?_)
    exact Dr.neg (by rw [w64 (by omega) (by omega)]; omega) (Dr.now ho2 h3 (by omega))
  | succ d ih =>
    intro out a s B h0 h1 hB ho ho2
    refine Dr.step (fun k => spec_l1Cur_words.l0.eq_2 ..) (Dr.bind (pick_dr c hc a s 2 B h0 h1 (by omega) (by omega)) fun p3 h2 h3 h4 => ?_)
    by_cases q : (out.length : Int) < wrap64 (30 + p3.1)
    · rw [w64 (by omega) (by omega)] at q
      refine Dr.pos (by rw [w64 (by omega) (by omega)]; exact q) (Dr.pos (by omega) ?_)
      exact (ih (out ++ [3]) p3.2.1 p3.2.2 (B + 2) h3 h4 (by omega) (by simp; omega) (by simp; omega)).mono (fun _ h => h) (by omega)
    · exact Dr.neg q (Dr.now ho2 h3 (by omega))
theorem words_dr (c : List Int) (hc : byteL c) (a s B : Int) (h0 : 0 ≤ a) (h1 : a ≤ B) (hB : B ≤ 500000) : Dr (fun r => r.length ≤ 200) (B + 1000) (fun k => spec_l1Cur_words.f k c a s) := by
  unfold spec_l1Cur_words.f
  refine Dr.bind (sureWords_dr c hc a s B 9 h0 h1 (by omega) (by omega) (by omega)) fun p3 ho h3 h4 => ?_
  refine Dr.bind (pick_dr c hc p3.2.1 p3.2.2 20 (B + 300) h3 h4 (by omega) (by omega)) fun p5 _ h5 h6 => ?_
  by_cases c1 : p5.1 = 0
  · exact Dr.pos c1 (Dr.now (by simp) h5 (by omega))
  refine Dr.neg c1 ?_
  by_cases c2 : p5.1 = 1
  · refine Dr.pos c2 (Dr.bind (among_dr c hc p5.2.1 p5.2.2 (B + 302) _ (by simp) (by simp) h5 (by omega) (by omega)) fun p7 _ h7 h8 => ?_)
    exact Dr.pos (by omega) (Dr.now (by simp; omega) h7 (by omega))
  refine Dr.neg c2 ?_
  by_cases c3 : p5.1 = 2
  · exact Dr.pos c3 ((words_l c hc 200 p3.1 p5.2.1 p5.2.2 (B + 302) h5 (by omega) (by omega) (by omega) (by omega)).mono (fun _ h => h) (by omega))
  · exact Dr.neg c3 (Dr.now (by omega) h5 (by omega))
theorem wide_dr (c : List Int) (hc : byteL c) (a s B : Int) (h0 : 0 ≤ a) (h1 : a ≤ B) (hB : B ≤ 900000) : Dr (fun _ => True) (B + 4) (fun _ => spec_l1Cur_wide.f c a s) := by
  unfold spec_l1Cur_wide.f
  refine Dr.bind (one_dr c hc a s 8 B h0 h1 (by omega) (by omega)) fun p3 _ h3 h4 => ?_
  by_cases c1 : p3.1 = true
  · exact Dr.pos c1 (Dr.bind (among_dr c hc p3.2.1 p3.2.2 (B + 2) _ (by simp) (by simp) h3 (by omega) (by omega)) fun p7 _ h7 h8 => Dr.now trivial h7 (by omega))
  · exact Dr.neg c1 (Dr.bind (pick_dr c hc p3.2.1 p3.2.2 18 (B + 2) h3 h4 (by omega) (by omega)) fun p7 _ h7 h8 => Dr.now trivial h7 (by omega))

theorem sz_ext0 (x : ByteArray) (i : Nat) (h : i ≤ x.size) : (x.extract 0 i).size = i := by rw [ByteArray.size_extract]; omega
theorem sz_ext1 (x : ByteArray) (i : Nat) : (x.extract i x.size).size = x.size - i := by rw [ByteArray.size_extract]; omega
theorem sz_one (z : Int) : (strOfNums [z]).size = 1 := rfl
theorem spoilt_l (c : List Int) (hc : byteL c) (x2 : ByteArray) (h2a : 1 ≤ x2.size) (h2b : x2.size ≤ 1000) : ∀ (m : Nat) (x1 : ByteArray) (a s B : Int), 0 ≤ a → a ≤ B → B + 6 * m ≤ 1000000 → x1.size + m ≤ 100000 →
    Dr (fun r => r.size ≤ x1.size + m) (B + 6 * m) (fun k => spec_l1Cur_spoilt.l0 k x1 x2 (m : Int) c a s) := by
  intro m
  induction m with
  | zero =>
    intro x1 a s B h0 h1 hB ho
    exact Dr.step (fun k => spec_l1Cur_spoilt.l0.eq_2 ..) (Dr.neg (by omega) (Dr.step (fun k => spec_l1Cur_spoilt.j1.eq_2 ..) (Dr.neg (by simp) (Dr.now (by simp) h0 (by omega)))))
  | succ m ih =>
    intro x1 a s B h0 h1 hB ho
    refine Dr.step (fun k => spec_l1Cur_spoilt.l0.eq_2 ..) (Dr.pos (by omega) ?_)
    by_cases hs : (x1.size : Int) > 0
    · rw [decide_eq_true hs]
      refine Dr.step (fun k => spec_l1Cur_spoilt.j1.eq_2 ..) (Dr.pos rfl ?_)
      refine Dr.bind (pick_dr c hc a s _ B h0 h1 (by omega) (by omega)) fun p3 hi h3 h4 => ?_
      refine Dr.bind (pick_dr c hc p3.2.1 p3.2.2 _ (B + 2) h3 h4 (by omega) (by omega)) fun p5 hj h5 h6 => ?_
      refine Dr.pos hj.1 (Dr.pos (by omega) (Dr.some rfl ?_))
      refine Dr.bind (pick_dr c hc p5.2.1 p5.2.2 3 (B + 2 + 2) h5 h6 (by omega) (by omega)) fun p7 _ h7 h8 => ?_
      have e : wrap64 (((m + 1 : Nat) : Int) - 1) = (m : Int) := by rw [w64 (by omega) (by omega)]; omega
      have e2 : wrap64 (p3.1 + 1) = p3.1 + 1 := w64 (by omega) (by omega)
      have z0 := sz_ext0 x1 p3.1.toNat (by omega)
      have z1 := sz_ext1 x1 p3.1.toNat
      have z2 := sz_ext1 x1 (p3.1 + 1).toNat
      have z3 := sz_one (bt x2 p5.1)
      rw [e, e2]
      by_cases c1 : p7.1 = 0
      · refine Dr.pos c1 (Dr.pos hi.1 (Dr.pos (by omega) (Dr.pos (by omega) (Dr.pos (by rw [ByteArray.size_append]; omega) ?_))))
        refine (ih _ p7.2.1 p7.2.2 (B + 6) h7 (by omega) (by omega) ?_).mono (fun r h => ?_) (by omega)
        · rw [ByteArray.size_append, ByteArray.size_append]; omega
        · rw [ByteArray.size_append, ByteArray.size_append] at h; omega
      refine Dr.neg c1 ?_
      by_cases c2 : p7.1 = 1
      · refine Dr.pos c2 (Dr.pos hi.1 (Dr.pos (by omega) (Dr.pos (by omega) (Dr.pos (by omega) (Dr.pos (by omega) (Dr.pos (by rw [ByteArray.size_append]; omega) ?_))))))
        refine (ih _ p7.2.1 p7.2.2 (B + 6) h7 (by omega) (by omega) ?_).mono (fun r h => ?_) (by omega)
        · rw [ByteArray.size_append, ByteArray.size_append]; omega
        · rw [ByteArray.size_append, ByteArray.size_append] at h; omega
      · refine Dr.neg c2 (Dr.pos hi.1 (Dr.pos (by omega) (Dr.pos (by omega) (Dr.pos (by omega) (Dr.pos (by omega) ?_)))))
        refine (ih _ p7.2.1 p7.2.2 (B + 6) h7 (by omega) (by omega) ?_).mono (fun r h => ?_) (by omega)
        · rw [ByteArray.size_append]; omega
        · rw [ByteArray.size_append] at h; omega
    · rw [decide_eq_false hs]
      exact Dr.step (fun k => spec_l1Cur_spoilt.j1.eq_2 ..) (Dr.neg (by simp) (Dr.now (by omega) h0 (by omega)))
theorem spoilt_dr (c : List Int) (hc : byteL c) (x1 x2 : ByteArray) (h2a : 1 ≤ x2.size) (h2b : x2.size ≤ 1000) (h1a : x1.size ≤ 90000) (a s B : Int) (h0 : 0 ≤ a) (h1 : a ≤ B) (hB : B ≤ 900000) : Dr (fun r => r.size ≤ x1.size + 2) (B + 14) (fun k => spec_l1Cur_spoilt.f k c a s x1 x2) := by
  unfold spec_l1Cur_spoilt.f
  refine Dr.bind (pick_dr c hc a s 2 B h0 h1 (by omega) (by omega)) fun p3 h2 h3 h4 => ?_
  have e : wrap64 (1 + p3.1) = ((p3.1 + 1).toNat : Int) := by rw [w64 (by omega) (by omega)]; omega
  rw [e]
  exact (spoilt_l c hc x2 h2a h2b (p3.1 + 1).toNat x1 p3.2.1 p3.2.2 (B + 2) h3 h4 (by omega) (by omega)).mono (fun r h => by omega) (by omega)
theorem text_l (c : List Int) (hc : byteL c) : ∀ (m : Nat) (x : ByteArray) (a s B : Int), 0 ≤ a → a ≤ B → B + 2 * m ≤ 800000 → x.size + 100 * m ≤ 10000 →
    Dr (fun r => r.size ≤ 20000) (B + 2 * m + 100) (fun k => spec_l1Cur_text.l0 k x (m : Int) c a s) := by
  intro m
  induction m with
  | zero =>
    intro x a s B h0 h1 hB ho
    refine Dr.step (fun k => spec_l1Cur_text.l0.eq_2 ..) (Dr.neg (by omega) (Dr.bind (pick_dr c hc a s 14 B h0 h1 (by omega) (by omega)) fun p3 h2 h3 h4 => ?_))
    by_cases c1 : p3.1 = 0
    · refine Dr.pos c1 (Dr.bind (of_dr c hc p3.2.1 p3.2.2 (B + 2) _ 1000 ?_ (by simp) (by simp) h3 h4 (by omega)) fun p5 h5 h6 h7 => Dr.now (by omega) h6 (by omega))
      intro y hy
      simp only [List.mem_cons, List.not_mem_nil, or_false] at hy
      rcases hy with rfl | rfl | rfl | rfl | rfl | rfl | rfl <;> decide
    refine Dr.neg c1 ?_
    by_cases c2 : p3.1 = 1
    · exact Dr.pos c2 (Dr.bind (spoilt_dr c hc x _ (by decide) (by decide) (by omega) p3.2.1 p3.2.2 (B + 2) h3 h4 (by omega)) fun p5 h5 h6 h7 => Dr.now (by omega) h6 (by omega))
    · exact Dr.neg c2 (Dr.now (by omega) h3 (by omega))
  | succ m ih =>
    intro x a s B h0 h1 hB ho
    have hw : ∀ y ∈ [(⟨#[97]⟩ : ByteArray), (⟨#[111, 102]⟩ : ByteArray), (⟨#[116, 104, 101]⟩ : ByteArray), (⟨#[98, 111, 111, 107]⟩ : ByteArray), (⟨#[112, 97, 103, 101, 115]⟩ : ByteArray), (⟨#[108, 101, 97, 118, 101, 115]⟩ : ByteArray), (⟨#[114, 101, 97, 100, 105, 110, 103]⟩ : ByteArray), (⟨#[73]⟩ : ByteArray), (⟨#[111, 110]⟩ : ByteArray)], y.size ≤ 20 := by
      intro y hy
      simp only [List.mem_cons, List.not_mem_nil, or_false] at hy
      rcases hy with rfl | rfl | rfl | rfl | rfl | rfl | rfl | rfl | rfl <;> decide
    have e : wrap64 (((m + 1 : Nat) : Int) - 1) = (m : Int) := by rw [w64 (by omega) (by omega)]; omega
    refine Dr.step (fun k => spec_l1Cur_text.l0.eq_2 ..) (Dr.pos (by omega) ?_)
    rw [e]
    have z32 : (⟨#[32]⟩ : ByteArray).size = 1 := rfl
    by_cases c1 : x.toList = ([] : List UInt8)
    · refine Dr.pos c1 (Dr.bind (of_dr c hc a s B _ 20 hw (by simp) (by simp) h0 h1 (by omega)) fun p3 h2 h3 h4 => ?_)
      refine Dr.pos (by omega) ?_
      exact (ih _ p3.2.1 p3.2.2 (B + 2) h3 h4 (by omega) (by rw [ByteArray.size_append]; omega)).mono (fun r h => h) (by omega)
    · refine Dr.neg c1 (Dr.pos (by omega) (Dr.bind (of_dr c hc a s B _ 20 hw (by simp) (by simp) h0 h1 (by omega)) fun p3 h2 h3 h4 => ?_))
      refine Dr.pos (by rw [ByteArray.size_append]; omega) ?_
      exact (ih _ p3.2.1 p3.2.2 (B + 2) h3 h4 (by omega) (by rw [ByteArray.size_append, ByteArray.size_append]; omega)).mono (fun r h => h) (by omega)
theorem text_dr (c : List Int) (hc : byteL c) (a s B : Int) (h0 : 0 ≤ a) (h1 : a ≤ B) (hB : B ≤ 500000) : Dr (fun r => r.size ≤ 20000) (B + 200) (fun k => spec_l1Cur_text.f k c a s) := by
  unfold spec_l1Cur_text.f
  refine Dr.bind (pick_dr c hc a s 8 B h0 h1 (by omega) (by omega)) fun p3 h2 h3 h4 => ?_
  have e : wrap64 (1 + p3.1) = ((p3.1 + 1).toNat : Int) := by rw [w64 (by omega) (by omega)]; omega
  have z : (⟨#[]⟩ : ByteArray).size = 0 := rfl
  rw [e]
  exact (text_l c hc (p3.1 + 1).toNat _ p3.2.1 p3.2.2 (B + 2) h3 h4 (by omega) (by omega)).mono (fun r h => h) (by omega)

def Dr2 (P : List Int → Prop) (B : Int) (g : Nat → Option (List Int × Int × Int × Int)) : Prop := ∃ r x a s, Ev g (r, x, a, s) ∧ P r ∧ 0 ≤ a ∧ a ≤ B
theorem Dr2.bind {α : Type} {P : α → Prop} {Q : List Int → Prop} {B C : Int} {g : Nat → Option (α × Int × Int)} {f : Nat → (α × Int × Int) → Option (List Int × Int × Int × Int)} (h : Dr P B g) (k : ∀ p : α × Int × Int, P p.1 → 0 ≤ p.2.1 → p.2.1 ≤ B → Dr2 Q C (fun n => f n p)) : Dr2 Q C (fun n => (g n).bind (f n)) := by
  obtain ⟨p, h1, h2, h3, h4⟩ := h
  obtain ⟨r', x', a', s', k1, k2, k3, k4⟩ := k p h2 h3 h4
  exact ⟨r', x', a', s', Ev.bind h1 k1, k2, k3, k4⟩
theorem Dr2.now {P : List Int → Prop} {B : Int} {r : List Int} {x a s : Int} (h : P r) (h0 : 0 ≤ a) (h1 : a ≤ B) : Dr2 P B (fun _ => some (r, x, a, s)) := ⟨r, x, a, s, ev_now rfl, h, h0, h1⟩
theorem Dr2.pos {P : List Int → Prop} {B : Int} {c : Prop} [Decidable c] {f g : Nat → Option (List Int × Int × Int × Int)} (hc : c) (h : Dr2 P B f) : Dr2 P B (fun k => if c then f k else g k) := by
  simpa only [if_pos hc] using h
theorem Dr2.neg {P : List Int → Prop} {B : Int} {c : Prop} [Decidable c] {f g : Nat → Option (List Int × Int × Int × Int)} (hc : ¬ c) (h : Dr2 P B g) : Dr2 P B (fun k => if c then f k else g k) := by
  simpa only [if_neg hc] using h
theorem Dr2.step {P : List Int → Prop} {B : Int} {g f : Nat → Option (List Int × Int × Int × Int)} (h : ∀ k, g (k + 1) = f k) (k : Dr2 P B f) : Dr2 P B g := by
  obtain ⟨r, x, a, s, k1, k2⟩ := k
  exact ⟨r, x, a, s, Ev.step h k1, k2⟩
theorem Dr2.mono {P Q : List Int → Prop} {B C : Int} {g : Nat → Option (List Int × Int × Int × Int)} (h : Dr2 P B g) (hP : ∀ r, P r → Q r) (hB : B ≤ C) : Dr2 Q C g := by
  obtain ⟨r, x, a, s, h1, h2, h3, h4⟩ := h
  exact ⟨r, x, a, s, h1, hP r h2, h3, by omega⟩
theorem par_l1 (c : List Int) (hc : byteL c) (x : Int) : ∀ (d : Nat) (out : List Int) (a s B : Int), 0 ≤ a → a ≤ B → B + 2 * d + 2 ≤ 1000000 → 200 ≤ out.length + d → out.length ≤ 200 →
    Dr2 (fun r => r.length ≤ 200) (B + 2 * d + 2) (fun k => spec_l1Cur_paragraphs.l1 k out x c a s) := by
  intro d
  induction d with
  | zero =>
    intro out a s B h0 h1 hB ho ho2
    refine Dr2.step (fun k => spec_l1Cur_paragraphs.l1.eq_2 ..) (Dr2.bind (pick_dr c hc a s 2 B h0 h1 (by omega) (by omega)) fun p3 h2 h3 h4 => ?_)
    exact Dr2.neg (by rw [w64 (by omega) (by omega)]; omega) (Dr2.now ho2 h3 (by omega))
  | succ d ih =>
    intro out a s B h0 h1 hB ho ho2
    refine Dr2.step (fun k => spec_l1Cur_paragraphs.l1.eq_2 ..) (Dr2.bind (pick_dr c hc a s 2 B h0 h1 (by omega) (by omega)) fun p3 h2 h3 h4 => ?_)
    by_cases q : (out.length : Int) < wrap64 (12 + p3.1)
    · rw [w64 (by omega) (by omega)] at q
      refine Dr2.pos (by rw [w64 (by omega) (by omega)]; exact q) (Dr2.pos (by omega) ?_)
      exact (ih (out ++ [3]) p3.2.1 p3.2.2 (B + 2) h3 h4 (by omega) (by simp; omega) (by simp; omega)).mono (fun _ h => h) (by omega)
    · exact Dr2.neg q (Dr2.now ho2 h3 (by omega))
theorem par_l0 (c : List Int) (hc : byteL c) : ∀ (m : Nat) (out : List Int) (a s B : Int), 0 ≤ a → a ≤ B → B + 2 * m ≤ 900000 → out.length + m ≤ 100 →
    Dr2 (fun r => r.length ≤ 200) (B + 2 * m + 1000) (fun k => spec_l1Cur_paragraphs.l0 k out (m : Int) c a s) := by
  intro m
  induction m with
  | zero =>
    intro out a s B h0 h1 hB ho
    refine Dr2.step (fun k => spec_l1Cur_paragraphs.l0.eq_2 ..) (Dr2.neg (by omega) (Dr2.bind (among_dr c hc a s B _ (by simp) (by simp) h0 h1 (by omega)) fun p3 _ h3 h4 => ?_))
    refine Dr2.bind (pick_dr c hc p3.2.1 p3.2.2 16 (B + 2) h3 h4 (by omega) (by omega)) fun p5 _ h5 h6 => ?_
    by_cases c1 : p5.1 = 0
    · exact Dr2.pos c1 (Dr2.now (by simp) h5 (by omega))
    refine Dr2.neg c1 ?_
    by_cases c2 : p5.1 = 1
    · refine Dr2.pos c2 (Dr2.bind (among_dr c hc p5.2.1 p5.2.2 (B + 4) _ (by simp) (by simp) h5 (by omega) (by omega)) fun p7 _ h7 h8 => ?_)
      exact Dr2.pos (by omega) (Dr2.now (by simp; omega) h7 (by omega))
    refine Dr2.neg c2 ?_
    by_cases c3 : p5.1 = 2
    · exact Dr2.pos c3 ((par_l1 c hc p3.1 200 out p5.2.1 p5.2.2 (B + 4) h5 (by omega) (by omega) (by omega) (by omega)).mono (fun _ h => h) (by omega))
    · exact Dr2.neg c3 (Dr2.now (by omega) h5 (by omega))
  | succ m ih =>
    intro out a s B h0 h1 hB ho
    refine Dr2.step (fun k => spec_l1Cur_paragraphs.l0.eq_2 ..) (Dr2.pos (by omega) (Dr2.bind (pick_dr c hc a s 7 B h0 h1 (by omega) (by omega)) fun p3 h2 h3 h4 => ?_))
    refine Dr2.pos (by omega) ?_
    have e : wrap64 (((m + 1 : Nat) : Int) - 1) = (m : Int) := by rw [w64 (by omega) (by omega)]; omega
    rw [e]
    exact (ih (out ++ [wrap64 (1 + p3.1)]) p3.2.1 p3.2.2 (B + 2) h3 h4 (by omega) (by simp; omega)).mono (fun _ h => h) (by omega)
theorem par_dr (c : List Int) (hc : byteL c) (a s B : Int) (h0 : 0 ≤ a) (h1 : a ≤ B) (hB : B ≤ 500000) : Dr2 (fun r => r.length ≤ 200) (B + 2000) (fun k => spec_l1Cur_paragraphs.f k c a s) := by
  unfold spec_l1Cur_paragraphs.f
  refine Dr2.bind (pick_dr c hc a s 7 B h0 h1 (by omega) (by omega)) fun p3 h2 h3 h4 => ?_
  have e : wrap64 (1 + p3.1) = ((p3.1 + 1).toNat : Int) := by rw [w64 (by omega) (by omega)]; omega
  rw [e]
  exact (par_l0 c hc (p3.1 + 1).toNat [] p3.2.1 p3.2.2 (B + 2) h3 h4 (by omega) (by simp; omega)).mono (fun _ h => h) (by omega)

theorem lnNeed_some (l : List Int) (hn : l.length ≤ 1048576) : ∃ z, Ev (fun k => spec_lnNeed.f k l) z := by
  have h : ∀ (ys : List Int) (i s : Int), 0 ≤ i → l.drop i.toNat = ys → ∃ z, Ev (fun k => spec_lnNeed.l0 k s l (l.length : Int) i) z := by
    intro ys
    induction ys with
    | nil =>
      intro i s h0 h
      have := drop_nil h0 h
      exact ⟨_, Ev.step (fun k => spec_lnNeed.l0.eq_2 ..) (ev_neg (by omega) (ev_now rfl))⟩
    | cons y ys ih =>
      intro i s h0 h
      obtain ⟨h1, h2, h3, _⟩ := drop_cons h0 h
      obtain ⟨z, hz⟩ := ih (i + 1) (wrap64 (s + rd l i)) (by omega) h3
      refine ⟨z, Ev.step (fun k => spec_lnNeed.l0.eq_2 ..) (ev_pos h1 (ev_pos h0 (ev_pos h1 ?_)))⟩
      rw [w64 (x := i + 1) (by omega) (by omega)]
      exact hz
  exact h l 0 _ (by omega) rfl
theorem drawSS (c : List Int) (hc : byteL c) : ∃ l w, Ev (fun k => spec_DrawStretchSpaces.f k c) (l, w) ∧ l.length ≤ 200 := by
  unfold spec_DrawStretchSpaces.f
  obtain ⟨p1, e1, _, a1, b1⟩ := one_dr c hc 0 0 4 0 (by omega) (by omega) (by omega) (by omega)
  by_cases c1 : p1.1 = true
  · obtain ⟨p2, e2, h2, a2, b2⟩ := words_dr c hc p1.2.1 p1.2.2 2 a1 (by omega) (by omega)
    obtain ⟨p3, e3, _, a3, b3⟩ := wide_dr c hc p2.2.1 p2.2.2 1002 a2 (by omega) (by omega)
    exact ⟨_, _, Ev.bind e1 (ev_pos c1 (Ev.bind e2 (Ev.bind e3 (ev_now rfl)))), h2⟩
  · obtain ⟨p2, e2, h2, a2, b2⟩ := sureWords_dr c hc p1.2.1 p1.2.2 2 5 a1 (by omega) (by omega) (by omega) (by omega)
    obtain ⟨z, hz⟩ := lnNeed_some p2.1 (by omega)
    obtain ⟨p3, e3, _, a3, b3⟩ := pick_dr c hc p2.2.1 p2.2.2 9 302 a2 (by omega) (by omega) (by omega)
    obtain ⟨p4, e4, _, a4, b4⟩ := pick_dr c hc p3.2.1 p3.2.2 9 304 a3 (by omega) (by omega) (by omega)
    exact ⟨_, _, Ev.bind e1 (ev_neg c1 (Ev.bind e2 (Ev.bind hz (Ev.bind e3 (Ev.bind e4 (ev_now rfl)))))), by omega⟩
theorem drawST (c : List Int) (hc : byteL c) : ∃ t w, Ev (fun k => spec_DrawStretchText.f k c) (t, w) ∧ t.size ≤ 20000 := by
  unfold spec_DrawStretchText.f
  obtain ⟨p2, e2, h2, a2, b2⟩ := text_dr c hc 0 0 0 (by omega) (by omega) (by omega)
  obtain ⟨p1, e1, _, a1, b1⟩ := one_dr c hc p2.2.1 p2.2.2 4 200 a2 (by omega) (by omega) (by omega)
  by_cases c1 : p1.1 = true
  · obtain ⟨p3, e3, _, a3, b3⟩ := wide_dr c hc p1.2.1 p1.2.2 202 a1 (by omega) (by omega)
    exact ⟨_, _, Ev.bind e2 (Ev.bind e1 (ev_pos c1 (Ev.bind e3 (ev_now rfl)))), h2⟩
  · obtain ⟨p3, e3, _, a3, b3⟩ := pick_dr c hc p1.2.1 p1.2.2 9 202 a1 (by omega) (by omega) (by omega)
    obtain ⟨p4, e4, _, a4, b4⟩ := pick_dr c hc p3.2.1 p3.2.2 9 204 a3 (by omega) (by omega) (by omega)
    exact ⟨_, _, Ev.bind e2 (Ev.bind e1 (ev_neg c1 (Ev.bind e3 (Ev.bind e4 (ev_now rfl))))), h2⟩
theorem drawPB (c : List Int) (hc : byteL c) : ∃ l w, Ev (fun k => spec_DrawParagraphBreaks.f k c) (l, w) ∧ l.length ≤ 200 := by
  unfold spec_DrawParagraphBreaks.f
  obtain ⟨r, x, a, s, e, h, _, _⟩ := par_dr c hc 0 0 0 (by omega) (by omega) (by omega)
  exact ⟨_, _, Ev.bind e (ev_now rfl), h⟩

theorem xHas_l (n : Int) (l : List Int) (hn : l.length ≤ 1048576) : ∀ (ys : List Int) (i : Int), 0 ≤ i → l.drop i.toNat = ys → Ev (fun k => laws_xHas.l0 k n l (l.length : Int) i) (decide (n ∈ ys)) := by
  intro ys
  induction ys with
  | nil =>
    intro i h0 h
    have := drop_nil h0 h
    exact Ev.step (fun k => laws_xHas.l0.eq_2 ..) (ev_neg (by omega) (ev_now (by simp)))
  | cons y ys ih =>
    intro i h0 h
    obtain ⟨h1, h2, h3, _⟩ := drop_cons h0 h
    refine Ev.step (fun k => laws_xHas.l0.eq_2 ..) (ev_pos h1 (ev_pos h0 (ev_pos h1 ?_)))
    rw [h2, w64 (x := i + 1) (by omega) (by omega)]
    by_cases e : y = n
    · exact ev_pos e (ev_now (by simp [e]))
    · exact ev_neg e (ev_val (ih (i + 1) (by omega) h3) (by simp [Ne.symm e]))
theorem xHas_ev (l : List Int) (n : Int) (hn : l.length ≤ 1048576) : Ev (fun k => laws_xHas.f k l n) (decide (n ∈ l)) := xHas_l n l hn l 0 (by omega) rfl
theorem xSum_l (l : List Int) (hn : l.length ≤ 1048576) (hb : ∀ x ∈ l, 0 ≤ x ∧ x ≤ 1000) : ∀ (ys : List Int) (i s : Int), 0 ≤ i → l.drop i.toNat = ys → 0 ≤ s → s + 1000 * ys.length ≤ 1000000000000 → Ev (fun k => laws_xSum.l0 k s l (l.length : Int) i) (s + ys.sum) := by
  intro ys
  induction ys with
  | nil =>
    intro i s h0 h _ _
    have := drop_nil h0 h
    exact Ev.step (fun k => laws_xSum.l0.eq_2 ..) (ev_neg (by omega) (ev_now (by simp)))
  | cons y ys ih =>
    intro i s h0 h hs hb2
    obtain ⟨h1, h2, h3, _⟩ := drop_cons h0 h
    have hy := hb y (List.mem_of_mem_drop (by rw [h]; exact List.mem_cons_self))
    simp only [List.length_cons] at hb2
    refine Ev.step (fun k => laws_xSum.l0.eq_2 ..) (ev_pos h1 (ev_pos h0 (ev_pos h1 ?_)))
    rw [h2, w64 (x := i + 1) (by omega) (by omega), w64 (by omega) (by omega)]
    exact ev_val (ih (i + 1) (s + y) (by omega) h3 (by omega) (by omega)) (by rw [List.sum_cons]; omega)
theorem xSum_ev (l : List Int) (hn : l.length ≤ 1048576) (hb : ∀ x ∈ l, 0 ≤ x ∧ x ≤ 1000) : Ev (fun k => laws_xSum.f k l) l.sum :=
  ev_val (xSum_l l hn hb l 0 0 (by omega) rfl (by omega) (by omega)) (by omega)
theorem xSame_l (l : List Int) (hn : l.length ≤ 1048576) : ∀ (ys : List Int) (i : Int), 0 ≤ i → l.drop i.toNat = ys → Ev (fun k => laws_xSame.l0 k l l (l.length : Int) i) true := by
  intro ys
  induction ys with
  | nil =>
    intro i h0 h
    have := drop_nil h0 h
    exact Ev.step (fun k => laws_xSame.l0.eq_2 ..) (ev_neg (by omega) (ev_now rfl))
  | cons y ys ih =>
    intro i h0 h
    obtain ⟨h1, h2, h3, _⟩ := drop_cons h0 h
    refine Ev.step (fun k => laws_xSame.l0.eq_2 ..) (ev_pos h1 (ev_pos h0 (ev_pos h1 (ev_pos h1 (ev_pos rfl ?_)))))
    rw [w64 (x := i + 1) (by omega) (by omega)]
    exact ih (i + 1) (by omega) h3
theorem xSame_ev (l : List Int) (hn : l.length ≤ 1048576) : Ev (fun k => laws_xSame.f k l l) true := by
  unfold laws_xSame.f
  exact ev_pos rfl (xSame_l l hn l 0 (by omega) rfl)
theorem rd_eq (l : List Int) (i : Int) (h0 : 0 ≤ i) (h : i < (l.length : Int)) : rd l i = l[i.toNat]'(by omega) := by
  unfold rd
  rw [List.getD_eq_getElem?_getD, List.getElem?_eq_getElem (by omega)]; rfl
theorem xRises_l (l : List Int) (hn : l.length ≤ 1048576) (hp : l.Pairwise (· < ·)) : ∀ (d : Nat) (i : Int), 1 ≤ i → (l.length : Int) ≤ i + d → Ev (fun k => laws_xRises.l0 k l i) true := by
  intro d
  induction d with
  | zero =>
    intro i h0 h
    exact Ev.step (fun k => laws_xRises.l0.eq_2 ..) (ev_neg (by omega) (ev_now rfl))
  | succ d ih =>
    intro i h0 h
    refine Ev.step (fun k => laws_xRises.l0.eq_2 ..) ?_
    by_cases c : i < (l.length : Int)
    · rw [w64 (x := i - 1) (by omega) (by omega), w64 (x := i + 1) (by omega) (by omega)]
      refine ev_pos c (ev_pos (by omega) (ev_pos (by omega) (ev_pos (by omega) ?_)))
      have e1 := rd_eq l (i - 1) (by omega) (by omega)
      have e2 := rd_eq l i (by omega) c
      have := List.pairwise_iff_getElem.1 hp (i - 1).toNat i.toNat (by omega) (by omega) (by omega)
      exact ev_neg (by rw [e1, e2]; omega) (ih (i + 1) (by omega) (by omega))
    · exact ev_neg c (ev_now rfl)
theorem xRises_ev (l : List Int) (hn : l.length ≤ 1048576) (hp : l.Pairwise (· < ·)) : Ev (fun k => laws_xRises.f k l) true := by
  unfold laws_xRises.f
  exact xRises_l l hn hp l.length 1 (by omega) (by omega)

theorem FL_l5 (a : Int) (al lf bs : List Int) (T at_ y i : Int) (hn : al.length ≤ 1048576) (hno : ∀ x ∈ al, ¬ (y < x ∧ x ≤ at_ + a)) (ha : 2 ≤ a ∧ a ≤ 60) (hat : 0 ≤ at_ ∧ at_ ≤ 100000) (hi : 0 ≤ i ∧ i ≤ 100000) (r : Bool) (hr : Ev (fun k => laws_FnLinesStretched.l4 k a al lf T y bs (bs.length : Int) (i + 1)) r) : ∀ (ys : List Int) (j : Int), 0 ≤ j → al.drop j.toNat = ys →
    Ev (fun k => laws_FnLinesStretched.l5 k a al lf T at_ y bs (bs.length : Int) i al (al.length : Int) j) r := by
  intro ys
  induction ys with
  | nil =>
    intro j h0 h
    have := drop_nil h0 h
    refine Ev.step (fun k => laws_FnLinesStretched.l5.eq_2 ..) (ev_neg (by omega) ?_)
    rw [w64 (x := i + 1) (by omega) (by omega)]
    exact hr
  | cons z ys ih =>
    intro j h0 h
    obtain ⟨h1, h2, h3, _⟩ := drop_cons h0 h
    have hz := hno z (List.mem_of_mem_drop (by rw [h]; exact List.mem_cons_self))
    refine Ev.step (fun k => laws_FnLinesStretched.l5.eq_2 ..) (ev_pos h1 (ev_pos h0 (ev_pos h1 ?_)))
    rw [h2, w64 (x := j + 1) (by omega) (by omega), w64 (x := at_ + a) (by omega) (by omega)]
    by_cases c : z > y
    · exact ev_pos c (ev_neg (by omega) (ih (j + 1) (by omega) h3))
    · exact ev_neg c (ih (j + 1) (by omega) h3)
theorem FL_l4 (a : Int) (al lf bs : List Int) (T : Int) (hn : al.length ≤ 100000) (hbn : bs.length ≤ 1000) (ha : 2 ≤ a ∧ a ≤ 60) (hT : T ≤ 720) : ∀ (ys : List Int) (i at_ : Int), 0 ≤ i → 0 ≤ at_ → bs.drop i.toNat = ys → ChainB al T a at_ ys → lf.drop i.toNat = leftL a at_ (ys ++ [T]) →
    Ev (fun k => laws_FnLinesStretched.l4 k a al lf T at_ bs (bs.length : Int) i) true := by
  intro ys
  induction ys with
  | nil =>
    intro i at_ h0 ha0 h hc hl
    have := drop_nil h0 h
    simp only [ChainB] at hc
    refine Ev.step (fun k => laws_FnLinesStretched.l4.eq_2 ..) (ev_neg (by omega) ?_)
    rw [w64 (x := T - at_) (by omega) (by omega)]
    exact ev_neg (by omega) (ev_neg (by omega) (ev_now rfl))
  | cons y ys ih =>
    intro i at_ h0 ha0 h hc hl
    obtain ⟨h1, h2, h3, _⟩ := drop_cons h0 h
    simp only [ChainB] at hc
    obtain ⟨c1, c2, c3, c4, c5⟩ := hc
    have hyT := ChainB_le al T a ys y c5
    simp only [List.cons_append, leftL] at hl
    obtain ⟨g1, g2, g3, _⟩ := drop_cons h0 hl
    refine Ev.step (fun k => laws_FnLinesStretched.l4.eq_2 ..) (ev_pos h1 (ev_pos h0 (ev_pos h1 ?_)))
    rw [h2]
    refine Ev.bind (xHas_ev al y (by omega)) (ev_pos (decide_eq_true c1) ?_)
    rw [w64 (x := y - at_) (by omega) (by omega), g2]
    have e : (wrap64 (a - wrap64 (y - at_)) != wrap64 (wrap64 (a - y) + at_)) = false := by
      rw [w64 (x := y - at_) (by omega) (by omega), w64 (x := a - (y - at_)) (by omega) (by omega), w64 (x := a - y) (by omega) (by omega), w64 (by omega) (by omega)]
      simp; omega
    rw [e]
    refine ev_neg (by omega) (ev_pos g1 (Ev.step (fun k => laws_FnLinesStretched.j14.eq_2 ..) (ev_neg (by simp) ?_)))
    exact FL_l5 a al lf bs T at_ y i (by omega) c4 ha ⟨ha0, by omega⟩ ⟨h0, by omega⟩ true (ih (i + 1) y (by omega) (by omega) h3 c5 g3) al 0 (by omega) rfl
/-- What the law knows of the paragraphs. -/
structure ParW (P : List Int) (a : Int) (bs al lf : List Int) (five seven : Bool) (pages : Int) : Prop where
  al_eq : seven = true → parB P a = true ∧ al = (allowL 0 P).dropLast
  fs : five = true → seven = true
  five_ok : five = true → ChainB al P.sum a 0 bs ∧ bs.length ≤ 1000 ∧ pages = (bs.length : Int) + 1 ∧ lf = leftL a 0 (bs ++ [P.sum])
theorem chain_rises (A : List Int) (T lines : Int) : ∀ (bs : List Int) (at_ : Int), ChainB A T lines at_ bs → bs.Pairwise (· < ·) ∧ ∀ b ∈ bs, at_ < b
  | [], _, _ => by simp
  | b :: bs, at_, h => by
    simp only [ChainB] at h
    obtain ⟨p1, p2⟩ := chain_rises A T lines bs b h.2.2.2.2
    refine ⟨List.pairwise_cons.2 ⟨fun x hx => p2 x hx, p1⟩, fun x hx => ?_⟩
    rcases List.mem_cons.1 hx with rfl | hx
    · omega
    · have := p2 x hx; omega
theorem FL_j11 (P : List Int) (a : Int) (bs al lf : List Int) (five seven : Bool) (pages : Int) (W : ParW P a bs al lf five seven pages) : Ev (fun k => laws_FnLinesStretched.j11 k P a bs five al pages lf) true := by
  refine Ev.step (fun k => laws_FnLinesStretched.j11.eq_2 ..) ?_
  by_cases h5 : five = true
  · obtain ⟨hp, hal⟩ := W.al_eq (W.fs h5)
    obtain ⟨h1, h2, h3⟩ := parB_true hp
    obtain ⟨hc, hb, hpg, hlf⟩ := W.five_ok h5
    have hsb := sum_bound P h2
    have hA := allowL_length P 0 (fun n hn => (h2 n hn).2)
    have hAl : al.length ≤ 800 := by rw [hal, List.length_dropLast]; omega
    obtain ⟨hs, hx⟩ := left_sum al P.sum a h3 bs 0 (by omega) (by omega) hc
    have hll : lf.length = bs.length + 1 := by rw [hlf, leftL_length]; simp
    rw [← hlf] at hs hx
    have hm0 : 0 ≤ ((bs.length : Int) + 1) * a := Int.mul_nonneg (by omega) (by omega)
    have hm1 : ((bs.length : Int) + 1) * a ≤ 1001 * 60 := Int.mul_le_mul (by omega) h3.2 (by omega) (by omega)
    refine ev_pos h5 (Ev.bind (xSum_ev P (by omega) (fun n hn => by have := h2 n hn; omega)) (ev_pos (by rw [w64 (by omega) (by omega)]; omega) (ev_pos (by omega) (Ev.bind (xSum_ev lf (by omega) (fun n hn => by have := hx n hn; omega)) (ev_pos ?_ (Ev.bind (xRises_ev bs (by omega) (chain_rises al P.sum a bs 0 hc).1) ?_))))))
    · rw [hs, hpg, w64 (x := ((bs.length : Int) + 1) * a) (by omega) (by omega), w64 (by omega) (by omega)]; omega
    · refine Ev.step (fun k => laws_FnLinesStretched.j12.eq_2 ..) (ev_neg (by simp) ?_)
      exact FL_l4 a al lf bs P.sum (by omega) hb h3 (by omega) bs 0 0 (by omega) (by omega) rfl hc hlf
  · exact ev_neg h5 (ev_now rfl)
theorem FL_l3 (P : List Int) (a : Int) (bs al lf : List Int) (five : Bool) (pages T : Int) (h1 : 1 ≤ (P.length : Int) ∧ (P.length : Int) ≤ 12) (h2 : ∀ n ∈ P, 1 ≤ n ∧ n ≤ 60) (hal : al = (allowL 0 P).dropLast) (pre post : List Int) (n : Int) (hP : P = pre ++ n :: post) (hb0 : 0 ≤ pre.sum) (hb1 : pre.sum ≤ 720) (r : Bool)
    (hr : Ev (fun k => laws_FnLinesStretched.l2 k P a bs five al pages lf T (pre.sum + n) P (P.length : Int) ((pre.length : Int) + 1)) r) : ∀ (m : Nat) (x : Int), 1 ≤ x → x + m = n + 1 →
    Ev (fun k => laws_FnLinesStretched.l3 k P a bs five al pages lf T pre.sum (pre.length : Int) n x P (P.length : Int) (pre.length : Int)) r := by
  intro m
  have hn := h2 n (by rw [hP]; simp)
  have hlen : (P.length : Int) = pre.length + 1 + post.length := by rw [hP]; simp; omega
  have hA := allowL_length P 0 (fun n hn => (h2 n hn).2)
  have hAl : al.length ≤ 800 := by rw [hal, List.length_dropLast]; omega
  have hpl : post ≠ [] ↔ 1 ≤ (post.length : Int) := by
    cases post with
    | nil => simp
    | cons x xs => simp; omega
  induction m with
  | zero =>
    intro x hx hm
    refine Ev.step (fun k => laws_FnLinesStretched.l3.eq_2 ..) (ev_neg (by omega) ?_)
    rw [w64 (x := pre.sum + n) (by omega) (by omega), w64 (x := (pre.length : Int) + 1) (by omega) (by omega)]
    exact hr
  | succ m ih =>
    intro x hx hm
    have hi := allow_iff pre post n x (by rw [← hP]; exact h2) hx (by omega)
    rw [← hP, ← hal, hpl] at hi
    have hh := xHas_ev al (pre.sum + x) (by omega)
    have next := ih (x + 1) (by omega) (by omega)
    refine Ev.step (fun k => laws_FnLinesStretched.l3.eq_2 ..) (ev_pos (by omega) ?_)
    rw [w64 (x := (pre.length : Int) + 1) (by omega) (by omega), w64 (x := pre.sum + x) (by omega) (by omega), w64 (x := x + 1) (by omega) (by omega), w64 (x := n - 1) (by omega) (by omega)]
    by_cases c1 : x = n
    · refine ev_pos c1 ?_
      by_cases c2 : (pre.length : Int) + 1 < (P.length : Int)
      · refine ev_pos c2 (Ev.bind hh (ev_neg ?_ next))
        rw [decide_eq_true (hi.2 (.inl ⟨c1, by omega⟩))]; simp
      · refine ev_neg c2 ?_
        have hno : ¬ (pre.sum + x ∈ al) := fun q => by have := hi.1 q; omega
        by_cases c3 : x > 1
        · refine ev_pos c3 (Ev.bind hh (ev_neg ?_ next))
          rw [decide_eq_false hno, decide_eq_false (by omega)]; simp
        · refine ev_neg c3 (Ev.bind hh (ev_neg ?_ next))
          rw [decide_eq_false hno]; simp
    · refine ev_neg c1 ?_
      by_cases c3 : x > 1
      · refine ev_pos c3 (Ev.bind hh (ev_neg ?_ next))
        by_cases c4 : x < n - 1
        · rw [decide_eq_true c4, decide_eq_true (hi.2 (.inr ⟨by omega, c4⟩))]; simp
        · rw [decide_eq_false c4, decide_eq_false (fun q => by have := hi.1 q; omega)]; simp
      · refine ev_neg c3 (Ev.bind hh (ev_neg ?_ next))
        rw [decide_eq_false (fun q => by have := hi.1 q; omega)]; simp
theorem FL_l2 (P : List Int) (a : Int) (bs al lf : List Int) (five : Bool) (pages T : Int) (h1 : 1 ≤ (P.length : Int) ∧ (P.length : Int) ≤ 12) (h2 : ∀ n ∈ P, 1 ≤ n ∧ n ≤ 60) (hal : al = (allowL 0 P).dropLast) (hT : T = P.sum) (r : Bool)
    (hr : Ev (fun k => laws_FnLinesStretched.j11 k P a bs five al pages lf) r) : ∀ (post pre : List Int), P = pre ++ post →
    Ev (fun k => laws_FnLinesStretched.l2 k P a bs five al pages lf T pre.sum P (P.length : Int) (pre.length : Int)) r := by
  intro post
  have hsP := sum_bound P h2
  induction post with
  | nil =>
    intro pre hP
    have e : P = pre := by rw [hP]; simp
    refine Ev.step (fun k => laws_FnLinesStretched.l2.eq_2 ..) (ev_neg (by rw [e]; omega) (ev_pos (by rw [hT, e]) hr))
  | cons n post ih =>
    intro pre hP
    have hd : P.drop (pre.length : Int).toNat = n :: post := by rw [hP]; simp
    obtain ⟨g1, g2, _, _⟩ := drop_cons (by omega) hd
    have hn := h2 n (by rw [hP]; simp)
    have hpre := sum_bound pre (fun x hx => h2 x (by rw [hP]; exact List.mem_append_left _ hx))
    have hpl : pre.length ≤ 12 := by
      have : (P.length : Int) = pre.length + 1 + post.length := by rw [hP]; simp; omega
      omega
    refine Ev.step (fun k => laws_FnLinesStretched.l2.eq_2 ..) (ev_pos g1 (ev_pos (by omega) (ev_pos g1 ?_)))
    rw [g2]
    refine FL_l3 P a bs al lf five pages T h1 h2 hal pre post n hP (by omega) (by omega) r ?_ n.toNat 1 (by omega) (by omega)
    have := ih (pre ++ [n]) (by rw [hP]; simp)
    rw [List.sum_append, List.length_append] at this
    have e1 : pre.sum + [n].sum = pre.sum + n := by simp
    have e2 : ((pre.length + [n].length : Nat) : Int) = (pre.length : Int) + 1 := by simp
    rw [e1, e2] at this
    exact this
theorem FL_j8 (P : List Int) (a : Int) (bs al lf : List Int) (five seven : Bool) (pages : Int) (W : ParW P a bs al lf five seven pages) : Ev (fun k => laws_FnLinesStretched.j8 k P a bs five al seven pages lf) true := by
  have h11 := FL_j11 P a bs al lf five seven pages W
  refine Ev.step (fun k => laws_FnLinesStretched.j8.eq_2 ..) ?_
  by_cases h7 : seven = true
  · obtain ⟨hp, hal⟩ := W.al_eq h7
    obtain ⟨h1, h2, h3⟩ := parB_true hp
    have hA := allowL_length P 0 (fun n hn => (h2 n hn).2)
    have hAl : al.length ≤ 800 := by rw [hal, List.length_dropLast]; omega
    have hsort : al.Pairwise (· < ·) := by rw [hal]; exact (allowL_sorted P 0 h2).sublist (List.dropLast_sublist _)
    refine ev_pos h7 (Ev.bind (xSum_ev P (by omega) (fun n hn => by have := h2 n hn; omega)) (Ev.bind (xRises_ev al (by omega) hsort) (ev_pos rfl ?_)))
    exact FL_l2 P a bs al lf five pages P.sum h1 h2 hal rfl true h11 P [] (by simp)
  · exact ev_neg h7 h11
theorem FL_j7 (s : List UInt8) (room : Int) (P : List Int) (a : Int) (bs al lf : List Int) (five seven : Bool) (pages : Int) (W : ParW P a bs al lf five seven pages) :
    Ev (fun k => laws_FnLinesStretched.j7 k (mkB s) room (centreM s room).1 (centreM s room).2 P a bs five al seven pages lf) true := by
  have h8 := FL_j8 P a bs al lf five seven pages W
  refine Ev.step (fun k => laws_FnLinesStretched.j7.eq_2 ..) ?_
  by_cases h : centreOk s room = true
  · have e : centreM s room = (mkB (centreL s room), true) := if_pos h
    rw [e]
    have h' := h
    unfold centreOk at h'
    simp only [Bool.and_eq_true, decide_eq_true_eq] at h'
    obtain ⟨_, ⟨hr1, hr2⟩, hr3⟩ := h'
    have hd : wrap64 (Int.tdiv (wrap64 (room - ((mkB s).size : Int))) 2) = (((room.toNat - s.length) / 2 : Nat) : Int) := by
      rw [mkB_size, w64 (x := room - (s.length : Int)) (by omega) (by omega), Int.tdiv_eq_ediv_of_nonneg (by omega), w64 (by omega) (by omega)]; omega
    have hlen : (centreL s room).length = room.toNat := by unfold centreL; simp only [List.length_append, sp_len]; omega
    rw [hd, mkB_size, mkB_size, hlen, w64 (x := (((room.toNat - s.length) / 2 : Nat) : Int) + (s.length : Int)) (by omega) (by omega)]
    refine ev_pos rfl (ev_pos (by omega) (ev_pos (by omega) (ev_pos (by omega) (ev_pos (by omega) (ev_pos ?_ h8)))))
    have e1 : ((((room.toNat - s.length) / 2 : Nat) : Int)).toNat = (room.toNat - s.length) / 2 := by omega
    have e2 : ((((room.toNat - s.length) / 2 : Nat) : Int) + (s.length : Int)).toNat = (room.toNat - s.length) / 2 + s.length := by omega
    rw [e1, e2, mkB_slice]
    congr 2
    unfold centreL
    rw [List.append_assoc, List.take_append, List.drop_append]
    simp [sp_len]
  · have e : centreM s room = (⟨#[]⟩, false) := if_neg h
    rw [e]
    exact ev_neg (by simp) h8
theorem FL_l1 (l L : List UInt8) (hl : l.length ≤ 100000) (hL : L.length ≤ 100000) (hasc : ∀ b ∈ L, b.toNat < 128) (y : UInt8) (ys : List UInt8) (hy : L = y :: ys) (hy2 : y ≠ 32) (hend : endsOn L) (x19 : ByteArray) (x20 : Int) (x21 : ByteArray) (x22 : Bool) (x25 : List Int) (x26 : Int) (x27 : List Int) (x28 : Bool) (x31 : List Int) (x32 : Bool) (x35 : Int) (x39 : List Int) (r : Bool)
    (hr : Ev (fun k => laws_FnLinesStretched.j7 k x19 x20 x21 x22 x25 x26 x27 x28 x31 x32 x35 x39) r) : ∀ (cs : List UInt8) (i kk : Nat) (ts : List UInt8), L.drop i = cs → l.drop kk = ts → kk ≤ l.length → matL cs ts = some [] →
    Ev (fun k => laws_FnLinesStretched.l1 k (mkB l) (mkB L) x19 x20 x21 x22 x25 x26 x27 x28 x31 x32 x35 x39 (kk : Int) (i : Int) (L.length : Int)) r := by
  intro cs
  induction cs with
  | nil =>
    intro i kk ts h ht hk hm
    have hi := List.drop_eq_nil_iff.1 h
    rw [matL] at hm
    have hts : ts = [] := Option.some.inj hm
    rw [hts] at ht
    have hkk := List.drop_eq_nil_iff.1 ht
    have hb0 : bt (mkB L) 0 = (y.toNat : Int) := bt_mkB (i := 0) (x := y) (xs := ys) (by rw [hy]; rfl)
    obtain ⟨zs, z, hz, hz2⟩ := hend
    have hLl : L.length = zs.length + 1 := by rw [hz]; simp
    have hb1 : bt (mkB L) ((zs.length : Nat) : Int) = (z.toNat : Int) := bt_mkB (x := z) (xs := []) (by rw [hz]; simp)
    refine Ev.step (fun k => laws_FnLinesStretched.l1.eq_2 ..) (ev_neg (by omega) ?_)
    rw [mkB_size, mkB_size, hb0, w64 (x := (L.length : Int) - 1) (by omega) (by omega), show (L.length : Int) - 1 = ((zs.length : Nat) : Int) from by omega, hb1]
    exact ev_pos (by omega) (ev_pos (by omega) (ev_neg (fun q => hy2 ((toNat32 y).1 q)) (ev_pos (by omega) (ev_pos (by omega) (ev_neg (fun q => hz2 ((toNat32 z).1 q)) hr)))))
  | cons c cs ih =>
    intro i kk ts h ht hk hm
    obtain ⟨g1, g2⟩ := drop_step h
    have hbi := bt_mkB h
    have hc := hasc c (List.mem_of_mem_drop (by rw [h]; exact List.mem_cons_self))
    refine Ev.step (fun k => laws_FnLinesStretched.l1.eq_2 ..) (ev_pos (by omega) ?_)
    rw [hbi, mkB_size, mkB_size]
    refine ev_pos (by omega) ?_
    have e1 : (i : Int) + 1 = ((i + 1 : Nat) : Int) := by omega
    have skip : c = 32 → matL cs ts = some [] → Ev (fun k => laws_FnLinesStretched.j6 k (mkB l) (mkB L) x19 x20 x21 x22 x25 x26 x27 x28 x31 x32 x35 x39 (kk : Int) (i : Int) ((i : Int) + 1) (L.length : Int) false) r := fun hc32 hm2 => by
      refine Ev.step (fun k => laws_FnLinesStretched.j6.eq_2 ..) (ev_neg (by simp) ?_)
      rw [hbi, mkB_size, e1]
      exact ev_pos (by omega) (ev_pos (by omega) (ev_pos ((toNat32 c).2 hc32) (ih (i + 1) kk ts g2 ht hk hm2)))
    rcases ts with _ | ⟨t, ts⟩
    · have hkk := List.drop_eq_nil_iff.1 ht
      rw [matL] at hm
      by_cases c32 : c = 32
      · rw [if_pos c32] at hm
        exact ev_neg (by omega) (skip c32 hm)
      · rw [if_neg c32] at hm; cases hm
    · obtain ⟨k1, k2⟩ := drop_step ht
      have hbk := bt_mkB ht
      rw [hbk]
      refine ev_pos (by omega) (ev_pos (by omega) (ev_pos (by omega) (ev_pos (by omega) ?_)))
      rw [matL] at hm
      by_cases ct : c = t
      · rw [if_pos ct] at hm
        have eb : ((c.toNat : Int) == (t.toNat : Int)) = true := by rw [ct]; simp
        rw [eb]
        refine Ev.step (fun k => laws_FnLinesStretched.j6.eq_2 ..) (ev_pos rfl ?_)
        rw [w64 (x := (kk : Int) + 1) (by omega) (by omega), e1, show (kk : Int) + 1 = ((kk + 1 : Nat) : Int) from by omega]
        exact ih (i + 1) (kk + 1) ts g2 k2 (by omega) hm
      · rw [if_neg ct] at hm
        by_cases c32 : c = 32
        · rw [if_pos c32] at hm
          have eb : ((c.toNat : Int) == (t.toNat : Int)) = false := by
            rw [beq_eq_false_iff_ne]
            intro q
            exact ct (UInt8.toNat_inj.1 (by omega))
          rw [eb]
          exact skip c32 hm
        · rw [if_neg c32] at hm; cases hm
theorem FL_j4 (l s : List UInt8) (w room : Int) (hl : l.length ≤ 20000) (P : List Int) (a : Int) (bs al lf : List Int) (five seven : Bool) (pages : Int) (W : ParW P a bs al lf five seven pages) :
    Ev (fun k => laws_FnLinesStretched.j4 k (mkB l) w (strM l w).1 (strM l w).2 (mkB s) room (centreM s room).1 (centreM s room).2 P a bs five al seven pages lf false) true := by
  have h7 := FL_j7 s room P a bs al lf five seven pages W
  refine Ev.step (fun k => laws_FnLinesStretched.j4.eq_2 ..) (ev_neg (by simp) ?_)
  by_cases hok : strOk l w = true
  · have e : strM l w = (mkB ((parts 32 l).headD [] ++ joinS (stretchL (lensT l) w) (parts 32 l).tail), true) := if_pos hok
    rw [e]
    have hok' := hok
    unfold strOk at hok'
    rw [Bool.and_eq_true] at hok'
    obtain ⟨ht, hb⟩ := hok'
    have htt := textOk_true ht
    have hpl : l.all plainB = true := by
      unfold textOk at ht
      simp only [Bool.and_eq_true] at ht
      exact ht.2.1
    have hfull := (fullP_iff 32 l).1.1 htt.2.2
    obtain ⟨f1, f2, _, f4, f5⟩ := stretchL_facts hb
    obtain ⟨m1, m2, _⟩ := stretchL_more hb
    obtain ⟨hset, hne1, hnw⟩ := stretchB_true hb
    have hwd := (settingB_true hset).2.1
    have hll := lensT_length l
    obtain ⟨p, qs, hpq⟩ : ∃ p qs, parts 32 l = p :: qs := by
      rcases hd : parts 32 l with _ | ⟨p, qs⟩
      · exact absurd hd (parts_ne 32 l)
      · exact ⟨p, qs, rfl⟩
    have hjt := parts_join l p qs hpq
    have hparts : ∀ q ∈ parts 32 l, q ≠ [] ∧ (32 : UInt8) ∉ q := fun q hq => ⟨fun z => hfull (by rw [← z]; exact hq), parts_no 32 l q hq⟩
    have hqs : ∀ q ∈ qs, q ≠ [] ∧ (32 : UInt8) ∉ q := fun q hq => hparts q (by rw [hpq]; exact List.mem_cons_of_mem _ hq)
    have hp := hparts p (by rw [hpq]; exact List.mem_cons_self)
    have hlq : (stretchL (lensT l) w).length = qs.length := by
      rw [hpq, List.length_cons] at hll; omega
    have hqne : qs ≠ [] := by
      intro z
      rw [z] at hlq
      rw [hpq, List.length_cons, z] at hll
      simp at hll
      omega
    have hhead : (parts 32 l).headD [] = p := by rw [hpq]; rfl
    have htail : (parts 32 l).tail = qs := by rw [hpq]; rfl
    rw [hhead, htail]
    have hjl := joinS_len (stretchL (lensT l) w) qs hlq (fun b hb => (m2 b hb).1)
    have hsl : (lensT l).sum = p.length + sumL qs := by unfold lensT sumL; rw [hpq]; simp
    have hLw : (((p ++ joinS (stretchL (lensT l) w) qs).length : Nat) : Int) = w := by
      rw [List.length_append, Int.natCast_add, hjl, m1, hsl]; omega
    obtain ⟨y, ys, hy⟩ : ∃ y ys, p = y :: ys := by
      rcases p with _ | ⟨y, ys⟩
      · exact absurd rfl hp.1
      · exact ⟨y, ys, rfl⟩
    have hplain : ∀ b ∈ l, b.toNat < 128 := fun b hbm => by
      have := List.all_eq_true.1 hpl b hbm
      unfold plainB at this
      rw [decide_eq_true_eq] at this
      omega
    refine ev_pos rfl (ev_pos (by rw [mkB_size]; exact hLw) ?_)
    rw [mkB_size]
    refine FL_l1 l (p ++ joinS (stretchL (lensT l) w) qs) (by omega) (by omega) ?_ y (ys ++ joinS (stretchL (lensT l) w) qs) (by rw [hy]; rfl) ?_ (endsOn_app _ (endsOn_join _ _ hlq hqne hqs)) _ _ _ _ _ _ _ _ _ _ _ _ true h7 _ 0 0 _ rfl rfl (by omega) ?_
    · intro b hbm
      rw [List.mem_append] at hbm
      rcases hbm with hbm | hbm
      · exact hplain b (parts_sub 32 l p (by rw [hpq]; exact List.mem_cons_self) b hbm)
      · rcases joinS_mem _ _ b hbm with rfl | ⟨q, hq, hbq⟩
        · decide
        · exact hplain b (parts_sub 32 l q (by rw [hpq]; exact List.mem_cons_of_mem _ hq) b hbq)
    · intro z
      exact hp.2 (by rw [hy, z]; exact List.mem_cons_self)
    · have hm : matL (p ++ joinS (stretchL (lensT l) w) qs) (p ++ joinT qs) = some [] := by
        rw [matL_same]
        exact matL_join _ _ hlq (fun b hb => (m2 b hb).1) hqs
      exact (congrArg (matL _) hjt).trans hm
  · have e : strM l w = (⟨#[]⟩, false) := if_neg hok
    rw [e]
    exact ev_neg (by simp) h7
theorem FL_j3 (c : List Int) (hc : byteL c) : Ev (fun k => laws_FnLinesStretched.j3 k c) true := by
  obtain ⟨t, w, ed, ht⟩ := drawST c hc
  obtain ⟨P, a, ep, hP⟩ := drawPB c hc
  obtain ⟨l, rfl⟩ : ∃ l : List UInt8, t = mkB l := ⟨t.data.toList, (mkB_eq t).symm⟩
  rw [mkB_size] at ht
  have ec : Ev (fun k => spec_DrawCentreText.f k c) (mkB l, w) := by
    unfold spec_DrawCentreText.f
    exact Ev.bind ed (ev_now rfl)
  obtain ⟨r, hi, hs, hW, h5, h5f⟩ := breaksMore P a (by omega)
  obtain ⟨hls, hli⟩ := leftBoth P a (by omega) r hi hs hW (fun q => (h5 q).1)
  obtain ⟨q, hps, hpi, hq2, hq1⟩ : ∃ q : Int × Bool, Ev (fun k => spec_PagesOfParagraphs.f k P a) q ∧ Ev (fun k => impl_PagesOfParagraphs.f k P a) q ∧ q.2 = r.2 ∧ (r.2 = true → q.1 = (r.1.length : Int) + 1) := by
    by_cases hr : r.2 = true
    · exact ⟨(wrap64 ((r.1.length : Int) + 1), true), by unfold spec_PagesOfParagraphs.f; exact Ev.bind hs (ev_pos hr (ev_now rfl)), by unfold impl_PagesOfParagraphs.f; exact Ev.bind hi (ev_pos hr (ev_now rfl)), hr.symm, fun _ => w64 (by omega) (by omega)⟩
    · exact ⟨(0, false), by unfold spec_PagesOfParagraphs.f; exact Ev.bind hs (ev_neg hr (ev_now rfl)), by unfold impl_PagesOfParagraphs.f; exact Ev.bind hi (ev_neg hr (ev_now rfl)), (Bool.eq_false_iff.2 hr).symm, fun h => absurd h hr⟩
  have hbm : (breaksM P a).length ≤ 10000 := by
    unfold breaksM
    split
    · rename_i h
      obtain ⟨h1, h2, _⟩ := parB_true h
      have := allowL_length P 0 (fun n hn => (h2 n hn).2)
      rw [List.length_dropLast]; omega
    · simp
  have hlm : (leftM P a r).1.length ≤ 10000 := by
    unfold leftM
    split
    · rw [leftL_length]; simp; omega
    · simp
  have hl2 : (leftM P a r).2 = r.2 := by
    unfold leftM
    split
    · rename_i h; exact h.symm
    · rename_i h; exact (Bool.eq_false_iff.2 h).symm
  have W : ParW P a r.1 (breaksM P a) (leftM P a r).1 r.2 (parB P a) q.1 := by
    refine ⟨fun h => ⟨h, if_pos h⟩, fun h => (h5 h).1, fun h => ?_⟩
    have e : breaksM P a = (allowL 0 P).dropLast := if_pos (h5 h).1
    rw [e]
    exact ⟨(h5 h).2, hW, hq1 h, by unfold leftM; rw [if_pos h]⟩
  have h4 := FL_j4 l l w w ht P a r.1 (breaksM P a) (leftM P a r).1 r.2 (parB P a) q.1 W
  refine Ev.step (fun k => laws_FnLinesStretched.j3.eq_2 ..) ?_
  refine Ev.bind ed (Ev.bind (implStr_ev l w (by omega)) (Ev.bind (specStr_ev l w (by omega)) (Ev.bind ec (Ev.bind (implCentre_ev l w (by omega)) (Ev.bind (specCentre_ev l w (by omega)) ?_)))))
  refine Ev.bind ep (Ev.bind hi (Ev.bind hs (Ev.bind (implBreaks_ev P a (by omega)) (Ev.bind (specBreaks_ev P a (by omega)) (Ev.bind hpi (Ev.bind hps (Ev.bind hli (Ev.bind hls ?_))))))))
  refine ev_neg (by simp) (ev_pos rfl (ev_neg (by simp) (ev_pos rfl (ev_neg (by simp) (Ev.bind (xSame_ev r.1 (by omega)) (ev_pos rfl ?_))))))
  refine ev_neg (by simp) (Ev.bind (xSame_ev (breaksM P a) (by omega)) (ev_pos rfl (ev_neg (by simp) (ev_pos rfl (ev_neg (by simp) (Ev.bind (xSame_ev (leftM P a r).1 (by omega)) (ev_pos rfl ?_)))))))
  refine ev_neg (by rw [hq2]; simp) (ev_neg (by rw [hl2]; simp) ?_)
  by_cases h : r.2 = true
  · have e : (!parB P a) = false := by rw [(h5 h).1]; rfl
    rw [e]
    exact ev_pos h h4
  · exact ev_neg h h4
theorem specStretch_ev (l : List Int) (wide : Int) (hn : l.length ≤ 1048576) : Ev (fun k => spec_StretchSpaces.f k l wide) (stretchM l wide, stretchB l wide) := by
  have no : stretchB l wide = false → (([] : List Int), false) = (stretchM l wide, stretchB l wide) := fun h => by unfold stretchM; rw [h]; rfl
  unfold spec_StretchSpaces.f
  refine Ev.bind (lnFits_ev l wide (by omega)) ?_
  by_cases h1 : settingB l wide = true
  · obtain ⟨⟨w1, w2⟩, w3⟩ := wordsB_true (settingB_true h1).1
    refine ev_pos h1 ?_
    by_cases h2 : (l.length : Int) = 1
    · exact ev_pos h2 (ev_now (no (by unfold stretchB; rw [decide_eq_false (by omega : ¬ (l.length : Int) ≠ 1)]; simp)))
    · refine ev_neg h2 (Ev.bind (lnNeed_ev l (by omega) w3) ?_)
      by_cases h3 : needL l ≤ wide
      · have hb : stretchB l wide = true := by unfold stretchB; rw [h1, decide_eq_true h2, decide_eq_true h3]; rfl
        exact ev_neg (by omega) (Ev.bind (lnStretch_ev l wide hb) (ev_now (by unfold stretchM; rw [if_pos hb, hb])))
      · exact ev_pos (by omega) (ev_now (no (by unfold stretchB; rw [decide_eq_false h3]; simp)))
  · exact ev_neg h1 (ev_now (no (by unfold stretchB; rw [Bool.eq_false_iff.2 h1, Bool.false_and])))
theorem FL_l0 (c : List Int) (hc : byteL c) (sp_ : List Int) (hn : sp_.length ≤ 1000) (q r : Int) (hq : 1 ≤ q ∧ q ≤ 100) (hg : ∀ j : Nat, j < sp_.length → sp_[j]? = some (q + if (j : Int) < r then 1 else 0)) : ∀ (ys : List Int) (i : Int), 0 ≤ i → sp_.drop i.toNat = ys →
    Ev (fun k => laws_FnLinesStretched.l0 k c sp_ sp_ (sp_.length : Int) i) true := by
  have hrd : ∀ i : Int, 0 ≤ i → i < (sp_.length : Int) → rd sp_ i = q + if i < r then 1 else 0 := fun i h0 h => by
    unfold rd
    rw [List.getD_eq_getElem?_getD, hg i.toNat (by omega), show ((i.toNat : Nat) : Int) = i from by omega]; rfl
  intro ys
  induction ys with
  | nil =>
    intro i h0 h
    have := drop_nil h0 h
    exact Ev.step (fun k => laws_FnLinesStretched.l0.eq_2 ..) (ev_neg (by omega) (FL_j3 c hc))
  | cons y ys ih =>
    intro i h0 h
    obtain ⟨h1, h2, h3, _⟩ := drop_cons h0 h
    have e0 := hrd 0 (by omega) (by omega)
    have ei := hrd i h0 h1
    refine Ev.step (fun k => laws_FnLinesStretched.l0.eq_2 ..) (ev_pos h1 (ev_pos h0 (ev_pos h1 ?_)))
    rw [e0, ei, w64 (x := i - 1) (by omega) (by omega), w64 (x := i + 1) (by omega) (by omega), w64 (by split <;> split <;> omega) (by split <;> split <;> omega)]
    refine ev_neg (by split <;> omega) (ev_pos (by omega) (ev_neg (by split <;> split <;> omega) ?_))
    by_cases c1 : i > 0
    · have ep := hrd (i - 1) (by omega) (by omega)
      rw [ep]
      exact ev_pos c1 (ev_pos (by omega) (ev_pos (by omega) (ev_neg (by split <;> split <;> omega) (ih (i + 1) (by omega) h3))))
    · exact ev_neg c1 (ih (i + 1) (by omega) h3)
theorem FnLinesStretched (c d : List Int) (_hc : c.length ≤ 9223372036854775807) (hcb : ∀ s ∈ c, (Lit.int .u8 s).wf = true) (_hd : d.length ≤ 9223372036854775807) (hdb : ∀ s ∈ d, (Lit.int .u8 s).wf = true) : ∃ k, laws_FnLinesStretched.f k c d = some true := by
  refine Ev.rounds ?_
  have hb : ∀ l : List Int, (∀ s ∈ l, (Lit.int .u8 s).wf = true) → byteL l := fun l h x hx => by
    have := h x hx
    simp [Lit.wf, IntKind.min, IntKind.max, IntKind.signed, IntKind.bits] at this
    omega
  obtain ⟨l, w, ed, hl⟩ := drawSS c (hb c hcb)
  have h3 := FL_j3 d (hb d hdb)
  unfold laws_FnLinesStretched.f
  obtain ⟨b, eb⟩ : ∃ b, laws_big.f c d = some b := by
    unfold laws_big.f
    split
    · exact ⟨_, rfl⟩
    · exact ⟨_, rfl⟩
  refine ev_some eb ?_
  by_cases hbb : b = true
  · exact ev_pos hbb (ev_now rfl)
  have hM := stretchM_small l w
  refine ev_neg hbb (Ev.bind ed (Ev.bind (implStretch_ev l w (by omega)) (Ev.bind (specStretch_ev l w (by omega)) (ev_neg (by simp) (Ev.bind (xSame_ev (stretchM l w) (by omega)) ?_)))))
  refine Ev.step (fun k => laws_FnLinesStretched.j0.eq_2 ..) (ev_neg (by simp) ?_)
  by_cases hok : stretchB l w = true
  · have e : stretchM l w = stretchL l w := if_pos hok
    simp only [e]
    obtain ⟨f1, f2, f3, f4, f5⟩ := stretchL_facts hok
    obtain ⟨m1, m2, q, r, hq1, hq2, hg⟩ := stretchL_more hok
    obtain ⟨hset, _, _⟩ := stretchB_true hok
    have hwd := (settingB_true hset).2.1
    have hs := sum_bd l f3
    refine ev_pos hok (ev_pos (by rw [w64 (by omega) (by omega)]; omega) (Ev.bind (xSum_ev _ (by omega) (fun x hx => by have := m2 x hx; omega)) (Ev.bind (xSum_ev l (by omega) (fun x hx => by have := f3 x hx; omega)) ?_)))
    have e2 : (wrap64 ((stretchL l w).sum + l.sum) != w) = false := by
      rw [m1, w64 (by omega) (by omega)]; simp
    rw [e2]
    refine Ev.step (fun k => laws_FnLinesStretched.j1.eq_2 ..) (ev_neg (by simp) ?_)
    exact FL_l0 d (hb d hdb) (stretchL l w) (by omega) q r ⟨hq1, hq2⟩ hg (stretchL l w) 0 (by omega) rfl
  · exact ev_neg hok h3

end Go.Proofs.YtpedlkhfeoeogaaDoor.Pure
