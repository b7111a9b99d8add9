/- The law FnExactAreWords holds for every list of numbers: program and reference tell the same lists as words. No condition. -/
import Derived.Test.YtaodhgpkdchknaaPFnExactAreWordsx1
namespace Go.Proofs.Ytaodhgpkdchknaa.Pure
open Go.RowKit Go.Proofs.Ytaodhgpkdchknaa.PFnExactAreWords Go.Proofs.YtaodhgpkdchknaaW.PrintWords Go.Proofs.YtaodhgpkdchknaaW.PrintLast

theorem w64 {x : Int} (h1 : -9223372036854775808 ≤ x) (h2 : x ≤ 9223372036854775807) : wrap64 x = x := by
  unfold wrap64; omega
theorem ev_pos {α : Type} {c : Prop} [Decidable c] {f g : Nat → Option α} {r : α} (hc : c) (h : Ev f r) : Ev (fun k => if c then f k else g k) r := by
  simpa only [if_pos hc] using h
theorem ev_neg {α : Type} {c : Prop} [Decidable c] {f g : Nat → Option α} {r : α} (hc : ¬ c) (h : Ev g r) : Ev (fun k => if c then f k else g k) r := by
  simpa only [if_neg hc] using h
theorem ev_now {α : Type} {r s : α} (h : r = s) : Ev (fun _ => some r) s := h ▸ Ev.now r
theorem ev_some {α β : Type} {x : Option α} {f : Nat → α → Option β} {a : α} {r : β} (h : x = some a) (k : Ev (fun n => f n a) r) : Ev (fun n => x.bind (f n)) r := by
  subst h; exact k
theorem ev_val {α : Type} {g : Nat → Option α} {a b : α} (h : Ev g a) (e : a = b) : Ev g b := e ▸ h
theorem ev_suc {α : Type} {g : Nat → Option α} {r : α} (h : Ev (fun k => g (k + 1)) r) : Ev g r := Ev.step (fun _ => rfl) h
theorem drop_nil {α : Type} {xs : List α} {i : Int} (h0 : 0 ≤ i) (h : xs.drop i.toNat = []) : (xs.length : Int) ≤ i := by
  have := List.drop_eq_nil_iff.1 h
  omega
theorem drop_get {α : Type} {xs : List α} {i : Int} {y : α} {ys : List α} (h0 : 0 ≤ i) (h : xs.drop i.toNat = y :: ys) : i < (xs.length : Int) ∧ (∀ d, xs.getD i.toNat d = y) ∧ xs.drop (i + 1).toNat = ys ∧ xs.take (i + 1).toNat = xs.take i.toNat ++ [y] := by
  have hl : i.toNat < xs.length := by
    rcases Nat.lt_or_ge i.toNat xs.length with hl | hl
    · exact hl
    · rw [List.drop_eq_nil_iff.2 hl] at h; cases h
  have e := List.drop_eq_getElem_cons hl
  rw [h] at e
  injection e with e1 e2
  have h1 : (i + 1).toNat = i.toNat + 1 := by omega
  refine ⟨by omega, fun d => ?_, ?_, ?_⟩
  · rw [List.getD_eq_getElem?_getD, List.getElem?_eq_getElem hl, e1]; rfl
  · rw [h1]; exact e2.symm
  · rw [h1, List.take_add_one, List.getElem?_eq_getElem hl, e1]; rfl
theorem drop_cons {xs : List Int} {i : Int} {y : Int} {ys : List Int} (h0 : 0 ≤ i) (h : xs.drop i.toNat = y :: ys) : i < (xs.length : Int) ∧ rd xs i = y ∧ xs.drop (i + 1).toNat = ys ∧ xs.take (i + 1).toNat = xs.take i.toNat ++ [y] := by
  obtain ⟨h1, h2, h3⟩ := drop_get h0 h
  exact ⟨h1, h2 0, h3⟩

theorem l1In_eq (a lo hi : Int) : spec_l1In.f a lo hi = some (decide (lo ≤ a ∧ a ≤ hi)) := by
  unfold spec_l1In.f
  by_cases h : a ≥ lo
  · rw [if_pos h]; congr 1; simp [show lo ≤ a from h]
  · rw [if_neg h]; congr 1; simp; omega

theorem l1All_l (lo hi : Int) (xs : List Int) (hn : xs.length < 4611686018427387904) : ∀ (ys : List Int) (i : Int), 0 ≤ i → xs.drop i.toNat = ys →
    Ev (fun k => spec_l1All.l0 k lo hi xs (xs.length : Int) i) (decide (∀ n ∈ ys, lo ≤ n ∧ n ≤ hi)) := by
  intro ys
  induction ys with
  | nil =>
    intro i h0 h
    have := drop_nil h0 h
    refine Ev.step (fun k => spec_l1All.l0.eq_2 ..) ?_
    exact ev_neg (by omega) (ev_now (by simp))
  | cons y ys ih =>
    intro i h0 h
    obtain ⟨h1, h2, h3, _⟩ := drop_cons h0 h
    refine Ev.step (fun k => spec_l1All.l0.eq_2 ..) ?_
    refine ev_pos h1 (ev_pos h0 (ev_pos h1 ?_))
    rw [h2, w64 (by omega) (by omega)]
    refine ev_some (l1In_eq ..) ?_
    by_cases hy : lo ≤ y ∧ y ≤ hi
    · exact ev_pos (by simpa using hy) (ev_val (ih _ (by omega) h3) (by simp [hy]))
    · exact ev_neg (by simpa using hy) (ev_now (by simp [hy]))
theorem l1All_ev (xs : List Int) (lo hi : Int) (hn : xs.length < 4611686018427387904) :
    Ev (fun k => spec_l1All.f k xs lo hi) (decide (∀ n ∈ xs, lo ≤ n ∧ n ≤ hi)) := l1All_l lo hi xs hn xs 0 (by omega) rfl

theorem within_eq (a lo hi : Int) : impl_within.f a lo hi = some (decide (lo ≤ a ∧ a ≤ hi)) := by
  unfold impl_within.f
  by_cases h : a ≥ lo
  · rw [if_pos h]; congr 1; simp [show lo ≤ a from h]
  · rw [if_neg h]; congr 1; simp; omega

theorem allWithin_l (lo hi : Int) (xs : List Int) (hn : xs.length < 4611686018427387904) : ∀ (ys : List Int) (i : Int), 0 ≤ i → xs.drop i.toNat = ys →
    Ev (fun k => impl_allWithin.l0 k lo hi xs (xs.length : Int) i) (decide (∀ n ∈ ys, lo ≤ n ∧ n ≤ hi)) := by
  intro ys
  induction ys with
  | nil =>
    intro i h0 h
    have := drop_nil h0 h
    refine Ev.step (fun k => impl_allWithin.l0.eq_2 ..) ?_
    exact ev_neg (by omega) (ev_now (by simp))
  | cons y ys ih =>
    intro i h0 h
    obtain ⟨h1, h2, h3, _⟩ := drop_cons h0 h
    refine Ev.step (fun k => impl_allWithin.l0.eq_2 ..) ?_
    refine ev_pos h1 (ev_pos h0 (ev_pos h1 ?_))
    rw [h2, w64 (by omega) (by omega)]
    refine ev_some (within_eq ..) ?_
    by_cases hy : lo ≤ y ∧ y ≤ hi
    · exact ev_pos (by simpa using hy) (ev_val (ih _ (by omega) h3) (by simp [hy]))
    · exact ev_neg (by simpa using hy) (ev_now (by simp [hy]))
theorem allWithin_ev (xs : List Int) (lo hi : Int) (hn : xs.length < 4611686018427387904) :
    Ev (fun k => impl_allWithin.f k xs lo hi) (decide (∀ n ∈ xs, lo ≤ n ∧ n ≤ hi)) := allWithin_l lo hi xs hn xs 0 (by omega) rfl

theorem toIntS_l (xs : List Int) (hn : xs.length < 4611686018427387904) : ∀ (ys : List Int) (i : Int) (zs : List Int), 0 ≤ i → xs.drop i.toNat = ys → zs.length = ys.length →
    Ev (fun k => laws_toIntS.l0 k xs (xs.take i.toNat ++ zs) i) xs := by
  intro ys
  induction ys with
  | nil =>
    intro i zs h0 h hz
    have := drop_nil h0 h
    refine Ev.step (fun k => laws_toIntS.l0.eq_2 ..) ?_
    have hz : zs = [] := List.eq_nil_of_length_eq_zero hz
    refine ev_neg (by omega) (ev_now ?_)
    rw [hz, List.append_nil, List.take_of_length_le (by omega)]
  | cons y ys ih =>
    intro i zs h0 h hz
    obtain ⟨h1, h2, h3, h4⟩ := drop_cons h0 h
    obtain ⟨z, zs, rfl⟩ : ∃ z zs', zs = z :: zs' := List.exists_cons_of_length_eq_add_one hz
    have hl : (xs.take i.toNat).length = i.toNat := by rw [List.length_take]; omega
    refine Ev.step (fun k => laws_toIntS.l0.eq_2 ..) ?_
    refine ev_pos h1 (ev_pos h0 (ev_pos (by rw [List.length_append, hl, List.length_cons]; omega) ?_))
    rw [h2, w64 (by omega) (by omega)]
    have e : (xs.take i.toNat ++ z :: zs).set i.toNat y = xs.take (i + 1).toNat ++ zs := by
      rw [h4, List.set_append_right _ _ (by omega), hl, Nat.sub_self, List.set_cons_zero, List.append_assoc]; rfl
    rw [e]
    exact ih (i + 1) zs (by omega) h3 (by simpa using hz)
theorem toIntS_ev (xs : List Int) (hn : xs.length ≤ 1048576) : Ev (fun k => laws_toIntS.f k xs) xs := by
  unfold laws_toIntS.f
  refine ev_pos (by omega) (ev_pos (by omega) ?_)
  exact toIntS_l xs (by omega) xs 0 _ (by omega) rfl (by simp)

theorem eqIntS_l (xs : List Int) (hn : xs.length < 4611686018427387904) : ∀ (ys : List Int) (i : Int), 0 ≤ i → xs.drop i.toNat = ys →
    Ev (fun k => laws_eqIntS.l0 k xs xs i) true := by
  intro ys
  induction ys with
  | nil =>
    intro i h0 h
    have := drop_nil h0 h
    refine Ev.step (fun k => laws_eqIntS.l0.eq_2 ..) ?_
    exact ev_neg (by omega) (ev_now rfl)
  | cons y ys ih =>
    intro i h0 h
    obtain ⟨h1, h2, h3, _⟩ := drop_cons h0 h
    refine Ev.step (fun k => laws_eqIntS.l0.eq_2 ..) ?_
    refine ev_pos h1 (ev_pos h0 (ev_pos h1 (ev_pos rfl ?_)))
    rw [w64 (by omega) (by omega)]
    exact ih _ (by omega) h3
theorem eqIntS_ev (xs : List Int) (hn : xs.length < 4611686018427387904) : Ev (fun k => laws_eqIntS.f k xs xs) true := by
  unfold laws_eqIntS.f
  exact ev_pos rfl (eqIntS_l xs hn xs 0 (by omega) rfl)

def wordsB (xs : List Int) : Bool := decide (1 ≤ (xs.length : Int) ∧ (xs.length : Int) ≤ 30) && decide (∀ n ∈ xs, 1 ≤ n ∧ n ≤ 80)
theorem lnGood_ev (xs : List Int) (hn : xs.length < 4611686018427387904) : Ev (fun k => spec_lnGood.f k xs) (wordsB xs) := by
  unfold spec_lnGood.f wordsB
  refine ev_some (l1In_eq ..) ?_
  by_cases h : 1 ≤ (xs.length : Int) ∧ (xs.length : Int) ≤ 30
  · refine ev_pos (by simpa using h) (Ev.bind (l1All_ev xs 1 80 hn) (ev_now (by simp [h])))
  · exact ev_neg (by simpa using h) (ev_now (by simp [h]))
theorem AreWords_ev (xs : List Int) (hn : xs.length < 4611686018427387904) : Ev (fun k => impl_AreWords.f k xs) (wordsB xs) := by
  unfold impl_AreWords.f wordsB
  refine ev_some (within_eq ..) ?_
  by_cases h : 1 ≤ (xs.length : Int) ∧ (xs.length : Int) ≤ 30
  · refine ev_pos (by simpa using h) (Ev.bind (allWithin_ev xs 1 80 hn) (ev_now (by simp [h])))
  · exact ev_neg (by simpa using h) (ev_now (by simp [h]))
theorem FnExactAreWords (l : List Int) : ∃ k, laws_FnExactAreWords.f k l = some true := by
  refine Ev.rounds ?_
  unfold laws_FnExactAreWords.f spec_AreWords.f
  by_cases h : (l.length : Int) > 1048576
  · exact ev_pos h (ev_now rfl)
  · refine ev_neg h (Ev.bind (toIntS_ev l (by omega)) ?_)
    refine Ev.bind (Ev.bind (lnGood_ev l (by omega)) (ev_now rfl)) ?_
    refine Ev.bind (toIntS_ev l (by omega)) (Ev.bind (AreWords_ev l (by omega)) ?_)
    refine ev_neg (by simp) (Ev.bind (toIntS_ev l (by omega)) (Ev.bind (eqIntS_ev l (by omega)) (ev_pos rfl (ev_now rfl))))

end Go.Proofs.Ytaodhgpkdchknaa.Pure
