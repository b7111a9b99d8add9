/- The law FnExactFirstFewestBlanks holds for every list of numbers: program and reference tell the same order. No condition. -/
import Derived.Test.YtngaimhnajeidaaPFnExactFirstFewestBlanksx3
namespace Go.Proofs.Ytngaimhnajeidaa.Pure
open Go.RowKit Go.Proofs.Ytngaimhnajeidaa.PFnExactFirstFewestBlanks Go.Proofs.YtngaimhnajeidaaW.PrintWords Go.Proofs.YtngaimhnajeidaaW.PrintLast

theorem w64 {x : Int} (h1 : -9223372036854775808 ≤ x) (h2 : x ≤ 9223372036854775807) : wrap64 x = x := by
  unfold wrap64; omega
theorem ev_pos {α : Type} {c : Prop} [Decidable c] {f g : Nat → Option α} {r : α} (hc : c) (h : Ev f r) : Ev (fun k => if c then f k else g k) r := by
  simpa only [if_pos hc] using h
theorem ev_neg {α : Type} {c : Prop} [Decidable c] {f g : Nat → Option α} {r : α} (hc : ¬ c) (h : Ev g r) : Ev (fun k => if c then f k else g k) r := by
  simpa only [if_neg hc] using h
theorem ev_now {α : Type} {r s : α} (h : r = s) : Ev (fun _ => some r) s := h ▸ Ev.now r
theorem ev_some {α β : Type} {x : Option α} {f : Nat → α → Option β} {a : α} {r : β} (h : x = some a) (k : Ev (fun n => f n a) r) : Ev (fun n => x.bind (f n)) r := by
  subst h; exact k
theorem ev_val {α : Type} {g : Nat → Option α} {a b : α} (h : Ev g a) (e : a = b) : Ev g b := e ▸ h
theorem ev_suc {α : Type} {g : Nat → Option α} {r : α} (h : Ev (fun k => g (k + 1)) r) : Ev g r := Ev.step (fun _ => rfl) h
theorem drop_nil {α : Type} {xs : List α} {i : Int} (h0 : 0 ≤ i) (h : xs.drop i.toNat = []) : (xs.length : Int) ≤ i := by
  have := List.drop_eq_nil_iff.1 h
  omega
theorem drop_get {α : Type} {xs : List α} {i : Int} {y : α} {ys : List α} (h0 : 0 ≤ i) (h : xs.drop i.toNat = y :: ys) : i < (xs.length : Int) ∧ (∀ d, xs.getD i.toNat d = y) ∧ xs.drop (i + 1).toNat = ys ∧ xs.take (i + 1).toNat = xs.take i.toNat ++ [y] := by
  have hl : i.toNat < xs.length := by
    rcases Nat.lt_or_ge i.toNat xs.length with hl | hl
    · exact hl
    · rw [List.drop_eq_nil_iff.2 hl] at h; cases h
  have e := List.drop_eq_getElem_cons hl
  rw [h] at e
  injection e with e1 e2
  have h1 : (i + 1).toNat = i.toNat + 1 := by omega
  refine ⟨by omega, fun d => ?_, ?_, ?_⟩
  · rw [List.getD_eq_getElem?_getD, List.getElem?_eq_getElem hl, e1]; rfl
  · rw [h1]; exact e2.symm
  · rw [h1, List.take_add_one, List.getElem?_eq_getElem hl, e1]; rfl
theorem drop_cons {xs : List Int} {i : Int} {y : Int} {ys : List Int} (h0 : 0 ≤ i) (h : xs.drop i.toNat = y :: ys) : i < (xs.length : Int) ∧ rd xs i = y ∧ xs.drop (i + 1).toNat = ys ∧ xs.take (i + 1).toNat = xs.take i.toNat ++ [y] := by
  obtain ⟨h1, h2, h3⟩ := drop_get h0 h
  exact ⟨h1, h2 0, h3⟩

theorem within_eq (a lo hi : Int) : impl_within.f a lo hi = some (decide (lo ≤ a ∧ a ≤ hi)) := by
  unfold impl_within.f
  by_cases h : a ≥ lo
  · rw [if_pos h]; congr 1; simp [show lo ≤ a from h]
  · rw [if_neg h]; congr 1; simp; omega

theorem allWithin_l (lo hi : Int) (xs : List Int) (hn : xs.length < 4611686018427387904) : ∀ (ys : List Int) (i : Int), 0 ≤ i → xs.drop i.toNat = ys →
    Ev (fun k => impl_allWithin.l0 k lo hi xs (xs.length : Int) i) (decide (∀ n ∈ ys, lo ≤ n ∧ n ≤ hi)) := by
  intro ys
  induction ys with
  | nil =>
    intro i h0 h
    have := drop_nil h0 h
    refine Ev.step (fun k => impl_allWithin.l0.eq_2 ..) ?_
    exact ev_neg (by omega) (ev_now (by simp))
  | cons y ys ih =>
    intro i h0 h
    obtain ⟨h1, h2, h3, _⟩ := drop_cons h0 h
    refine Ev.step (fun k => impl_allWithin.l0.eq_2 ..) ?_
    refine ev_pos h1 (ev_pos h0 (ev_pos h1 ?_))
    rw [h2, w64 (by omega) (by omega)]
    refine ev_some (within_eq ..) ?_
    by_cases hy : lo ≤ y ∧ y ≤ hi
    · exact ev_pos (by simpa using hy) (ev_val (ih _ (by omega) h3) (by simp [hy]))
    · exact ev_neg (by simpa using hy) (ev_now (by simp [hy]))
theorem allWithin_ev (xs : List Int) (lo hi : Int) (hn : xs.length < 4611686018427387904) :
    Ev (fun k => impl_allWithin.f k xs lo hi) (decide (∀ n ∈ xs, lo ≤ n ∧ n ≤ hi)) := allWithin_l lo hi xs hn xs 0 (by omega) rfl

theorem l1In_eq (a lo hi : Int) : spec_l1In.f a lo hi = some (decide (lo ≤ a ∧ a ≤ hi)) := by
  unfold spec_l1In.f
  by_cases h : a ≥ lo
  · rw [if_pos h]; congr 1; simp [show lo ≤ a from h]
  · rw [if_neg h]; congr 1; simp; omega

theorem l1All_l (lo hi : Int) (xs : List Int) (hn : xs.length < 4611686018427387904) : ∀ (ys : List Int) (i : Int), 0 ≤ i → xs.drop i.toNat = ys →
    Ev (fun k => spec_l1All.l0 k lo hi xs (xs.length : Int) i) (decide (∀ n ∈ ys, lo ≤ n ∧ n ≤ hi)) := by
  intro ys
  induction ys with
  | nil =>
    intro i h0 h
    have := drop_nil h0 h
    refine Ev.step (fun k => spec_l1All.l0.eq_2 ..) ?_
    exact ev_neg (by omega) (ev_now (by simp))
  | cons y ys ih =>
    intro i h0 h
    obtain ⟨h1, h2, h3, _⟩ := drop_cons h0 h
    refine Ev.step (fun k => spec_l1All.l0.eq_2 ..) ?_
    refine ev_pos h1 (ev_pos h0 (ev_pos h1 ?_))
    rw [h2, w64 (by omega) (by omega)]
    refine ev_some (l1In_eq ..) ?_
    by_cases hy : lo ≤ y ∧ y ≤ hi
    · exact ev_pos (by simpa using hy) (ev_val (ih _ (by omega) h3) (by simp [hy]))
    · exact ev_neg (by simpa using hy) (ev_now (by simp [hy]))
theorem l1All_ev (xs : List Int) (lo hi : Int) (hn : xs.length < 4611686018427387904) :
    Ev (fun k => spec_l1All.f k xs lo hi) (decide (∀ n ∈ xs, lo ≤ n ∧ n ≤ hi)) := l1All_l lo hi xs hn xs 0 (by omega) rfl

def goodC (xs : List Int) : Bool := decide (1 ≤ xs.length ∧ xs.length ≤ 12) && decide (∀ n ∈ xs, 1 ≤ n ∧ n ≤ 120)
theorem goodC_true {xs : List Int} (h : goodC xs = true) : 1 ≤ xs.length ∧ xs.length ≤ 12 ∧ ∀ n ∈ xs, 1 ≤ n ∧ n ≤ 120 := by
  simp only [goodC, Bool.and_eq_true, decide_eq_true_eq] at h
  exact ⟨h.1.1, h.1.2, h.2⟩
theorem caGood_ev (xs : List Int) (hn : xs.length ≤ 1048576) : Ev (fun k => spec_caGood.f k xs) (goodC xs) := by
  unfold spec_caGood.f goodC
  refine ev_some (l1In_eq ..) ?_
  by_cases h : 1 ≤ (xs.length : Int) ∧ (xs.length : Int) ≤ 12
  · have e : (1 ≤ xs.length ∧ xs.length ≤ 12) := by omega
    refine ev_pos (decide_eq_true h) (Ev.bind (l1All_ev xs 1 120 (by omega)) (ev_now ?_))
    rw [decide_eq_true e, Bool.true_and]
  · have e : ¬ (1 ≤ xs.length ∧ xs.length ≤ 12) := by omega
    refine ev_neg (by rw [decide_eq_false h]; simp) (ev_now ?_)
    rw [decide_eq_false e, Bool.false_and]
theorem areCh_ev (xs : List Int) (hn : xs.length ≤ 1048576) : Ev (fun k => impl_AreChapters.f k xs) (goodC xs) := by
  unfold impl_AreChapters.f goodC
  refine ev_some (within_eq ..) ?_
  by_cases h : 1 ≤ (xs.length : Int) ∧ (xs.length : Int) ≤ 12
  · have e : (1 ≤ xs.length ∧ xs.length ≤ 12) := by omega
    refine ev_pos (decide_eq_true h) (Ev.bind (allWithin_ev xs 1 120 (by omega)) (ev_now ?_))
    rw [decide_eq_true e, Bool.true_and]
  · have e : ¬ (1 ≤ xs.length ∧ xs.length ≤ 12) := by omega
    refine ev_neg (by rw [decide_eq_false h]; simp) (ev_now ?_)
    rw [decide_eq_false e, Bool.false_and]

theorem toIntS_l (xs : List Int) (hn : xs.length < 4611686018427387904) : ∀ (ys : List Int) (i : Int) (zs : List Int), 0 ≤ i → xs.drop i.toNat = ys → zs.length = ys.length →
    Ev (fun k => laws_toIntS.l0 k xs (xs.take i.toNat ++ zs) i) xs := by
  intro ys
  induction ys with
  | nil =>
    intro i zs h0 h hz
    have := drop_nil h0 h
    refine Ev.step (fun k => laws_toIntS.l0.eq_2 ..) ?_
    have hz : zs = [] := List.eq_nil_of_length_eq_zero hz
    refine ev_neg (by omega) (ev_now ?_)
    rw [hz, List.append_nil, List.take_of_length_le (by omega)]
  | cons y ys ih =>
    intro i zs h0 h hz
    obtain ⟨h1, h2, h3, h4⟩ := drop_cons h0 h
    obtain ⟨z, zs, rfl⟩ : ∃ z zs', zs = z :: zs' := List.exists_cons_of_length_eq_add_one hz
    have hl : (xs.take i.toNat).length = i.toNat := by rw [List.length_take]; omega
    refine Ev.step (fun k => laws_toIntS.l0.eq_2 ..) ?_
    refine ev_pos h1 (ev_pos h0 (ev_pos (by rw [List.length_append, hl, List.length_cons]; omega) ?_))
    rw [h2, w64 (by omega) (by omega)]
    have e : (xs.take i.toNat ++ z :: zs).set i.toNat y = xs.take (i + 1).toNat ++ zs := by
      rw [h4, List.set_append_right _ _ (by omega), hl, Nat.sub_self, List.set_cons_zero, List.append_assoc]; rfl
    rw [e]
    exact ih (i + 1) zs (by omega) h3 (by simpa using hz)
theorem toIntS_ev (xs : List Int) (hn : xs.length ≤ 1048576) : Ev (fun k => laws_toIntS.f k xs) xs := by
  unfold laws_toIntS.f
  refine ev_pos (by omega) (ev_pos (by omega) ?_)
  exact toIntS_l xs (by omega) xs 0 _ (by omega) rfl (by simp)

theorem eqIntS_l (xs : List Int) (hn : xs.length < 4611686018427387904) : ∀ (ys : List Int) (i : Int), 0 ≤ i → xs.drop i.toNat = ys →
    Ev (fun k => laws_eqIntS.l0 k xs xs i) true := by
  intro ys
  induction ys with
  | nil =>
    intro i h0 h
    have := drop_nil h0 h
    refine Ev.step (fun k => laws_eqIntS.l0.eq_2 ..) ?_
    exact ev_neg (by omega) (ev_now rfl)
  | cons y ys ih =>
    intro i h0 h
    obtain ⟨h1, h2, h3, _⟩ := drop_cons h0 h
    refine Ev.step (fun k => laws_eqIntS.l0.eq_2 ..) ?_
    refine ev_pos h1 (ev_pos h0 (ev_pos h1 (ev_pos rfl ?_)))
    rw [w64 (by omega) (by omega)]
    exact ih _ (by omega) h3
theorem eqIntS_ev (xs : List Int) (hn : xs.length < 4611686018427387904) : Ev (fun k => laws_eqIntS.f k xs xs) true := by
  unfold laws_eqIntS.f
  exact ev_pos rfl (eqIntS_l xs hn xs 0 (by omega) rfl)

/-- What a list reads as behind the marking. -/
def marks (n : Nat) : List Int := (List.range n).map (fun i : Nat => (1 : Int) + i)
theorem marks_length (n : Nat) : (marks n).length = n := by simp [marks]
theorem marks_succ (n : Nat) : marks (n + 1) = marks n ++ [(1 : Int) + n] := by simp [marks, List.range_succ]
/-- A list whose first x elements are marked. -/
def marked (l : List Int) (x : Nat) : List Int := marks x ++ l.drop x
theorem marked_zero (l : List Int) : marked l 0 = l := by simp [marked, marks]
theorem marked_length (l : List Int) (x : Nat) (h : x ≤ l.length) : (marked l x).length = l.length := by simp [marked, marks_length]; omega
theorem marked_all (l : List Int) (x : Nat) (h : l.length ≤ x) (h2 : x ≤ l.length) : marked l x = marks l.length := by
  have e : x = l.length := by omega
  subst e
  simp [marked]
theorem marked_set (l : List Int) (x : Nat) (h : x < l.length) : (marked l x).set x (1 + (x : Int)) = marked l (x + 1) := by
  unfold marked
  rw [List.set_append_right _ _ (by rw [marks_length]; exact Nat.le_refl _), marks_length, Nat.sub_self, List.drop_eq_getElem_cons h, List.set_cons_zero, marks_succ, List.append_assoc]
  rfl

theorem markIntS_l (n : Nat) (hn : n < 1073741824) : ∀ (ys : List Int) (i : Nat), i + ys.length = n →
    Ev (fun k => laws_markIntS.l0 k (marks i ++ ys) (1 + (i : Int)) (i : Int)) ((1 : Int) + n, marks n) := by
  intro ys
  induction ys with
  | nil =>
    intro i h
    refine Ev.step (fun k => laws_markIntS.l0.eq_2 ..) ?_
    simp at h
    subst h
    exact ev_neg (by simp [marks_length]) (ev_now (by simp))
  | cons y ys ih =>
    intro i h
    simp at h
    refine Ev.step (fun k => laws_markIntS.l0.eq_2 ..) ?_
    refine ev_pos (by simp [marks_length]; omega) (ev_pos (by omega) ?_)
    rw [w64 (by omega) (by omega), w64 (by omega) (by omega)]
    have e : (marks i ++ y :: ys).set (i : Int).toNat (1 + (i : Int)) = marks (i + 1) ++ ys := by
      rw [marks_succ, Int.toNat_natCast, List.set_append_right _ _ (by rw [marks_length]; exact Nat.le_refl _), marks_length, Nat.sub_self, List.set_cons_zero, List.append_assoc]; rfl
    rw [e]
    have h2 := ih (i + 1) (by omega)
    have e2 : (1 : Int) + ((i + 1 : Nat) : Int) = 1 + (i : Int) + 1 := by omega
    have e3 : ((i + 1 : Nat) : Int) = (i : Int) + 1 := by omega
    rw [e2, e3] at h2
    exact h2
theorem markIntS_ev (xs : List Int) (hn : xs.length < 1073741824) : Ev (fun k => laws_markIntS.f k xs 1) ((1 : Int) + xs.length, marks xs.length) := markIntS_l xs.length hn xs 0 (by omega)

theorem heldIntS_l (n : Nat) (hn : n < 1073741824) : ∀ (m i : Nat), i + m = n →
    Ev (fun k => laws_heldIntS.l0 k (marks n) (1 + (i : Int)) (i : Int)) ((1 : Int) + n) := by
  intro m
  induction m with
  | zero =>
    intro i h
    refine Ev.step (fun k => laws_heldIntS.l0.eq_2 ..) ?_
    exact ev_neg (by rw [marks_length]; omega) (ev_now (by omega))
  | succ m ih =>
    intro i h
    refine Ev.step (fun k => laws_heldIntS.l0.eq_2 ..) ?_
    have hr : rd (marks n) (i : Int) = 1 + (i : Int) := by
      simp [rd, marks, List.getD_eq_getElem?_getD, List.getElem?_range (show i < n by omega)]
    refine ev_pos (by rw [marks_length]; omega) (ev_pos (by omega) (ev_pos hr ?_))
    rw [w64 (by omega) (by omega), w64 (by omega) (by omega)]
    have h2 := ih (i + 1) (by omega)
    have e2 : (1 : Int) + ((i + 1 : Nat) : Int) = 1 + (i : Int) + 1 := by omega
    have e3 : ((i + 1 : Nat) : Int) = (i : Int) + 1 := by omega
    rw [e2, e3] at h2
    exact h2
theorem heldIntS_ev (n : Nat) (hn : n < 1073741824) : Ev (fun k => laws_heldIntS.f k (marks n) 1) ((1 : Int) + n) := heldIntS_l n hn n 0 (by omega)

theorem markAny_l (n : Nat) (hn : n < 1073741824) : ∀ (m : Nat) (xs : List Int) (a i : Int), xs.length = n → 0 ≤ i → i + m = n → 0 ≤ a → a + m ≤ 1152921504606846976 →
    ∃ ys, Ev (fun k => laws_markIntS.l0 k xs a i) (a + m, ys) := by
  intro m
  induction m with
  | zero =>
    intro xs a i hl h0 h ha hb
    exact ⟨xs, Ev.step (fun k => laws_markIntS.l0.eq_2 ..) (ev_neg (by omega) (ev_now (by simp)))⟩
  | succ m ih =>
    intro xs a i hl h0 h ha hb
    have e1 := w64 (x := a + 1) (by omega) (by omega)
    have e2 := w64 (x := i + 1) (by omega) (by omega)
    obtain ⟨ys, hy⟩ := ih (xs.set i.toNat a) (a + 1) (i + 1) (by simpa using hl) (by omega) (by omega) (by omega) (by omega)
    refine ⟨ys, Ev.step (fun k => laws_markIntS.l0.eq_2 ..) (ev_pos (by omega) (ev_pos h0 ?_))⟩
    rw [e1, e2]
    exact ev_val hy (by congr 1; omega)
theorem markAny_ev (xs : List Int) (a : Int) (hn : xs.length < 1073741824) (ha : 0 ≤ a) (hb : a ≤ 1073741824) : ∃ ys, Ev (fun k => laws_markIntS.f k xs a) (a + xs.length, ys) :=
  markAny_l xs.length hn xs.length xs a 0 rfl (by omega) (by omega) ha (by omega)

def runL : Nat → Int → List Int
  | 0, _ => []
  | d + 1, p => p :: runL d (p + 1)
theorem runL_length : ∀ (d : Nat) (p : Int), (runL d p).length = d
  | 0, _ => rfl
  | d + 1, p => by rw [runL, List.length_cons, runL_length d]
theorem runL_add : ∀ (a b : Nat) (p : Int), runL (a + b) p = runL a p ++ runL b (p + a)
  | 0, b, p => by simp [runL]
  | a + 1, b, p => by
    rw [show a + 1 + b = (a + b) + 1 from by omega, runL, runL, runL_add a b (p + 1), show p + 1 + (a : Int) = p + ((a + 1 : Nat) : Int) from by omega]; rfl
theorem runL_snoc (a : Nat) (p : Int) : runL (a + 1) p = runL a p ++ [p + a] := by rw [runL_add a 1 p]; rfl
def skipL (l : Int) : Nat → Int → List Int
  | 0, _ => []
  | d + 1, p => if p = l then skipL l d (p + 1) else p :: skipL l d (p + 1)
theorem skipL_past (l : Int) : ∀ (d : Nat) (p : Int), l < p → skipL l d p = runL d p
  | 0, _, _ => rfl
  | d + 1, p, h => by rw [skipL, if_neg (by omega), skipL_past l d (p + 1) (by omega), runL]
theorem skipL_eq (l : Int) : ∀ (a : Nat) (b : Nat) (p : Int), p + a = l → skipL l (a + 1 + b) p = runL a p ++ runL b (l + 1)
  | 0, b, p, h => by
    rw [show 0 + 1 + b = b + 1 from by omega, skipL, if_pos (by omega), skipL_past l b (p + 1) (by omega), runL, List.nil_append, show p + 1 = l + 1 from by omega]
  | a + 1, b, p, h => by
    rw [show a + 1 + 1 + b = (a + 1 + b) + 1 from by omega, skipL, if_neg (by omega), skipL_eq l a b (p + 1) (by omega), runL]; rfl
def oddsL : List Int → Int → List Int
  | [], _ => []
  | y :: ys, i => if Int.tmod y 2 = 1 then i :: oddsL ys (i + 1) else oddsL ys (i + 1)
theorem oddsL_nil : ∀ (ys : List Int) (i : Int), oddsL ys i = [] → ∀ j, j < ys.length → Int.tmod (ys.getD j 0) 2 ≠ 1
  | [], _, _, j, h => by simp at h
  | y :: ys, i, h, j, hj => by
    rw [oddsL] at h
    split at h
    · cases h
    · rename_i c
      cases j with
      | zero => exact c
      | succ j => exact oddsL_nil ys (i + 1) h j (by simpa using hj)
theorem oddsL_last : ∀ (ys : List Int) (i : Int), oddsL ys i ≠ [] → ∃ k : Nat, (oddsL ys i).getLast? = some (i + k) ∧ k < ys.length ∧ Int.tmod (ys.getD k 0) 2 = 1 ∧ ∀ j, k < j → j < ys.length → Int.tmod (ys.getD j 0) 2 ≠ 1
  | [], _, h => absurd rfl h
  | y :: ys, i, h => by
    by_cases e : oddsL ys (i + 1) = []
    · have c : Int.tmod y 2 = 1 := by
        by_cases c : Int.tmod y 2 = 1
        · exact c
        · rw [oddsL, if_neg c] at h; exact absurd e h
      refine ⟨0, by rw [oddsL, if_pos c, e]; simp, by simp, c, fun j h1 h2 => ?_⟩
      obtain ⟨j, rfl⟩ : ∃ m, j = m + 1 := ⟨j - 1, by omega⟩
      exact oddsL_nil ys (i + 1) e j (by simpa using h2)
    · obtain ⟨k, h1, h2, h3, h4⟩ := oddsL_last ys (i + 1) e
      refine ⟨k + 1, ?_, by simpa using h2, h3, fun j g1 g2 => ?_⟩
      · rw [oddsL]
        split
        · rcases hh : oddsL ys (i + 1) with _ | ⟨z, zs⟩
          · exact absurd hh e
          · rw [hh] at h1
            rw [List.getLast?_cons_cons, h1]
            congr 1; omega
        · rw [h1]; congr 1; omega
      · obtain ⟨j, rfl⟩ : ∃ m, j = m + 1 := ⟨j - 1, by omega⟩
        exact h4 j (by omega) (by simpa using g2)
theorem oddsL_length : ∀ (ys : List Int) (i : Int), (oddsL ys i).length ≤ ys.length
  | [], _ => by simp [oddsL]
  | y :: ys, i => by
    have := oddsL_length ys (i + 1)
    rw [oddsL]
    split <;> simp only [List.length_cons] <;> omega
theorem tmod2 {y : Int} (h : 1 ≤ y) : Int.tmod y 2 = 0 ∨ Int.tmod y 2 = 1 := by
  rw [Int.tmod_eq_emod_of_nonneg (by omega)]; omega
theorem caOdd_l (xs : List Int) (hn : xs.length ≤ 1000) (hb : ∀ n ∈ xs, 1 ≤ n ∧ n ≤ 120) : ∀ (ys : List Int) (i s : Int), 0 ≤ i → xs.drop i.toNat = ys → 0 ≤ s → s + ys.length ≤ 100000 →
    Ev (fun k => spec_caOdd.l0 k s xs (xs.length : Int) i) (s + (oddsL ys i).length) := by
  intro ys
  induction ys with
  | nil =>
    intro i s h0 h _ _
    have := drop_nil h0 h
    refine Ev.step (fun k => spec_caOdd.l0.eq_2 ..) ?_
    exact ev_neg (by omega) (ev_now (by simp [oddsL]))
  | cons y ys ih =>
    intro i s h0 h hs hl
    obtain ⟨h1, h2, h3, _⟩ := drop_cons h0 h
    have hy := hb y (List.mem_of_mem_drop (by rw [h]; exact List.mem_cons_self))
    simp only [List.length_cons] at hl
    refine Ev.step (fun k => spec_caOdd.l0.eq_2 ..) ?_
    rw [h2, w64 (x := i + 1) (by omega) (by omega)]
    refine ev_pos h1 (ev_pos h0 (ev_pos h1 ?_))
    rcases tmod2 hy.1 with e | e
    · rw [e, w64 (by omega) (by omega), Int.add_zero]
      exact ev_val (ih (i + 1) s (by omega) h3 hs (by omega)) (by rw [oddsL, if_neg (by omega)])
    · rw [e, w64 (by omega) (by omega)]
      refine ev_val (ih (i + 1) (s + 1) (by omega) h3 (by omega) (by omega)) ?_
      rw [oddsL, if_pos e, List.length_cons]; omega
theorem caOdd_ev (xs : List Int) (hn : xs.length ≤ 1000) (hb : ∀ n ∈ xs, 1 ≤ n ∧ n ≤ 120) : Ev (fun k => spec_caOdd.f k xs) ((oddsL xs 0).length : Int) := by
  unfold spec_caOdd.f
  exact ev_val (caOdd_l xs hn hb xs 0 0 (by omega) rfl (by omega) (by omega)) (by omega)
theorem odds_l (xs : List Int) (hn : xs.length ≤ 1000) : ∀ (ys : List Int) (i : Int) (out : List Int), 0 ≤ i → xs.drop i.toNat = ys → out.length + ys.length ≤ 100000 →
    Ev (fun k => impl_odds.l0 k out xs (xs.length : Int) i) (out ++ oddsL ys i) := by
  intro ys
  induction ys with
  | nil =>
    intro i out h0 h _
    have := drop_nil h0 h
    refine Ev.step (fun k => impl_odds.l0.eq_2 ..) ?_
    exact ev_neg (by omega) (ev_now (by simp [oddsL]))
  | cons y ys ih =>
    intro i out h0 h hl
    obtain ⟨h1, h2, h3, _⟩ := drop_cons h0 h
    simp only [List.length_cons] at hl
    refine Ev.step (fun k => impl_odds.l0.eq_2 ..) ?_
    rw [h2, w64 (x := i + 1) (by omega) (by omega)]
    refine ev_pos h1 (ev_pos h0 (ev_pos h1 ?_))
    by_cases c : Int.tmod y 2 = 1
    · refine ev_pos c (ev_pos (by omega) (ev_val (ih (i + 1) _ (by omega) h3 (by simp only [List.length_append, List.length_cons, List.length_nil]; omega)) ?_))
      rw [oddsL, if_pos c]; simp
    · refine ev_neg c (ev_val (ih (i + 1) _ (by omega) h3 (by omega)) ?_)
      rw [oddsL, if_neg c]
theorem specJ1 (xs : List Int) (l : Int) (hn : xs.length ≤ 1000) : Ev (fun k => spec_FirstFewestBlanks.j1 k xs l) (skipL l xs.length 0 ++ [l], true) := by
  have key : ∀ (d : Nat) (i : Int) (out : List Int), 0 ≤ i → i + d = (xs.length : Int) → out.length + d ≤ 100000 → Ev (fun k => spec_FirstFewestBlanks.l1 k l out (xs.length : Int) i) (out ++ skipL l d i ++ [l], true) := by
    intro d
    induction d with
    | zero =>
      intro i out h0 h hl
      refine Ev.step (fun k => spec_FirstFewestBlanks.l1.eq_2 ..) ?_
      exact ev_neg (by omega) (ev_pos (by omega) (ev_now (by simp [skipL])))
    | succ d ih =>
      intro i out h0 h hl
      refine Ev.step (fun k => spec_FirstFewestBlanks.l1.eq_2 ..) ?_
      rw [w64 (x := i + 1) (by omega) (by omega)]
      refine ev_pos (by omega) ?_
      by_cases c : i = l
      · exact ev_pos c (ev_val (ih (i + 1) out (by omega) (by omega) (by omega)) (by rw [skipL, if_pos c]))
      · refine ev_neg c (ev_pos (by omega) (ev_val (ih (i + 1) _ (by omega) (by omega) (by simp only [List.length_append, List.length_cons, List.length_nil]; omega)) ?_))
        rw [skipL, if_neg c]; simp
  refine Ev.step (fun k => spec_FirstFewestBlanks.j1.eq_2 ..) ?_
  exact ev_val (key xs.length 0 [] (by omega) (by omega) (by simp only [List.length_nil]; omega)) (by simp)
/-- The chapter that is set last. -/
def lastC (xs : List Int) : Nat := if oddsL xs 0 = [] then xs.length - 1 else ((oddsL xs 0).getLastD 0).toNat
theorem lastC_odd (xs : List Int) (h : oddsL xs 0 ≠ []) : (oddsL xs 0).getLast? = some ((lastC xs : Nat) : Int) ∧ lastC xs < xs.length ∧ Int.tmod (xs.getD (lastC xs) 0) 2 = 1 ∧ ∀ j, lastC xs < j → j < xs.length → Int.tmod (xs.getD j 0) 2 ≠ 1 := by
  obtain ⟨k, h1, h2, h3, h4⟩ := oddsL_last xs 0 h
  have e : lastC xs = k := by
    unfold lastC
    rw [if_neg h, List.getLastD_eq_getLast?, h1]
    simp
  rw [e]
  exact ⟨by rw [h1]; congr 1; omega, h2, h3, h4⟩
def orderM (xs : List Int) : List Int × Bool := if goodC xs = true then (skipL (lastC xs : Int) xs.length 0 ++ [((lastC xs : Nat) : Int)], true) else ([], false)
theorem skipL_length (l : Int) : ∀ (d : Nat) (p : Int), (skipL l d p).length ≤ d
  | 0, _ => by simp [skipL]
  | d + 1, p => by
    have := skipL_length l d (p + 1)
    rw [skipL]
    split
    · omega
    · simp only [List.length_cons]; omega
theorem orderM_small (xs : List Int) : (orderM xs).1.length ≤ 1000 := by
  unfold orderM
  split
  · rename_i h
    have := (goodC_true h).2.1
    have := skipL_length (lastC xs : Int) xs.length 0
    simp only [List.length_append, List.length_cons, List.length_nil]; omega
  · simp
theorem specOrder_ev (xs : List Int) (hn : xs.length ≤ 1048576) : Ev (fun k => spec_FirstFewestBlanks.f k xs) (orderM xs) := by
  unfold spec_FirstFewestBlanks.f orderM
  refine Ev.bind (caGood_ev xs hn) ?_
  by_cases h : goodC xs = true
  · have hg := goodC_true h
    rw [if_pos h]
    refine ev_pos h ?_
    rw [w64 (x := (xs.length : Int) - 1) (by omega) (by omega)]
    have hodd := caOdd_ev xs (by omega) hg.2.2
    by_cases e : oddsL xs 0 = []
    · have hl : ((lastC xs : Nat) : Int) = (xs.length : Int) - 1 := by unfold lastC; rw [if_pos e]; omega
      rw [hl]
      refine Ev.step (fun k => spec_FirstFewestBlanks.l0.eq_2 ..) ?_
      by_cases c : (xs.length : Int) - 1 > 0
      · exact ev_pos c (Ev.bind hodd (ev_neg (by rw [e]; simp) (specJ1 xs _ (by omega))))
      · exact ev_neg c (specJ1 xs _ (by omega))
    · obtain ⟨_, o2, o3, o4⟩ := lastC_odd xs e
      have hpos : 0 < (oddsL xs 0).length := List.length_pos_iff.2 e
      have key : ∀ (d : Nat), lastC xs + d < xs.length → Ev (fun k => spec_FirstFewestBlanks.l0 k xs ((lastC xs + d : Nat) : Int)) (skipL (lastC xs : Int) xs.length 0 ++ [((lastC xs : Nat) : Int)], true) := by
        intro d
        induction d with
        | zero =>
          intro hd
          refine Ev.step (fun k => spec_FirstFewestBlanks.l0.eq_2 ..) ?_
          rw [Nat.add_zero]
          by_cases c : ((lastC xs : Nat) : Int) > 0
          · refine ev_pos c (Ev.bind hodd (ev_pos (by omega) (ev_pos (by omega) (ev_pos (by omega) (ev_neg ?_ (specJ1 xs _ (by omega)))))))
            have : rd xs ((lastC xs : Nat) : Int) = xs.getD (lastC xs) 0 := by unfold rd; rw [Int.toNat_natCast]
            rw [this, o3]; omega
          · exact ev_neg c (specJ1 xs _ (by omega))
        | succ d ih =>
          intro hd
          refine Ev.step (fun k => spec_FirstFewestBlanks.l0.eq_2 ..) ?_
          rw [w64 (x := ((lastC xs + (d + 1) : Nat) : Int) - 1) (by omega) (by omega), show ((lastC xs + (d + 1) : Nat) : Int) - 1 = ((lastC xs + d : Nat) : Int) from by omega]
          refine ev_pos (by omega) (Ev.bind hodd (ev_pos (by omega) (ev_pos (by omega) (ev_pos (by omega) (ev_pos ?_ (ih (by omega)))))))
          have e1 : rd xs ((lastC xs + (d + 1) : Nat) : Int) = xs.getD (lastC xs + (d + 1)) 0 := by unfold rd; rw [Int.toNat_natCast]
          have hne := o4 (lastC xs + (d + 1)) (by omega) hd
          have hmem : xs.getD (lastC xs + (d + 1)) 0 ∈ xs := by
            rw [List.getD_eq_getElem?_getD, List.getElem?_eq_getElem hd]; exact List.getElem_mem hd
          rw [e1]
          rcases tmod2 (hg.2.2 _ hmem).1 with g | g
          · exact g
          · exact absurd g hne
      have := key (xs.length - 1 - lastC xs) (by omega)
      rw [show ((lastC xs + (xs.length - 1 - lastC xs) : Nat) : Int) = (xs.length : Int) - 1 from by omega] at this
      exact this
  · rw [if_neg h]
    exact ev_neg h (ev_now rfl)
theorem moved_eq (n a : Nat) (h : a < n) (hn : n ≤ 1048576) : impl_moved.f (runL n 0) (a : Int) ((n : Int) - 1) = some (skipL (a : Int) n 0 ++ [(a : Int)]) := by
  obtain ⟨b, rfl⟩ : ∃ b, n = a + 1 + b := ⟨n - a - 1, by omega⟩
  have hr : runL (a + 1 + b) 0 = runL a 0 ++ (a : Int) :: runL b ((a : Int) + 1) := by
    rw [runL_add (a + 1) b 0, runL_snoc a 0, List.append_assoc, show (0 : Int) + (a : Int) = a from by omega, show (0 : Int) + ((a + 1 : Nat) : Int) = (a : Int) + 1 from by omega]; rfl
  have ha := runL_length a 0
  have hlen : (runL (a + 1 + b) 0).length = a + 1 + b := runL_length _ _
  unfold impl_moved.f
  rw [hlen, if_pos (by omega), if_pos (by omega), if_pos (by omega), if_pos (by omega), Int.toNat_natCast, skipL_eq (a : Int) a b 0 (by omega), hr]
  have e1 : (runL a 0 ++ (a : Int) :: runL b ((a : Int) + 1)).take a = runL a 0 := List.take_left' ha
  have e2 : (runL a 0 ++ (a : Int) :: runL b ((a : Int) + 1)).drop (a + 1) = runL b ((a : Int) + 1) := by
    rw [show runL a 0 ++ (a : Int) :: runL b ((a : Int) + 1) = (runL a 0 ++ [(a : Int)]) ++ runL b ((a : Int) + 1) from by simp, List.drop_left' (by simp [ha])]
  have e3 : rd (runL a 0 ++ (a : Int) :: runL b ((a : Int) + 1)) (a : Int) = a := by
    unfold rd
    rw [Int.toNat_natCast, List.getD_eq_getElem?_getD, List.getElem?_append_right (by omega), ha, Nat.sub_self]; rfl
  rw [e1, e2, e3]
theorem implOrder_l (xs : List Int) (h : goodC xs = true) : ∀ (d : Nat) (i : Int), 0 ≤ i → i + d = (xs.length : Int) →
    Ev (fun k => impl_FirstFewestBlanks.l0 k (runL i.toNat 0) (oddsL xs 0) (xs.length : Int) i) (skipL (lastC xs : Int) xs.length 0 ++ [((lastC xs : Nat) : Int)], true) := by
  have hg := goodC_true h
  intro d
  induction d with
  | zero =>
    intro i h0 hi
    have hin : i.toNat = xs.length := by omega
    have hol := oddsL_length xs 0
    refine Ev.step (fun k => impl_FirstFewestBlanks.l0.eq_2 ..) (ev_neg (by omega) ?_)
    rw [hin, runL_length]
    by_cases e : oddsL xs 0 = []
    · rw [e]
      refine ev_neg (by simp) (ev_now ?_)
      have hl : lastC xs = xs.length - 1 := by unfold lastC; rw [if_pos e]
      obtain ⟨m, hm⟩ : ∃ m, xs.length = m + 1 := ⟨xs.length - 1, by omega⟩
      rw [hl, hm, Nat.add_sub_cancel, runL_snoc, show skipL (m : Int) (m + 1) 0 = runL m 0 from by
        have := skipL_eq (m : Int) m 0 0 (by omega)
        rw [Nat.add_zero] at this
        rw [this]; simp [runL]]
      rw [show (0 : Int) + (m : Int) = m from by omega]
    · obtain ⟨o1, o2, _, _⟩ := lastC_odd xs e
      have hpos : 0 < (oddsL xs 0).length := List.length_pos_iff.2 e
      have hrd : rd (oddsL xs 0) (((oddsL xs 0).length : Int) - 1) = ((lastC xs : Nat) : Int) := by
        unfold rd
        rw [List.getD_eq_getElem?_getD, show (((oddsL xs 0).length : Int) - 1).toNat = (oddsL xs 0).length - 1 from by omega, ← List.getLast?_eq_getElem?, o1]; rfl
      rw [w64 (x := ((oddsL xs 0).length : Int) - 1) (by omega) (by omega), w64 (x := (xs.length : Int) - 1) (by omega) (by omega), hrd, moved_eq xs.length (lastC xs) o2 (by omega)]
      exact ev_pos (by omega) (ev_pos (by omega) (ev_pos (by omega) (ev_now rfl)))
  | succ d ih =>
    intro i h0 hi
    refine Ev.step (fun k => impl_FirstFewestBlanks.l0.eq_2 ..) ?_
    rw [w64 (x := i + 1) (by omega) (by omega), runL_length]
    have := ih (i + 1) (by omega) (by omega)
    rw [show (i + 1).toNat = i.toNat + 1 from by omega, runL_snoc, show (0 : Int) + (i.toNat : Int) = i from by omega] at this
    exact ev_pos (by omega) (ev_pos (by omega) this)
theorem implOrder_ev (xs : List Int) (hn : xs.length ≤ 1048576) : Ev (fun k => impl_FirstFewestBlanks.f k xs) (orderM xs) := by
  unfold impl_FirstFewestBlanks.f orderM
  refine Ev.bind (areCh_ev xs hn) ?_
  by_cases h : goodC xs = true
  · have hg := goodC_true h
    rw [if_pos h]
    have ho : Ev (fun k => impl_odds.f k xs) (oddsL xs 0) := by
      unfold impl_odds.f
      exact ev_val (odds_l xs (by omega) xs 0 [] (by omega) rfl (by simp only [List.length_nil]; omega)) (List.nil_append _)
    exact ev_pos h (Ev.bind ho (implOrder_l xs h xs.length 0 (by omega) (by omega)))
  · rw [if_neg h]
    exact ev_neg h (ev_now rfl)
theorem FnExactFirstFewestBlanks (l : List Int) (hx : l.length ≤ 9223372036854775807) : ∃ k, laws_FnExactFirstFewestBlanks.f k l = some true := by
  refine Ev.rounds ?_
  unfold laws_FnExactFirstFewestBlanks.f
  by_cases h : (l.length : Int) > 1048576
  · exact ev_pos h (ev_now rfl)
  · refine ev_neg h ?_
    have hl : l.length ≤ 1048576 := by omega
    have hs := specOrder_ev l hl
    have hi := implOrder_ev l hl
    have hW := orderM_small l
    generalize orderM l = r at hs hi hW
    refine Ev.bind (toIntS_ev l hl) (Ev.bind hs (Ev.bind (toIntS_ev l hl) (Ev.bind hi (Ev.bind (eqIntS_ev r.1 (by omega)) (ev_pos rfl ?_)))))
    refine Ev.step (fun k => laws_FnExactFirstFewestBlanks.j0.eq_2 ..) ?_
    refine ev_neg (by simp) (Ev.bind (toIntS_ev l hl) (Ev.bind (eqIntS_ev _ (by omega)) (ev_pos rfl (Ev.bind (markIntS_ev l (by omega)) (ev_neg (by simp only; omega) (Ev.bind (eqIntS_ev r.1 (by omega)) (ev_pos rfl ?_)))))))
    refine Ev.step (fun k => laws_FnExactFirstFewestBlanks.j1.eq_2 ..) ?_
    refine ev_neg (by simp) (Ev.bind (markIntS_ev r.1 (by omega)) (Ev.bind (heldIntS_ev r.1.length (by omega)) (ev_neg (by omega) (ev_pos rfl (Ev.bind (toIntS_ev l hl) (Ev.bind hi (Ev.bind (eqIntS_ev r.1 (by omega)) (ev_pos rfl ?_))))))))
    refine Ev.step (fun k => laws_FnExactFirstFewestBlanks.j2.eq_2 ..) ?_
    exact ev_neg (by simp) (Ev.bind (heldIntS_ev r.1.length (by omega)) (ev_neg (by omega) (ev_pos rfl (ev_now rfl))))

end Go.Proofs.Ytngaimhnajeidaa.Pure
