/- The law FnExactNearestIndexed holds for every list of ranges and page: program and reference tell the same page. No condition. -/
import Derived.Test.YteolpfmpinbdoaaPFnExactNearestIndexedx5
namespace Go.Proofs.Yteolpfmpinbdoaa.Pure
open Go.RowKit Go.Proofs.Yteolpfmpinbdoaa.PFnExactNearestIndexed Go.Proofs.YteolpfmpinbdoaaW.PrintWords Go.Proofs.YteolpfmpinbdoaaW.PrintLast

theorem w64 {x : Int} (h1 : -9223372036854775808 ≤ x) (h2 : x ≤ 9223372036854775807) : wrap64 x = x := by
  unfold wrap64; omega
theorem ev_pos {α : Type} {c : Prop} [Decidable c] {f g : Nat → Option α} {r : α} (hc : c) (h : Ev f r) : Ev (fun k => if c then f k else g k) r := by
  simpa only [if_pos hc] using h
theorem ev_neg {α : Type} {c : Prop} [Decidable c] {f g : Nat → Option α} {r : α} (hc : ¬ c) (h : Ev g r) : Ev (fun k => if c then f k else g k) r := by
  simpa only [if_neg hc] using h
theorem ev_now {α : Type} {r s : α} (h : r = s) : Ev (fun _ => some r) s := h ▸ Ev.now r
theorem ev_some {α β : Type} {x : Option α} {f : Nat → α → Option β} {a : α} {r : β} (h : x = some a) (k : Ev (fun n => f n a) r) : Ev (fun n => x.bind (f n)) r := by
  subst h; exact k
theorem ev_val {α : Type} {g : Nat → Option α} {a b : α} (h : Ev g a) (e : a = b) : Ev g b := e ▸ h
theorem ev_suc {α : Type} {g : Nat → Option α} {r : α} (h : Ev (fun k => g (k + 1)) r) : Ev g r := Ev.step (fun _ => rfl) h
theorem drop_nil {α : Type} {xs : List α} {i : Int} (h0 : 0 ≤ i) (h : xs.drop i.toNat = []) : (xs.length : Int) ≤ i := by
  have := List.drop_eq_nil_iff.1 h
  omega
theorem drop_get {α : Type} {xs : List α} {i : Int} {y : α} {ys : List α} (h0 : 0 ≤ i) (h : xs.drop i.toNat = y :: ys) : i < (xs.length : Int) ∧ (∀ d, xs.getD i.toNat d = y) ∧ xs.drop (i + 1).toNat = ys ∧ xs.take (i + 1).toNat = xs.take i.toNat ++ [y] := by
  have hl : i.toNat < xs.length := by
    rcases Nat.lt_or_ge i.toNat xs.length with hl | hl
    · exact hl
    · rw [List.drop_eq_nil_iff.2 hl] at h; cases h
  have e := List.drop_eq_getElem_cons hl
  rw [h] at e
  injection e with e1 e2
  have h1 : (i + 1).toNat = i.toNat + 1 := by omega
  refine ⟨by omega, fun d => ?_, ?_, ?_⟩
  · rw [List.getD_eq_getElem?_getD, List.getElem?_eq_getElem hl, e1]; rfl
  · rw [h1]; exact e2.symm
  · rw [h1, List.take_add_one, List.getElem?_eq_getElem hl, e1]; rfl
theorem drop_cons {xs : List Int} {i : Int} {y : Int} {ys : List Int} (h0 : 0 ≤ i) (h : xs.drop i.toNat = y :: ys) : i < (xs.length : Int) ∧ rd xs i = y ∧ xs.drop (i + 1).toNat = ys ∧ xs.take (i + 1).toNat = xs.take i.toNat ++ [y] := by
  obtain ⟨h1, h2, h3⟩ := drop_get h0 h
  exact ⟨h1, h2 0, h3⟩

def isR (r : S32) : Bool := decide (1 ≤ r.f0 ∧ r.f0 ≤ 2000) && decide (r.f0 ≤ r.f1 ∧ r.f1 ≤ 2000)
/-- What stands behind a range that ends at prev. -/
def tailR : Option Int → List S32 → Bool
  | _, [] => true
  | prev, r :: rs => isR r && ((match prev with | none => true | some p => decide (p + 2 ≤ r.f0)) && tailR (some r.f1) rs)
def goodR (xs : List S32) : Bool := decide (xs.length ≤ 20) && tailR none xs
theorem isR_true {r : S32} (h : isR r = true) : 1 ≤ r.f0 ∧ r.f0 ≤ 2000 ∧ r.f0 ≤ r.f1 ∧ r.f1 ≤ 2000 := by
  simp only [isR, Bool.and_eq_true, decide_eq_true_eq] at h; omega
theorem drop32 {xs : List S32} {i : Int} {y : S32} {ys : List S32} (h0 : 0 ≤ i) (h : xs.drop i.toNat = y :: ys) : i < (xs.length : Int) ∧ rd_T32 xs i = y ∧ xs.drop (i + 1).toNat = ys := by
  obtain ⟨h1, h2, h3, _⟩ := drop_get h0 h
  exact ⟨h1, h2 _, h3⟩

theorem l1In_eq (a lo hi : Int) : spec_l1In.f a lo hi = some (decide (lo ≤ a ∧ a ≤ hi)) := by
  unfold spec_l1In.f
  by_cases h : a ≥ lo
  · rw [if_pos h]; congr 1; simp [show lo ≤ a from h]
  · rw [if_neg h]; congr 1; simp; omega

theorem ixRange_eq (r : S32) : spec_ixRange.f r.f0 r.f1 = some (isR r) := by
  unfold spec_ixRange.f isR
  rw [l1In_eq]
  by_cases h : 1 ≤ r.f0 ∧ r.f0 ≤ 2000
  · rw [decide_eq_true h]; simp only [Option.bind_some, if_true]; rw [l1In_eq]; simp
  · rw [decide_eq_false h]; simp
theorem ixGood_l (xs : List S32) (hn : xs.length ≤ 1048576) : ∀ (ys : List S32) (i : Int) (prev : Option Int), 0 ≤ i → xs.drop i.toNat = ys → (i = 0 → prev = none) → (0 < i → ∃ p, prev = some p ∧ (rd_T32 xs (i - 1)).f1 = p ∧ p ≤ 2000 ∧ 1 ≤ p) →
    Ev (fun k => spec_ixGood.l0 k xs xs (xs.length : Int) i) (tailR prev ys) := by
  intro ys
  induction ys with
  | nil =>
    intro i prev h0 h _ _
    have := drop_nil h0 h
    refine Ev.step (fun k => spec_ixGood.l0.eq_2 ..) ?_
    exact ev_neg (by omega) (ev_now rfl)
  | cons y ys ih =>
    intro i prev h0 h hp0 hp1
    obtain ⟨h1, h2, h3⟩ := drop32 h0 h
    refine Ev.step (fun k => spec_ixGood.l0.eq_2 ..) ?_
    rw [h2, w64 (x := i + 1) (by omega) (by omega)]
    refine ev_pos h1 (ev_pos h0 (ev_pos h1 (ev_some (ixRange_eq y) ?_)))
    by_cases hr : isR y = true
    · refine ev_pos hr ?_
      have hy := isR_true hr
      have hnext : Ev (fun k => spec_ixGood.l0 k xs xs (xs.length : Int) (i + 1)) (tailR (some y.f1) ys) :=
        ih (i + 1) (some y.f1) (by omega) h3 (fun h => by omega) (fun _ => ⟨y.f1, rfl, by rw [show i + 1 - 1 = i from by omega, h2], by omega, by omega⟩)
      by_cases hi : 0 < i
      · obtain ⟨p, rfl, hp, hp2, hp3⟩ := hp1 hi
        refine ev_pos hi ?_
        rw [w64 (x := i - 1) (by omega) (by omega), hp, w64 (x := p + 2) (by omega) (by omega)]
        refine ev_pos (by omega) (ev_pos (by omega) ?_)
        by_cases c : y.f0 < p + 2
        · exact ev_pos c (ev_now (by simp [tailR, hr, show ¬ p + 2 ≤ y.f0 from by omega]))
        · exact ev_neg c (ev_val hnext (by simp [tailR, hr, show p + 2 ≤ y.f0 from by omega]))
      · obtain rfl := hp0 (by omega)
        exact ev_neg hi (ev_val hnext (by simp [tailR, hr]))
    · exact ev_neg hr (ev_now (by simp [tailR, hr]))
theorem ixGood_ev (xs : List S32) (hn : xs.length ≤ 1048576) : Ev (fun k => spec_ixGood.f k xs) (goodR xs) := by
  unfold spec_ixGood.f goodR
  by_cases h : xs.length ≤ 20
  · exact ev_neg (by omega) (ev_val (ixGood_l xs hn xs 0 none (by omega) rfl (fun _ => rfl) (fun h => by omega)) (by simp [h]))
  · exact ev_pos (by omega) (ev_now (by simp [h]))

theorem within_eq (a lo hi : Int) : impl_within.f a lo hi = some (decide (lo ≤ a ∧ a ≤ hi)) := by
  unfold impl_within.f
  by_cases h : a ≥ lo
  · rw [if_pos h]; congr 1; simp [show lo ≤ a from h]
  · rw [if_neg h]; congr 1; simp; omega

theorem isRange_eq (r : S32) : impl_isRange.f r.f0 r.f1 = some (isR r) := by
  unfold impl_isRange.f isR
  rw [within_eq]
  by_cases h : 1 ≤ r.f1 ∧ r.f1 ≤ 2000
  · rw [decide_eq_true h]; simp only [Option.bind_some, if_true]; rw [within_eq]
    simp only [Option.bind_some]; congr 1
    rw [← Bool.decide_and]
    exact decide_eq_decide.2 (by omega)
  · rw [decide_eq_false h]
    simp only [Option.bind_some, Bool.false_eq_true, if_false]; congr 1
    rw [← Bool.decide_and]
    exact (decide_eq_false (by omega)).symm
theorem areR_l (xs : List S32) (hn : xs.length ≤ 1048576) : ∀ (ys : List S32) (i : Int) (prev : Option Int), 0 ≤ i → xs.drop i.toNat = ys → (i = 0 → prev = none) → (0 < i → ∃ p, prev = some p ∧ (rd_T32 xs (i - 1)).f1 = p ∧ p ≤ 2000 ∧ 1 ≤ p) →
    Ev (fun k => impl_AreRanges.l0 k xs xs (xs.length : Int) i) (tailR prev ys && decide (xs.length ≤ 20)) := by
  intro ys
  induction ys with
  | nil =>
    intro i prev h0 h _ _
    have := drop_nil h0 h
    refine Ev.step (fun k => impl_AreRanges.l0.eq_2 ..) ?_
    exact ev_neg (by omega) (ev_now (by simp only [tailR, Bool.true_and]; exact decide_eq_decide.2 (by omega)))
  | cons y ys ih =>
    intro i prev h0 h hp0 hp1
    obtain ⟨h1, h2, h3⟩ := drop32 h0 h
    refine Ev.step (fun k => impl_AreRanges.l0.eq_2 ..) ?_
    rw [h2, w64 (x := i + 1) (by omega) (by omega)]
    refine ev_pos h1 (ev_pos h0 (ev_pos h1 (ev_some (isRange_eq y) ?_)))
    by_cases hr : isR y = true
    · refine ev_pos hr ?_
      have hy := isR_true hr
      have hnext : Ev (fun k => impl_AreRanges.l0 k xs xs (xs.length : Int) (i + 1)) (tailR (some y.f1) ys && decide (xs.length ≤ 20)) :=
        ih (i + 1) (some y.f1) (by omega) h3 (fun h => by omega) (fun _ => ⟨y.f1, rfl, by rw [show i + 1 - 1 = i from by omega, h2], by omega, by omega⟩)
      by_cases hi : 0 < i
      · obtain ⟨p, rfl, hp, hp2, hp3⟩ := hp1 hi
        refine ev_pos hi ?_
        rw [w64 (x := i - 1) (by omega) (by omega), hp, w64 (x := p + 2) (by omega) (by omega)]
        refine ev_pos (by omega) (ev_pos (by omega) ?_)
        by_cases c : y.f0 < p + 2
        · exact ev_pos c (ev_now (by simp [tailR, hr, show ¬ p + 2 ≤ y.f0 from by omega]))
        · exact ev_neg c (ev_val hnext (by simp [tailR, hr, show p + 2 ≤ y.f0 from by omega]))
      · obtain rfl := hp0 (by omega)
        exact ev_neg hi (ev_val hnext (by simp [tailR, hr]))
    · exact ev_neg hr (ev_now (by simp [tailR, hr]))
theorem areR_ev (xs : List S32) (hn : xs.length ≤ 1048576) : Ev (fun k => impl_AreRanges.f k xs) (goodR xs) := by
  unfold impl_AreRanges.f goodR
  exact ev_val (areR_l xs hn xs 0 none (by omega) rfl (fun _ => rfl) (fun h => by omega)) (Bool.and_comm _ _)

theorem tailR_mem : ∀ (xs : List S32) (prev : Option Int), tailR prev xs = true → ∀ r ∈ xs, isR r = true
  | [], _, _, r, hr => by simp at hr
  | x :: xs, prev, h, r, hr => by
    simp only [tailR, Bool.and_eq_true] at h
    rcases List.mem_cons.1 hr with rfl | hr
    · exact h.1
    · exact tailR_mem xs (some x.f1) h.2.2 r hr
theorem goodR_true {xs : List S32} (h : goodR xs = true) : xs.length ≤ 20 ∧ tailR none xs = true ∧ ∀ r ∈ xs, isR r = true := by
  simp only [goodR, Bool.and_eq_true, decide_eq_true_eq] at h
  exact ⟨h.1, h.2, tailR_mem xs none h.2⟩

def setN : Nat → Nat → List Bool → List Bool
  | 0, _, ss => ss
  | d + 1, p, ss => setN d (p + 1) (ss.set p true)
theorem setN_length : ∀ (d p : Nat) (ss : List Bool), (setN d p ss).length = ss.length
  | 0, _, _ => rfl
  | d + 1, p, ss => by rw [setN, setN_length d, List.length_set]
theorem setN_get : ∀ (d p : Nat) (ss : List Bool) (q : Nat), p + d ≤ ss.length → (setN d p ss).getD q false = (decide (p ≤ q ∧ q < p + d) || ss.getD q false)
  | 0, p, ss, q, _ => by rw [setN, decide_eq_false (by omega), Bool.false_or]
  | d + 1, p, ss, q, h => by
    rw [setN, setN_get d (p + 1) _ q (by rw [List.length_set]; omega)]
    by_cases c : q = p
    · subst c
      have : (ss.set q true).getD q false = true := by rw [List.getD_eq_getElem?_getD, List.getElem?_set_self (by omega)]; rfl
      rw [this, Bool.or_true, decide_eq_true (by omega), Bool.true_or]
    · have : (ss.set p true).getD q false = ss.getD q false := by rw [List.getD_eq_getElem?_getD, List.getElem?_set_ne (by omega), List.getD_eq_getElem?_getD]
      rw [this]
      congr 1
      exact decide_eq_decide.2 (by omega)
def markAll : List S32 → List Bool → List Bool
  | [], ss => ss
  | r :: rs, ss => markAll rs (setN (r.f1 - r.f0 + 1).toNat r.f0.toNat ss)
theorem markAll_length : ∀ (rs : List S32) (ss : List Bool), (markAll rs ss).length = ss.length
  | [], _ => rfl
  | r :: rs, ss => by rw [markAll, markAll_length rs, setN_length]
/-- Have these ranges the page? -/
def hasP (rs : List S32) (p : Int) : Bool := rs.any fun r => decide (r.f0 ≤ p ∧ p ≤ r.f1)
theorem markAll_get : ∀ (rs : List S32) (ss : List Bool) (q : Nat), (∀ r ∈ rs, isR r = true) → 2001 ≤ ss.length → (markAll rs ss).getD q false = (hasP rs q || ss.getD q false)
  | [], ss, q, _, _ => by simp [markAll, hasP]
  | r :: rs, ss, q, h, hl => by
    have hr := isR_true (h r List.mem_cons_self)
    rw [markAll, markAll_get rs _ q (fun x hx => h x (List.mem_cons_of_mem _ hx)) (by rw [setN_length]; omega), setN_get _ _ _ _ (by omega)]
    have e : decide (r.f0.toNat ≤ q ∧ q < r.f0.toNat + (r.f1 - r.f0 + 1).toNat) = decide (r.f0 ≤ (q : Int) ∧ (q : Int) ≤ r.f1) := decide_eq_decide.2 (by omega)
    have e2 : hasP (r :: rs) (q : Int) = (decide (r.f0 ≤ (q : Int) ∧ (q : Int) ≤ r.f1) || hasP rs q) := List.any_cons
    rw [e, e2]
    cases hasP rs q <;> cases decide (r.f0 ≤ (q : Int) ∧ (q : Int) ≤ r.f1) <;> rfl
theorem markAll_has (rs : List S32) (n : Nat) (q : Int) (h : ∀ r ∈ rs, isR r = true) (hn : 2001 ≤ n) (hq : 0 ≤ q) : rdOf false (markAll rs (List.replicate n false)) q = hasP rs q := by
  have e := markAll_get rs (List.replicate n false) q.toNat h (by rw [List.length_replicate]; exact hn)
  have e2 : (List.replicate n false).getD q.toNat false = false := by
    rw [List.getD_eq_getElem?_getD, List.getElem?_replicate]; split <;> rfl
  rw [e2, Bool.or_false, Int.toNat_of_nonneg hq] at e
  exact e

theorem ixMarks_l1 (xs : List S32) (i a b : Int) (hab : b ≤ 2000) (r : List Bool) : ∀ (d : Nat) (p : Nat) (ss : List Bool), (p : Int) + d = b + 1 → 2001 ≤ ss.length →
    Ev (fun k => spec_ixMarks.l0 k (setN d p ss) xs (xs.length : Int) (wrap64 (i + 1))) r → Ev (fun k => spec_ixMarks.l1 k ss (p : Int) xs (xs.length : Int) i a b) r := by
  intro d
  induction d with
  | zero =>
    intro p ss hp hl hr
    refine Ev.step (fun k => spec_ixMarks.l1.eq_2 ..) ?_
    exact ev_neg (by omega) hr
  | succ d ih =>
    intro p ss hp hl hr
    refine Ev.step (fun k => spec_ixMarks.l1.eq_2 ..) ?_
    rw [w64 (x := (p : Int) + 1) (by omega) (by omega), show (p : Int) + 1 = ((p + 1 : Nat) : Int) from by omega, Int.toNat_natCast]
    exact ev_pos (by omega) (ev_pos (by omega) (ev_pos (by omega) (ih (p + 1) _ (by omega) (by rw [List.length_set]; exact hl) hr)))
theorem ixMarks_l (xs : List S32) (hn : xs.length ≤ 1048576) (hb : ∀ r ∈ xs, isR r = true) : ∀ (ys : List S32) (i : Int) (ss : List Bool), 0 ≤ i → xs.drop i.toNat = ys → 2001 ≤ ss.length →
    Ev (fun k => spec_ixMarks.l0 k ss xs (xs.length : Int) i) (markAll ys ss) := by
  intro ys
  induction ys with
  | nil =>
    intro i ss h0 h _
    have := drop_nil h0 h
    refine Ev.step (fun k => spec_ixMarks.l0.eq_2 ..) ?_
    exact ev_neg (by omega) (ev_now rfl)
  | cons y ys ih =>
    intro i ss h0 h hl
    obtain ⟨h1, h2, h3⟩ := drop32 h0 h
    have hy := isR_true (hb y (List.mem_of_mem_drop (by rw [h]; exact List.mem_cons_self)))
    refine Ev.step (fun k => spec_ixMarks.l0.eq_2 ..) ?_
    rw [h2]
    refine ev_pos h1 (ev_pos h0 (ev_pos h1 ?_))
    have e : y.f0 = ((y.f0.toNat : Nat) : Int) := by omega
    have hh := ixMarks_l1 xs i y.f0 y.f1 hy.2.2.2 (markAll (y :: ys) ss) (y.f1 - y.f0 + 1).toNat y.f0.toNat ss (by omega) hl (by
      rw [w64 (x := i + 1) (by omega) (by omega), markAll]
      exact ih (i + 1) _ (by omega) h3 (by rw [setN_length]; exact hl))
    rw [← e] at hh
    exact hh
theorem ixMarks_ev (xs : List S32) (hn : xs.length ≤ 1048576) (hb : ∀ r ∈ xs, isR r = true) : Ev (fun k => spec_ixMarks.f k xs) (markAll xs (List.replicate 2002 false)) := by
  unfold spec_ixMarks.f
  exact ev_pos (by omega) (ixMarks_l xs hn hb xs 0 _ (by omega) rfl (by rw [List.length_replicate]; omega))

theorem setOf_l1 (xs : List S32) (i a b : Int) (hab : b ≤ 2000) (r : List Bool) : ∀ (d : Nat) (p : Nat) (ss : List Bool), (p : Int) + d = b + 1 → 2001 ≤ ss.length →
    Ev (fun k => impl_setOf.l0 k (setN d p ss) xs (xs.length : Int) (wrap64 (i + 1))) r → Ev (fun k => impl_setOf.l1 k ss (p : Int) xs (xs.length : Int) i a b) r := by
  intro d
  induction d with
  | zero =>
    intro p ss hp hl hr
    refine Ev.step (fun k => impl_setOf.l1.eq_2 ..) ?_
    exact ev_neg (by omega) hr
  | succ d ih =>
    intro p ss hp hl hr
    refine Ev.step (fun k => impl_setOf.l1.eq_2 ..) ?_
    rw [w64 (x := (p : Int) + 1) (by omega) (by omega), show (p : Int) + 1 = ((p + 1 : Nat) : Int) from by omega, Int.toNat_natCast]
    exact ev_pos (by omega) (ev_pos (by omega) (ev_pos (by omega) (ih (p + 1) _ (by omega) (by rw [List.length_set]; exact hl) hr)))
theorem setOf_l (xs : List S32) (hn : xs.length ≤ 1048576) (hb : ∀ r ∈ xs, isR r = true) : ∀ (ys : List S32) (i : Int) (ss : List Bool), 0 ≤ i → xs.drop i.toNat = ys → 2001 ≤ ss.length →
    Ev (fun k => impl_setOf.l0 k ss xs (xs.length : Int) i) (markAll ys ss) := by
  intro ys
  induction ys with
  | nil =>
    intro i ss h0 h _
    have := drop_nil h0 h
    refine Ev.step (fun k => impl_setOf.l0.eq_2 ..) ?_
    exact ev_neg (by omega) (ev_now rfl)
  | cons y ys ih =>
    intro i ss h0 h hl
    obtain ⟨h1, h2, h3⟩ := drop32 h0 h
    have hy := isR_true (hb y (List.mem_of_mem_drop (by rw [h]; exact List.mem_cons_self)))
    refine Ev.step (fun k => impl_setOf.l0.eq_2 ..) ?_
    rw [h2]
    refine ev_pos h1 (ev_pos h0 (ev_pos h1 ?_))
    have e : y.f0 = ((y.f0.toNat : Nat) : Int) := by omega
    have hh := setOf_l1 xs i y.f0 y.f1 hy.2.2.2 (markAll (y :: ys) ss) (y.f1 - y.f0 + 1).toNat y.f0.toNat ss (by omega) hl (by
      rw [w64 (x := i + 1) (by omega) (by omega), markAll]
      exact ih (i + 1) _ (by omega) h3 (by rw [setN_length]; exact hl))
    rw [← e] at hh
    exact hh
theorem setOf_ev (xs : List S32) (hn : xs.length ≤ 1048576) (hb : ∀ r ∈ xs, isR r = true) : Ev (fun k => impl_setOf.f k xs) (markAll xs (List.replicate 2001 false)) := by
  unfold impl_setOf.f
  exact setOf_l xs hn hb xs 0 _ (by omega) rfl (by rw [List.length_replicate]; omega)

def toR (r : S50) : S32 := ⟨r.f0, r.f1⟩
theorem toRangeS_l (xs : List S50) (hn : xs.length < 4611686018427387904) : ∀ (ys : List S50) (i : Int) (zs : List S32), 0 ≤ i → xs.drop i.toNat = ys → zs.length = ys.length →
    Ev (fun k => laws_toRangeS.l0 k xs ((xs.take i.toNat).map toR ++ zs) i) (xs.map toR) := by
  intro ys
  induction ys with
  | nil =>
    intro i zs h0 h hz
    have := drop_nil h0 h
    refine Ev.step (fun k => laws_toRangeS.l0.eq_2 ..) ?_
    have hz : zs = [] := List.eq_nil_of_length_eq_zero hz
    refine ev_neg (by omega) (ev_now ?_)
    rw [hz, List.append_nil, List.take_of_length_le (by omega)]
  | cons y ys ih =>
    intro i zs h0 h hz
    obtain ⟨h1, h2', h3, h4⟩ := drop_get h0 h
    have h2 : rd_T50 xs i = y := h2' _
    obtain ⟨z, zs, rfl⟩ : ∃ z zs', zs = z :: zs' := List.exists_cons_of_length_eq_add_one hz
    have hl : ((xs.take i.toNat).map toR).length = i.toNat := by rw [List.length_map, List.length_take]; omega
    refine Ev.step (fun k => laws_toRangeS.l0.eq_2 ..) ?_
    refine ev_pos h1 (ev_pos h0 ?_)
    unfold laws_toRange.f
    refine ev_some rfl (ev_pos (by rw [List.length_append, hl, List.length_cons]; omega) ?_)
    rw [h2, w64 (by omega) (by omega)]
    have e : ((xs.take i.toNat).map toR ++ z :: zs).set i.toNat (⟨y.f0, y.f1⟩ : S32) = (xs.take (i + 1).toNat).map toR ++ zs := by
      rw [h4, List.map_append, List.set_append_right _ _ (by omega), hl, Nat.sub_self, List.set_cons_zero, List.append_assoc]; rfl
    rw [e]
    exact ih (i + 1) zs (by omega) h3 (by simpa using hz)
theorem toRangeS_ev (xs : List S50) (hn : xs.length ≤ 1048576) : Ev (fun k => laws_toRangeS.f k xs) (xs.map toR) := by
  unfold laws_toRangeS.f
  refine ev_pos (by omega) (ev_pos (by omega) ?_)
  exact toRangeS_l xs (by omega) xs 0 _ (by omega) rfl (by simp)

theorem eqRangeS_l (xs : List S32) (hn : xs.length < 4611686018427387904) : ∀ (ys : List S32) (i : Int), 0 ≤ i → xs.drop i.toNat = ys →
    Ev (fun k => laws_eqRangeS.l0 k xs xs i) true := by
  intro ys
  induction ys with
  | nil =>
    intro i h0 h
    have := drop_nil h0 h
    refine Ev.step (fun k => laws_eqRangeS.l0.eq_2 ..) ?_
    exact ev_neg (by omega) (ev_now rfl)
  | cons y ys ih =>
    intro i h0 h
    obtain ⟨h1, h2, h3, _⟩ := drop_get h0 h
    refine Ev.step (fun k => laws_eqRangeS.l0.eq_2 ..) ?_
    have e : ∀ r : S32, laws_eqRange.f r.f0 r.f1 r.f0 r.f1 = some true := fun r => by unfold laws_eqRange.f; simp
    refine ev_pos h1 (ev_pos h0 (ev_pos h1 (ev_some (e _) (ev_pos rfl ?_))))
    rw [w64 (by omega) (by omega)]
    exact ih _ (by omega) h3
theorem eqRangeS_ev (xs : List S32) (hn : xs.length < 4611686018427387904) : Ev (fun k => laws_eqRangeS.f k xs xs) true := by
  unfold laws_eqRangeS.f
  exact ev_pos rfl (eqRangeS_l xs hn xs 0 (by omega) rfl)

def dist (p q : Int) : Int := if q ≤ p then p - q else q - p
theorem l1Abs_eq (p q : Int) (h1 : -10000 ≤ q - p) (h2 : q - p ≤ 10000) : spec_l1Abs.f (wrap64 (q - p)) = some (dist p q) := by
  unfold spec_l1Abs.f spec_l1Most.f dist
  rw [w64 (x := q - p) (by omega) (by omega), w64 (x := -(q - p)) (by omega) (by omega)]
  by_cases c : q ≤ p
  · rw [if_pos c]
    by_cases c2 : q - p > -(q - p)
    · omega
    · simp [c2] <;> omega
  · rw [if_neg c]
    simp [show q - p > -(q - p) from by omega] <;> omega
theorem hasP_bd {xs : List S32} (h : ∀ r ∈ xs, isR r = true) {q : Int} (hq : hasP xs q = true) : 1 ≤ q ∧ q ≤ 2000 := by
  rw [hasP, List.any_eq_true] at hq
  obtain ⟨r, hr, hd⟩ := hq
  have := isR_true (h r hr)
  rw [decide_eq_true_eq] at hd
  omega
theorem tailR_from : ∀ (xs : List S32) (p : Int), tailR (some p) xs = true → ∀ r ∈ xs, p + 2 ≤ r.f0
  | [], _, _, r, hr => by simp at hr
  | x :: xs, p, h, r, hr => by
    simp only [tailR, Bool.and_eq_true, decide_eq_true_eq] at h
    have hx := isR_true h.1
    rcases List.mem_cons.1 hr with rfl | hr
    · exact h.2.1
    · have := tailR_from xs x.f1 h.2.2 r hr; omega
theorem hasP_first {x : S32} {xs : List S32} (h : tailR none (x :: xs) = true) {q : Int} (hq : hasP (x :: xs) q = true) : x.f0 ≤ q := by
  have ht : isR x = true ∧ tailR (some x.f1) xs = true := by simp only [tailR, Bool.and_eq_true] at h; exact ⟨h.1, h.2.2⟩
  have hx := isR_true ht.1
  rw [hasP, List.any_eq_true] at hq
  obtain ⟨r, hr, hd⟩ := hq
  rw [decide_eq_true_eq] at hd
  rcases List.mem_cons.1 hr with rfl | hr
  · exact hd.1
  · have := tailR_from xs x.f1 ht.2 r hr; omega
theorem hasP_head {x : S32} {xs : List S32} (h : isR x = true) : hasP (x :: xs) x.f0 = true := by
  have := isR_true h
  rw [hasP, List.any_cons, decide_eq_true (by omega), Bool.true_or]
/-- The nearest page, the smaller one of two. -/
def isNear (xs : List S32) (p r : Int) : Prop := hasP xs r = true ∧ ∀ q, hasP xs q = true → dist p r ≤ dist p q ∧ (dist p r = dist p q → r ≤ q)
theorem isNear_one {xs : List S32} {p r s : Int} (h1 : isNear xs p r) (h2 : isNear xs p s) : r = s := by
  have a := h1.2 s h2.1
  have b := h2.2 r h1.1
  have e : dist p r = dist p s := by omega
  have := a.2 e
  have := b.2 e.symm
  omega
theorem specNear_l (xs : List S32) (hb : ∀ r ∈ xs, isR r = true) (p lo : Int) (hp : 1 ≤ p ∧ p ≤ 2000) (hlo : ∀ q, hasP xs q = true → lo ≤ q) : ∀ (d : Nat) (i b : Int), 0 ≤ i → i + d = 2002 → hasP xs b = true → (b < i ∨ b = lo) → (∀ q, q < i → hasP xs q = true → dist p b ≤ dist p q ∧ (dist p b = dist p q → b ≤ q)) →
    ∃ r, isNear xs p r ∧ Ev (fun k => spec_NearestIndexed.l0 k p b (markAll xs (List.replicate 2002 false)) 2002 i) (r, true) := by
  intro d
  induction d with
  | zero =>
    intro i b h0 h hhb hbi hq
    refine ⟨b, ⟨hhb, fun q hhq => hq q (by have := hasP_bd hb hhq; omega) hhq⟩, Ev.step (fun k => spec_NearestIndexed.l0.eq_2 ..) ?_⟩
    exact ev_neg (by omega) (ev_now rfl)
  | succ d ih =>
    intro i b h0 h hhb hbi hq
    have hbb := hasP_bd hb hhb
    have hstep : ∀ r : Int × Bool, Ev (fun k => if hasP xs i = true then ((some (dist p i)).bind fun t138 => ((some (dist p b)).bind fun t139 => (if t138 < t139 then (spec_NearestIndexed.l0 k p i (markAll xs (List.replicate 2002 false)) 2002 (i + 1)) else (spec_NearestIndexed.l0 k p b (markAll xs (List.replicate 2002 false)) 2002 (i + 1))))) else (spec_NearestIndexed.l0 k p b (markAll xs (List.replicate 2002 false)) 2002 (i + 1))) r →
        Ev (fun k => spec_NearestIndexed.l0 k p b (markAll xs (List.replicate 2002 false)) 2002 i) r := by
      intro r hr
      refine Ev.step (fun k => spec_NearestIndexed.l0.eq_2 ..) ?_
      rw [markAll_has xs 2002 i hb (by omega) h0, w64 (x := i + 1) (by omega) (by omega), l1Abs_eq p i (by omega) (by omega), l1Abs_eq p b (by omega) (by omega)]
      exact ev_pos (by omega) (ev_pos h0 (ev_pos (by rw [markAll_length, List.length_replicate]; omega) hr))
    by_cases c : hasP xs i = true
    · by_cases c2 : dist p i < dist p b
      · obtain ⟨r, hr, he⟩ := ih (i + 1) i (by omega) (by omega) c (Or.inl (by omega)) (fun q hqi hhq => by
          by_cases e : q = i
          · subst e; exact ⟨by omega, fun _ => by omega⟩
          · have := hq q (by omega) hhq; exact ⟨by omega, fun e => by omega⟩)
        exact ⟨r, hr, hstep _ (ev_pos c (ev_some rfl (ev_some rfl (ev_pos c2 he))))⟩
      · obtain ⟨r, hr, he⟩ := ih (i + 1) b (by omega) (by omega) hhb (by omega) (fun q hqi hhq => by
          by_cases e : q = i
          · subst e; exact ⟨by omega, fun _ => by have := hlo q hhq; omega⟩
          · exact hq q (by omega) hhq)
        exact ⟨r, hr, hstep _ (ev_pos c (ev_some rfl (ev_some rfl (ev_neg c2 he))))⟩
    · obtain ⟨r, hr, he⟩ := ih (i + 1) b (by omega) (by omega) hhb (by omega) (fun q hqi hhq => by
        by_cases e : q = i
        · subst e; exact absurd hhq c
        · exact hq q (by omega) hhq)
      exact ⟨r, hr, hstep _ (ev_neg c he)⟩
theorem isIndexed_eq (p : Int) : impl_isIndexed.f p = some (decide (1 ≤ p ∧ p ≤ 2000)) := by
  unfold impl_isIndexed.f
  rw [within_eq]; rfl
theorem implNear_l (xs : List S32) (hb : ∀ r ∈ xs, isR r = true) (p : Int) (hp : 1 ≤ p ∧ p ≤ 2000) : ∀ (n : Nat) (d : Int), 0 ≤ d → d + n = 2000 → (∀ q, hasP xs q = true → d ≤ dist p q) →
    (∃ r, isNear xs p r ∧ Ev (fun k => impl_NearestIndexed.l0 k p (markAll xs (List.replicate 2001 false)) d) (r, true)) ∨ ((∀ q, hasP xs q = false) ∧ Ev (fun k => impl_NearestIndexed.l0 k p (markAll xs (List.replicate 2001 false)) d) (0, false)) := by
  intro n
  induction n with
  | zero =>
    intro d h0 h hq
    refine Or.inr ⟨fun q => ?_, Ev.step (fun k => impl_NearestIndexed.l0.eq_2 ..) (ev_neg (by omega) (ev_now rfl))⟩
    rw [Bool.eq_false_iff]
    intro hhq
    have h1 := hasP_bd hb hhq
    have h2 := hq q hhq
    unfold dist at h2
    split at h2 <;> omega
  | succ n ih =>
    intro d h0 h hq
    have hd1 : ∀ r : Int × Bool, Ev (fun k => impl_NearestIndexed.l1 k p (markAll xs (List.replicate 2001 false)) d 0) r → Ev (fun k => impl_NearestIndexed.l0 k p (markAll xs (List.replicate 2001 false)) d) r :=
      fun r hr => Ev.step (fun k => impl_NearestIndexed.l0.eq_2 ..) (ev_pos (by omega) hr)
    have hm : ∀ (k : Nat) (z : Int), 0 ≤ z → rdOf false (markAll xs (List.replicate 2001 false)) z = hasP xs z := fun _ z hz => markAll_has xs 2001 z hb (by omega) hz
    have s0 : ∀ r : Int × Bool, Ev (fun k => if 1 ≤ p - d ∧ hasP xs (p - d) = true then some (p - d, true) else impl_NearestIndexed.l1 k p (markAll xs (List.replicate 2001 false)) d 1) r → Ev (fun k => impl_NearestIndexed.l1 k p (markAll xs (List.replicate 2001 false)) d 0) r := by
      intro r hr
      refine Ev.step (fun k => impl_NearestIndexed.l1.eq_2 ..) (ev_pos rfl (ev_some (isIndexed_eq _) ?_))
      rw [w64 (x := p - d) (by omega) (by omega)]
      by_cases c : 1 ≤ p - d
      · refine ev_pos (decide_eq_true (by omega)) (ev_pos (by omega) (ev_pos (by omega) ?_))
        rw [hm 0 (p - d) (by omega)]
        simpa only [c, true_and] using hr
      · refine ev_neg (by rw [decide_eq_false (by omega)]; simp) ?_
        simpa only [c, false_and, if_false] using hr
    have s1 : ∀ r : Int × Bool, Ev (fun k => if p + d ≤ 2000 ∧ hasP xs (p + d) = true then some (p + d, true) else impl_NearestIndexed.l1 k p (markAll xs (List.replicate 2001 false)) d 2) r → Ev (fun k => impl_NearestIndexed.l1 k p (markAll xs (List.replicate 2001 false)) d 1) r := by
      intro r hr
      refine Ev.step (fun k => impl_NearestIndexed.l1.eq_2 ..) (ev_neg (by omega) (ev_pos rfl (ev_some (isIndexed_eq _) ?_)))
      rw [w64 (x := p + d) (by omega) (by omega)]
      by_cases c : p + d ≤ 2000
      · refine ev_pos (decide_eq_true (by omega)) (ev_pos (by omega) (ev_pos (by omega) ?_))
        rw [hm 0 (p + d) (by omega)]
        simpa only [c, true_and] using hr
      · refine ev_neg (by rw [decide_eq_false (by omega)]; simp) ?_
        simpa only [c, false_and, if_false] using hr
    have s2 : ∀ r : Int × Bool, Ev (fun k => impl_NearestIndexed.l0 k p (markAll xs (List.replicate 2001 false)) (d + 1)) r → Ev (fun k => impl_NearestIndexed.l1 k p (markAll xs (List.replicate 2001 false)) d 2) r := by
      intro r hr
      refine Ev.step (fun k => impl_NearestIndexed.l1.eq_2 ..) (ev_neg (by omega) (ev_neg (by omega) ?_))
      rw [w64 (x := d + 1) (by omega) (by omega)]
      exact hr
    have cand : ∀ q, hasP xs q = true → dist p q = d → q = p - d ∨ q = p + d := fun q _ e => by unfold dist at e; split at e <;> omega
    have dm : dist p (p - d) = d := by unfold dist; split <;> omega
    have dp : dist p (p + d) = d := by unfold dist; split <;> omega
    by_cases c1 : 1 ≤ p - d ∧ hasP xs (p - d) = true
    · refine Or.inl ⟨p - d, ⟨c1.2, fun q hhq => ⟨by rw [dm]; exact hq q hhq, fun e => ?_⟩⟩, hd1 _ (s0 _ (ev_pos c1 (ev_now rfl)))⟩
      rcases cand q hhq (by omega) with h | h <;> omega
    · by_cases c2 : p + d ≤ 2000 ∧ hasP xs (p + d) = true
      · refine Or.inl ⟨p + d, ⟨c2.2, fun q hhq => ⟨by rw [dp]; exact hq q hhq, fun e => ?_⟩⟩, hd1 _ (s0 _ (ev_neg c1 (s1 _ (ev_pos c2 (ev_now rfl)))))⟩
        rcases cand q hhq (by omega) with h | h
        · subst h; exact absurd ⟨(hasP_bd hb hhq).1, hhq⟩ c1
        · omega
      · have hq' : ∀ q, hasP xs q = true → d + 1 ≤ dist p q := fun q hhq => by
          have h1 := hq q hhq
          by_cases e : dist p q = d
          · rcases cand q hhq e with h | h
            · subst h; exact absurd ⟨(hasP_bd hb hhq).1, hhq⟩ c1
            · subst h; exact absurd ⟨(hasP_bd hb hhq).2, hhq⟩ c2
          · omega
        rcases ih (d + 1) (by omega) (by omega) hq' with ⟨r, hr, he⟩ | ⟨hn, he⟩
        · exact Or.inl ⟨r, hr, hd1 _ (s0 _ (ev_neg c1 (s1 _ (ev_neg c2 (s2 _ he)))))⟩
        · exact Or.inr ⟨hn, hd1 _ (s0 _ (ev_neg c1 (s1 _ (ev_neg c2 (s2 _ he)))))⟩
theorem near_both (xs : List S32) (p : Int) (hn : xs.length ≤ 1048576) : ∃ r, Ev (fun k => spec_NearestIndexed.f k xs p) r ∧ Ev (fun k => impl_NearestIndexed.f k xs p) r := by
  unfold spec_NearestIndexed.f spec_ixPage.f impl_NearestIndexed.f
  have fall : ∀ b : Bool, b = true → Ev (fun k => spec_NearestIndexed.j0 k xs p b) (0, false) := fun b hb => Ev.step (fun k => spec_NearestIndexed.j0.eq_2 ..) (ev_pos hb (ev_now rfl))
  by_cases h : goodR xs = true
  · have hg := goodR_true h
    by_cases c : 1 ≤ p ∧ p ≤ 2000
    · have hix : Ev (fun k => (spec_ixGood.f k xs).bind fun t123 => (if t123 = true then ((spec_l1In.f p 1 2000).bind fun t124 => (some t124)) else (some false))) true :=
        Ev.bind (ixGood_ev xs hn) (ev_pos h (ev_some (l1In_eq ..) (ev_now (by rw [decide_eq_true c]))))
      have himp : ∀ r : Int × Bool, Ev (fun k => impl_NearestIndexed.l0 k p (markAll xs (List.replicate 2001 false)) 0) r → Ev (fun k => (impl_AreRanges.f k xs).bind fun t1 => (if t1 = true then ((impl_isIndexed.f p).bind fun t2 => (if t2 = true then ((impl_setOf.f k xs).bind fun s => (impl_NearestIndexed.l0 k p s 0)) else (some (0, false)))) else (some (0, false)))) r :=
        fun r hr => Ev.bind (areR_ev xs hn) (ev_pos h (ev_some (isIndexed_eq p) (ev_pos (decide_eq_true c) (Ev.bind (setOf_ev xs hn hg.2.2) hr))))
      rcases hxs : xs with _ | ⟨x, xs'⟩
      · rw [← hxs]
        refine ⟨(0, false), Ev.bind hix (ev_pos rfl (fall _ (by rw [hxs]; rfl))), himp _ ?_⟩
        rcases implNear_l xs hg.2.2 p c 2000 0 (by omega) (by omega) (fun q hq => by unfold dist; split <;> omega) with ⟨r, hr, _⟩ | ⟨_, he⟩
        · have := hr.1
          rw [hxs] at this
          simp [hasP] at this
        · exact he
      · have hx := hg.2.2 x (by rw [hxs]; exact List.mem_cons_self)
        have hh : hasP xs x.f0 = true := by rw [hxs]; exact hasP_head hx
        obtain ⟨r, hr, he⟩ := specNear_l xs hg.2.2 p x.f0 c (fun q hq => by rw [hxs] at hq; exact hasP_first (by rw [← hxs]; exact hg.2.1) hq) 2002 0 x.f0 (by omega) (by omega) hh (Or.inr rfl) (fun q hq hhq => by have := hasP_bd hg.2.2 hhq; omega)
        have hlen : 0 < (xs.length : Int) := by rw [hxs, List.length_cons]; omega
        have h0 : (rd_T32 xs 0).f0 = x.f0 := by rw [hxs]; rfl
        rw [← hxs]
        refine ⟨(r, true), Ev.bind hix (ev_pos rfl (Ev.step (fun k => spec_NearestIndexed.j0.eq_2 ..) (ev_neg (by rw [beq_iff_eq]; omega) (ev_pos hlen (Ev.bind (ixMarks_ev xs hn hg.2.2) ?_))))), himp _ ?_⟩
        · rw [h0, markAll_length, List.length_replicate]; exact he
        · rcases implNear_l xs hg.2.2 p c 2000 0 (by omega) (by omega) (fun q hq => by unfold dist; split <;> omega) with ⟨r', hr', he'⟩ | ⟨hnone, _⟩
          · rw [isNear_one hr hr']; exact he'
          · rw [hnone] at hh; simp at hh
    · refine ⟨(0, false), ?_, ?_⟩
      · exact Ev.bind (Ev.bind (ixGood_ev xs hn) (ev_pos h (ev_some (l1In_eq ..) (ev_now (by rw [decide_eq_false c]))))) (ev_neg (by simp) (fall _ rfl))
      · exact Ev.bind (areR_ev xs hn) (ev_pos h (ev_some (isIndexed_eq p) (ev_neg (by rw [decide_eq_false c]; simp) (ev_now rfl))))
  · refine ⟨(0, false), ?_, ?_⟩
    · exact Ev.bind (Ev.bind (ixGood_ev xs hn) (ev_neg h (ev_now rfl))) (ev_neg (by simp) (fall _ rfl))
    · exact Ev.bind (areR_ev xs hn) (ev_neg h (ev_now rfl))
theorem FnExactNearestIndexed (l : List S50) (p : Int) (hx : l.length ≤ 9223372036854775807) : ∃ k, laws_FnExactNearestIndexed.f k l p = some true := by
  refine Ev.rounds ?_
  unfold laws_FnExactNearestIndexed.f laws_szRangeS.f
  have hm : (l.map toR).length = l.length := List.length_map ..
  rw [w64 (x := 1048576 - (l.length : Int)) (by omega) (by omega)]
  by_cases h : 1048576 - (l.length : Int) < 0
  · rw [if_pos h]
    exact ev_some rfl (ev_pos (by omega) (ev_now rfl))
  · rw [if_neg h]
    refine ev_some rfl (ev_neg h ?_)
    have hl : l.length ≤ 1048576 := by omega
    obtain ⟨r, hs, hi⟩ := near_both (l.map toR) p (by omega)
    refine Ev.bind (toRangeS_ev l hl) (Ev.bind hs (Ev.bind (toRangeS_ev l hl) (Ev.bind hi (ev_pos rfl ?_))))
    refine Ev.step (fun k => laws_FnExactNearestIndexed.j0.eq_2 ..) ?_
    exact ev_neg (by simp) (Ev.bind (toRangeS_ev l hl) (Ev.bind (eqRangeS_ev _ (by omega)) (ev_pos rfl (ev_now rfl))))

end Go.Proofs.Yteolpfmpinbdoaa.Pure
