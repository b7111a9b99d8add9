/- The law FnExactPagesOfRanges holds for every list of ranges: program and reference tell the same pages. No condition. -/
import Derived.Test.YteolpfmpinbdoaaPFnExactPagesOfRangesx6
namespace Go.Proofs.Yteolpfmpinbdoaa.Pure
open Go.RowKit Go.Proofs.Yteolpfmpinbdoaa.PFnExactPagesOfRanges Go.Proofs.YteolpfmpinbdoaaW.PrintWords Go.Proofs.YteolpfmpinbdoaaW.PrintLast

theorem w64 {x : Int} (h1 : -9223372036854775808 ≤ x) (h2 : x ≤ 9223372036854775807) : wrap64 x = x := by
  unfold wrap64; omega
theorem ev_pos {α : Type} {c : Prop} [Decidable c] {f g : Nat → Option α} {r : α} (hc : c) (h : Ev f r) : Ev (fun k => if c then f k else g k) r := by
  simpa only [if_pos hc] using h
theorem ev_neg {α : Type} {c : Prop} [Decidable c] {f g : Nat → Option α} {r : α} (hc : ¬ c) (h : Ev g r) : Ev (fun k => if c then f k else g k) r := by
  simpa only [if_neg hc] using h
theorem ev_now {α : Type} {r s : α} (h : r = s) : Ev (fun _ => some r) s := h ▸ Ev.now r
theorem ev_some {α β : Type} {x : Option α} {f : Nat → α → Option β} {a : α} {r : β} (h : x = some a) (k : Ev (fun n => f n a) r) : Ev (fun n => x.bind (f n)) r := by
  subst h; exact k
theorem ev_val {α : Type} {g : Nat → Option α} {a b : α} (h : Ev g a) (e : a = b) : Ev g b := e ▸ h
theorem ev_suc {α : Type} {g : Nat → Option α} {r : α} (h : Ev (fun k => g (k + 1)) r) : Ev g r := Ev.step (fun _ => rfl) h
theorem drop_nil {α : Type} {xs : List α} {i : Int} (h0 : 0 ≤ i) (h : xs.drop i.toNat = []) : (xs.length : Int) ≤ i := by
  have := List.drop_eq_nil_iff.1 h
  omega
theorem drop_get {α : Type} {xs : List α} {i : Int} {y : α} {ys : List α} (h0 : 0 ≤ i) (h : xs.drop i.toNat = y :: ys) : i < (xs.length : Int) ∧ (∀ d, xs.getD i.toNat d = y) ∧ xs.drop (i + 1).toNat = ys ∧ xs.take (i + 1).toNat = xs.take i.toNat ++ [y] := by
  have hl : i.toNat < xs.length := by
    rcases Nat.lt_or_ge i.toNat xs.length with hl | hl
    · exact hl
    · rw [List.drop_eq_nil_iff.2 hl] at h; cases h
  have e := List.drop_eq_getElem_cons hl
  rw [h] at e
  injection e with e1 e2
  have h1 : (i + 1).toNat = i.toNat + 1 := by omega
  refine ⟨by omega, fun d => ?_, ?_, ?_⟩
  · rw [List.getD_eq_getElem?_getD, List.getElem?_eq_getElem hl, e1]; rfl
  · rw [h1]; exact e2.symm
  · rw [h1, List.take_add_one, List.getElem?_eq_getElem hl, e1]; rfl
theorem drop_cons {xs : List Int} {i : Int} {y : Int} {ys : List Int} (h0 : 0 ≤ i) (h : xs.drop i.toNat = y :: ys) : i < (xs.length : Int) ∧ rd xs i = y ∧ xs.drop (i + 1).toNat = ys ∧ xs.take (i + 1).toNat = xs.take i.toNat ++ [y] := by
  obtain ⟨h1, h2, h3⟩ := drop_get h0 h
  exact ⟨h1, h2 0, h3⟩

def isR (r : S32) : Bool := decide (1 ≤ r.f0 ∧ r.f0 ≤ 2000) && decide (r.f0 ≤ r.f1 ∧ r.f1 ≤ 2000)
/-- What stands behind a range that ends at prev. -/
def tailR : Option Int → List S32 → Bool
  | _, [] => true
  | prev, r :: rs => isR r && ((match prev with | none => true | some p => decide (p + 2 ≤ r.f0)) && tailR (some r.f1) rs)
def goodR (xs : List S32) : Bool := decide (xs.length ≤ 20) && tailR none xs
theorem isR_true {r : S32} (h : isR r = true) : 1 ≤ r.f0 ∧ r.f0 ≤ 2000 ∧ r.f0 ≤ r.f1 ∧ r.f1 ≤ 2000 := by
  simp only [isR, Bool.and_eq_true, decide_eq_true_eq] at h; omega
theorem drop32 {xs : List S32} {i : Int} {y : S32} {ys : List S32} (h0 : 0 ≤ i) (h : xs.drop i.toNat = y :: ys) : i < (xs.length : Int) ∧ rd_T32 xs i = y ∧ xs.drop (i + 1).toNat = ys := by
  obtain ⟨h1, h2, h3, _⟩ := drop_get h0 h
  exact ⟨h1, h2 _, h3⟩

theorem l1In_eq (a lo hi : Int) : spec_l1In.f a lo hi = some (decide (lo ≤ a ∧ a ≤ hi)) := by
  unfold spec_l1In.f
  by_cases h : a ≥ lo
  · rw [if_pos h]; congr 1; simp [show lo ≤ a from h]
  · rw [if_neg h]; congr 1; simp; omega

theorem ixRange_eq (r : S32) : spec_ixRange.f r.f0 r.f1 = some (isR r) := by
  unfold spec_ixRange.f isR
  rw [l1In_eq]
  by_cases h : 1 ≤ r.f0 ∧ r.f0 ≤ 2000
  · rw [decide_eq_true h]; simp only [Option.bind_some, if_true]; rw [l1In_eq]; simp
  · rw [decide_eq_false h]; simp
theorem ixGood_l (xs : List S32) (hn : xs.length ≤ 1048576) : ∀ (ys : List S32) (i : Int) (prev : Option Int), 0 ≤ i → xs.drop i.toNat = ys → (i = 0 → prev = none) → (0 < i → ∃ p, prev = some p ∧ (rd_T32 xs (i - 1)).f1 = p ∧ p ≤ 2000 ∧ 1 ≤ p) →
    Ev (fun k => spec_ixGood.l0 k xs xs (xs.length : Int) i) (tailR prev ys) := by
  intro ys
  induction ys with
  | nil =>
    intro i prev h0 h _ _
    have := drop_nil h0 h
    refine Ev.step (fun k => spec_ixGood.l0.eq_2 ..) ?_
    exact ev_neg (by omega) (ev_now rfl)
  | cons y ys ih =>
    intro i prev h0 h hp0 hp1
    obtain ⟨h1, h2, h3⟩ := drop32 h0 h
    refine Ev.step (fun k => spec_ixGood.l0.eq_2 ..) ?_
    rw [h2, w64 (x := i + 1) (by omega) (by omega)]
    refine ev_pos h1 (ev_pos h0 (ev_pos h1 (ev_some (ixRange_eq y) ?_)))
    by_cases hr : isR y = true
    · refine ev_pos hr ?_
      have hy := isR_true hr
      have hnext : Ev (fun k => spec_ixGood.l0 k xs xs (xs.length : Int) (i + 1)) (tailR (some y.f1) ys) :=
        ih (i + 1) (some y.f1) (by omega) h3 (fun h => by omega) (fun _ => ⟨y.f1, rfl, by rw [show i + 1 - 1 = i from by omega, h2], by omega, by omega⟩)
      by_cases hi : 0 < i
      · obtain ⟨p, rfl, hp, hp2, hp3⟩ := hp1 hi
        refine ev_pos hi ?_
        rw [w64 (x := i - 1) (by omega) (by omega), hp, w64 (x := p + 2) (by omega) (by omega)]
        refine ev_pos (by omega) (ev_pos (by omega) ?_)
        by_cases c : y.f0 < p + 2
        · exact ev_pos c (ev_now (by simp [tailR, hr, show ¬ p + 2 ≤ y.f0 from by omega]))
        · exact ev_neg c (ev_val hnext (by simp [tailR, hr, show p + 2 ≤ y.f0 from by omega]))
      · obtain rfl := hp0 (by omega)
        exact ev_neg hi (ev_val hnext (by simp [tailR, hr]))
    · exact ev_neg hr (ev_now (by simp [tailR, hr]))
theorem ixGood_ev (xs : List S32) (hn : xs.length ≤ 1048576) : Ev (fun k => spec_ixGood.f k xs) (goodR xs) := by
  unfold spec_ixGood.f goodR
  by_cases h : xs.length ≤ 20
  · exact ev_neg (by omega) (ev_val (ixGood_l xs hn xs 0 none (by omega) rfl (fun _ => rfl) (fun h => by omega)) (by simp [h]))
  · exact ev_pos (by omega) (ev_now (by simp [h]))

theorem within_eq (a lo hi : Int) : impl_within.f a lo hi = some (decide (lo ≤ a ∧ a ≤ hi)) := by
  unfold impl_within.f
  by_cases h : a ≥ lo
  · rw [if_pos h]; congr 1; simp [show lo ≤ a from h]
  · rw [if_neg h]; congr 1; simp; omega

theorem isRange_eq (r : S32) : impl_isRange.f r.f0 r.f1 = some (isR r) := by
  unfold impl_isRange.f isR
  rw [within_eq]
  by_cases h : 1 ≤ r.f1 ∧ r.f1 ≤ 2000
  · rw [decide_eq_true h]; simp only [Option.bind_some, if_true]; rw [within_eq]
    simp only [Option.bind_some]; congr 1
    rw [← Bool.decide_and]
    exact decide_eq_decide.2 (by omega)
  · rw [decide_eq_false h]
    simp only [Option.bind_some, Bool.false_eq_true, if_false]; congr 1
    rw [← Bool.decide_and]
    exact (decide_eq_false (by omega)).symm
theorem areR_l (xs : List S32) (hn : xs.length ≤ 1048576) : ∀ (ys : List S32) (i : Int) (prev : Option Int), 0 ≤ i → xs.drop i.toNat = ys → (i = 0 → prev = none) → (0 < i → ∃ p, prev = some p ∧ (rd_T32 xs (i - 1)).f1 = p ∧ p ≤ 2000 ∧ 1 ≤ p) →
    Ev (fun k => impl_AreRanges.l0 k xs xs (xs.length : Int) i) (tailR prev ys && decide (xs.length ≤ 20)) := by
  intro ys
  induction ys with
  | nil =>
    intro i prev h0 h _ _
    have := drop_nil h0 h
    refine Ev.step (fun k => impl_AreRanges.l0.eq_2 ..) ?_
    exact ev_neg (by omega) (ev_now (by simp only [tailR, Bool.true_and]; exact decide_eq_decide.2 (by omega)))
  | cons y ys ih =>
    intro i prev h0 h hp0 hp1
    obtain ⟨h1, h2, h3⟩ := drop32 h0 h
    refine Ev.step (fun k => impl_AreRanges.l0.eq_2 ..) ?_
    rw [h2, w64 (x := i + 1) (by omega) (by omega)]
    refine ev_pos h1 (ev_pos h0 (ev_pos h1 (ev_some (isRange_eq y) ?_)))
    by_cases hr : isR y = true
    · refine ev_pos hr ?_
      have hy := isR_true hr
      have hnext : Ev (fun k => impl_AreRanges.l0 k xs xs (xs.length : Int) (i + 1)) (tailR (some y.f1) ys && decide (xs.length ≤ 20)) :=
        ih (i + 1) (some y.f1) (by omega) h3 (fun h => by omega) (fun _ => ⟨y.f1, rfl, by rw [show i + 1 - 1 = i from by omega, h2], by omega, by omega⟩)
      by_cases hi : 0 < i
      · obtain ⟨p, rfl, hp, hp2, hp3⟩ := hp1 hi
        refine ev_pos hi ?_
        rw [w64 (x := i - 1) (by omega) (by omega), hp, w64 (x := p + 2) (by omega) (by omega)]
        refine ev_pos (by omega) (ev_pos (by omega) ?_)
        by_cases c : y.f0 < p + 2
        · exact ev_pos c (ev_now (by simp [tailR, hr, show ¬ p + 2 ≤ y.f0 from by omega]))
        · exact ev_neg c (ev_val hnext (by simp [tailR, hr, show p + 2 ≤ y.f0 from by omega]))
      · obtain rfl := hp0 (by omega)
        exact ev_neg hi (ev_val hnext (by simp [tailR, hr]))
    · exact ev_neg hr (ev_now (by simp [tailR, hr]))
theorem areR_ev (xs : List S32) (hn : xs.length ≤ 1048576) : Ev (fun k => impl_AreRanges.f k xs) (goodR xs) := by
  unfold impl_AreRanges.f goodR
  exact ev_val (areR_l xs hn xs 0 none (by omega) rfl (fun _ => rfl) (fun h => by omega)) (Bool.and_comm _ _)

theorem tailR_mem : ∀ (xs : List S32) (prev : Option Int), tailR prev xs = true → ∀ r ∈ xs, isR r = true
  | [], _, _, r, hr => by simp at hr
  | x :: xs, prev, h, r, hr => by
    simp only [tailR, Bool.and_eq_true] at h
    rcases List.mem_cons.1 hr with rfl | hr
    · exact h.1
    · exact tailR_mem xs (some x.f1) h.2.2 r hr
theorem goodR_true {xs : List S32} (h : goodR xs = true) : xs.length ≤ 20 ∧ tailR none xs = true ∧ ∀ r ∈ xs, isR r = true := by
  simp only [goodR, Bool.and_eq_true, decide_eq_true_eq] at h
  exact ⟨h.1, h.2, tailR_mem xs none h.2⟩

def setN : Nat → Nat → List Bool → List Bool
  | 0, _, ss => ss
  | d + 1, p, ss => setN d (p + 1) (ss.set p true)
theorem setN_length : ∀ (d p : Nat) (ss : List Bool), (setN d p ss).length = ss.length
  | 0, _, _ => rfl
  | d + 1, p, ss => by rw [setN, setN_length d, List.length_set]
theorem setN_get : ∀ (d p : Nat) (ss : List Bool) (q : Nat), p + d ≤ ss.length → (setN d p ss).getD q false = (decide (p ≤ q ∧ q < p + d) || ss.getD q false)
  | 0, p, ss, q, _ => by rw [setN, decide_eq_false (by omega), Bool.false_or]
  | d + 1, p, ss, q, h => by
    rw [setN, setN_get d (p + 1) _ q (by rw [List.length_set]; omega)]
    by_cases c : q = p
    · subst c
      have : (ss.set q true).getD q false = true := by rw [List.getD_eq_getElem?_getD, List.getElem?_set_self (by omega)]; rfl
      rw [this, Bool.or_true, decide_eq_true (by omega), Bool.true_or]
    · have : (ss.set p true).getD q false = ss.getD q false := by rw [List.getD_eq_getElem?_getD, List.getElem?_set_ne (by omega), List.getD_eq_getElem?_getD]
      rw [this]
      congr 1
      exact decide_eq_decide.2 (by omega)
def markAll : List S32 → List Bool → List Bool
  | [], ss => ss
  | r :: rs, ss => markAll rs (setN (r.f1 - r.f0 + 1).toNat r.f0.toNat ss)
theorem markAll_length : ∀ (rs : List S32) (ss : List Bool), (markAll rs ss).length = ss.length
  | [], _ => rfl
  | r :: rs, ss => by rw [markAll, markAll_length rs, setN_length]
/-- Have these ranges the page? -/
def hasP (rs : List S32) (p : Int) : Bool := rs.any fun r => decide (r.f0 ≤ p ∧ p ≤ r.f1)
theorem markAll_get : ∀ (rs : List S32) (ss : List Bool) (q : Nat), (∀ r ∈ rs, isR r = true) → 2001 ≤ ss.length → (markAll rs ss).getD q false = (hasP rs q || ss.getD q false)
  | [], ss, q, _, _ => by simp [markAll, hasP]
  | r :: rs, ss, q, h, hl => by
    have hr := isR_true (h r List.mem_cons_self)
    rw [markAll, markAll_get rs _ q (fun x hx => h x (List.mem_cons_of_mem _ hx)) (by rw [setN_length]; omega), setN_get _ _ _ _ (by omega)]
    have e : decide (r.f0.toNat ≤ q ∧ q < r.f0.toNat + (r.f1 - r.f0 + 1).toNat) = decide (r.f0 ≤ (q : Int) ∧ (q : Int) ≤ r.f1) := decide_eq_decide.2 (by omega)
    have e2 : hasP (r :: rs) (q : Int) = (decide (r.f0 ≤ (q : Int) ∧ (q : Int) ≤ r.f1) || hasP rs q) := List.any_cons
    rw [e, e2]
    cases hasP rs q <;> cases decide (r.f0 ≤ (q : Int) ∧ (q : Int) ≤ r.f1) <;> rfl
theorem markAll_has (rs : List S32) (n : Nat) (q : Int) (h : ∀ r ∈ rs, isR r = true) (hn : 2001 ≤ n) (hq : 0 ≤ q) : rdOf false (markAll rs (List.replicate n false)) q = hasP rs q := by
  have e := markAll_get rs (List.replicate n false) q.toNat h (by rw [List.length_replicate]; exact hn)
  have e2 : (List.replicate n false).getD q.toNat false = false := by
    rw [List.getD_eq_getElem?_getD, List.getElem?_replicate]; split <;> rfl
  rw [e2, Bool.or_false, Int.toNat_of_nonneg hq] at e
  exact e

theorem setOf_l1 (xs : List S32) (i a b : Int) (hab : b ≤ 2000) (r : List Bool) : ∀ (d : Nat) (p : Nat) (ss : List Bool), (p : Int) + d = b + 1 → 2001 ≤ ss.length →
    Ev (fun k => impl_setOf.l0 k (setN d p ss) xs (xs.length : Int) (wrap64 (i + 1))) r → Ev (fun k => impl_setOf.l1 k ss (p : Int) xs (xs.length : Int) i a b) r := by
  intro d
  induction d with
  | zero =>
    intro p ss hp hl hr
    refine Ev.step (fun k => impl_setOf.l1.eq_2 ..) ?_
    exact ev_neg (by omega) hr
  | succ d ih =>
    intro p ss hp hl hr
    refine Ev.step (fun k => impl_setOf.l1.eq_2 ..) ?_
    rw [w64 (x := (p : Int) + 1) (by omega) (by omega), show (p : Int) + 1 = ((p + 1 : Nat) : Int) from by omega, Int.toNat_natCast]
    exact ev_pos (by omega) (ev_pos (by omega) (ev_pos (by omega) (ih (p + 1) _ (by omega) (by rw [List.length_set]; exact hl) hr)))
theorem setOf_l (xs : List S32) (hn : xs.length ≤ 1048576) (hb : ∀ r ∈ xs, isR r = true) : ∀ (ys : List S32) (i : Int) (ss : List Bool), 0 ≤ i → xs.drop i.toNat = ys → 2001 ≤ ss.length →
    Ev (fun k => impl_setOf.l0 k ss xs (xs.length : Int) i) (markAll ys ss) := by
  intro ys
  induction ys with
  | nil =>
    intro i ss h0 h _
    have := drop_nil h0 h
    refine Ev.step (fun k => impl_setOf.l0.eq_2 ..) ?_
    exact ev_neg (by omega) (ev_now rfl)
  | cons y ys ih =>
    intro i ss h0 h hl
    obtain ⟨h1, h2, h3⟩ := drop32 h0 h
    have hy := isR_true (hb y (List.mem_of_mem_drop (by rw [h]; exact List.mem_cons_self)))
    refine Ev.step (fun k => impl_setOf.l0.eq_2 ..) ?_
    rw [h2]
    refine ev_pos h1 (ev_pos h0 (ev_pos h1 ?_))
    have e : y.f0 = ((y.f0.toNat : Nat) : Int) := by omega
    have hh := setOf_l1 xs i y.f0 y.f1 hy.2.2.2 (markAll (y :: ys) ss) (y.f1 - y.f0 + 1).toNat y.f0.toNat ss (by omega) hl (by
      rw [w64 (x := i + 1) (by omega) (by omega), markAll]
      exact ih (i + 1) _ (by omega) h3 (by rw [setN_length]; exact hl))
    rw [← e] at hh
    exact hh
theorem setOf_ev (xs : List S32) (hn : xs.length ≤ 1048576) (hb : ∀ r ∈ xs, isR r = true) : Ev (fun k => impl_setOf.f k xs) (markAll xs (List.replicate 2001 false)) := by
  unfold impl_setOf.f
  exact setOf_l xs hn hb xs 0 _ (by omega) rfl (by rw [List.length_replicate]; omega)

def toR (r : S50) : S32 := ⟨r.f0, r.f1⟩
theorem toRangeS_l (xs : List S50) (hn : xs.length < 4611686018427387904) : ∀ (ys : List S50) (i : Int) (zs : List S32), 0 ≤ i → xs.drop i.toNat = ys → zs.length = ys.length →
    Ev (fun k => laws_toRangeS.l0 k xs ((xs.take i.toNat).map toR ++ zs) i) (xs.map toR) := by
  intro ys
  induction ys with
  | nil =>
    intro i zs h0 h hz
    have := drop_nil h0 h
    refine Ev.step (fun k => laws_toRangeS.l0.eq_2 ..) ?_
    have hz : zs = [] := List.eq_nil_of_length_eq_zero hz
    refine ev_neg (by omega) (ev_now ?_)
    rw [hz, List.append_nil, List.take_of_length_le (by omega)]
  | cons y ys ih =>
    intro i zs h0 h hz
    obtain ⟨h1, h2', h3, h4⟩ := drop_get h0 h
    have h2 : rd_T50 xs i = y := h2' _
    obtain ⟨z, zs, rfl⟩ : ∃ z zs', zs = z :: zs' := List.exists_cons_of_length_eq_add_one hz
    have hl : ((xs.take i.toNat).map toR).length = i.toNat := by rw [List.length_map, List.length_take]; omega
    refine Ev.step (fun k => laws_toRangeS.l0.eq_2 ..) ?_
    refine ev_pos h1 (ev_pos h0 ?_)
    unfold laws_toRange.f
    refine ev_some rfl (ev_pos (by rw [List.length_append, hl, List.length_cons]; omega) ?_)
    rw [h2, w64 (by omega) (by omega)]
    have e : ((xs.take i.toNat).map toR ++ z :: zs).set i.toNat (⟨y.f0, y.f1⟩ : S32) = (xs.take (i + 1).toNat).map toR ++ zs := by
      rw [h4, List.map_append, List.set_append_right _ _ (by omega), hl, Nat.sub_self, List.set_cons_zero, List.append_assoc]; rfl
    rw [e]
    exact ih (i + 1) zs (by omega) h3 (by simpa using hz)
theorem toRangeS_ev (xs : List S50) (hn : xs.length ≤ 1048576) : Ev (fun k => laws_toRangeS.f k xs) (xs.map toR) := by
  unfold laws_toRangeS.f
  refine ev_pos (by omega) (ev_pos (by omega) ?_)
  exact toRangeS_l xs (by omega) xs 0 _ (by omega) rfl (by simp)

theorem eqRangeS_l (xs : List S32) (hn : xs.length < 4611686018427387904) : ∀ (ys : List S32) (i : Int), 0 ≤ i → xs.drop i.toNat = ys →
    Ev (fun k => laws_eqRangeS.l0 k xs xs i) true := by
  intro ys
  induction ys with
  | nil =>
    intro i h0 h
    have := drop_nil h0 h
    refine Ev.step (fun k => laws_eqRangeS.l0.eq_2 ..) ?_
    exact ev_neg (by omega) (ev_now rfl)
  | cons y ys ih =>
    intro i h0 h
    obtain ⟨h1, h2, h3, _⟩ := drop_get h0 h
    refine Ev.step (fun k => laws_eqRangeS.l0.eq_2 ..) ?_
    have e : ∀ r : S32, laws_eqRange.f r.f0 r.f1 r.f0 r.f1 = some true := fun r => by unfold laws_eqRange.f; simp
    refine ev_pos h1 (ev_pos h0 (ev_pos h1 (ev_some (e _) (ev_pos rfl ?_))))
    rw [w64 (by omega) (by omega)]
    exact ih _ (by omega) h3
theorem eqRangeS_ev (xs : List S32) (hn : xs.length < 4611686018427387904) : Ev (fun k => laws_eqRangeS.f k xs xs) true := by
  unfold laws_eqRangeS.f
  exact ev_pos rfl (eqRangeS_l xs hn xs 0 (by omega) rfl)

/-- What a list of ranges reads as behind the marking. -/
def marksR (n : Nat) : List S32 := (List.range n).map (fun i : Nat => (⟨1 + 2 * (i : Int), 1 + 2 * (i : Int) + 1⟩ : S32))
theorem marksR_length (n : Nat) : (marksR n).length = n := by simp [marksR]
theorem marksR_succ (n : Nat) : marksR (n + 1) = marksR n ++ [(⟨1 + 2 * (n : Int), 1 + 2 * (n : Int) + 1⟩ : S32)] := by simp [marksR, List.range_succ]
theorem set_midR (us : List S32) (y v : S32) (ys : List S32) (i : Nat) (h : us.length = i) : (us ++ y :: ys).set (i : Int).toNat v = us ++ v :: ys := by
  rw [Int.toNat_natCast, List.set_append_right _ _ (by omega), h, Nat.sub_self, List.set_cons_zero]
theorem rd_midR (us : List S32) (y : S32) (ys : List S32) (i : Nat) (h : us.length = i) : rd_T32 (us ++ y :: ys) (i : Int) = y := by
  show (us ++ y :: ys).getD (i : Int).toNat _ = y
  rw [Int.toNat_natCast, List.getD_eq_getElem?_getD, List.getElem?_append_right (by omega), h, Nat.sub_self]; rfl

theorem markRangeS_l (n : Nat) (hn : n < 268435456) : ∀ (ys : List S32) (i : Nat), i + ys.length = n →
    Ev (fun k => laws_markRangeS.l0 k (marksR i ++ ys) (1 + 2 * (i : Int)) (i : Int)) ((1 : Int) + 2 * n, marksR n) := by
  intro ys
  induction ys with
  | nil =>
    intro i h
    refine Ev.step (fun k => laws_markRangeS.l0.eq_2 ..) ?_
    simp at h
    subst h
    exact ev_neg (by simp [marksR_length]) (ev_now (by simp))
  | cons y ys ih =>
    intro i h
    simp at h
    have hl := marksR_length i
    refine Ev.step (fun k => laws_markRangeS.l0.eq_2 ..) ?_
    refine ev_pos (by simp [marksR_length]; omega) (ev_pos (by omega) (ev_some rfl ?_))
    rw [rd_midR _ _ _ _ hl, set_midR _ _ _ _ _ hl, rd_midR _ _ _ _ hl, set_midR _ _ _ _ _ hl]
    rw [w64 (x := 1 + 2 * (i : Int) + 1) (by omega) (by omega), w64 (x := 1 + 2 * (i : Int) + 1 + 1) (by omega) (by omega), w64 (x := (i : Int) + 1) (by omega) (by omega)]
    have h2 := ih (i + 1) (by omega)
    have e2 : (1 : Int) + 2 * ((i + 1 : Nat) : Int) = 1 + 2 * (i : Int) + 1 + 1 := by omega
    have e3 : ((i + 1 : Nat) : Int) = (i : Int) + 1 := by omega
    have e4 : marksR (i + 1) ++ ys = marksR i ++ (⟨1 + 2 * (i : Int), 1 + 2 * (i : Int) + 1⟩ : S32) :: ys := by rw [marksR_succ, List.append_assoc]; rfl
    rw [e2, e3, e4] at h2
    exact h2
theorem markRangeS_ev (xs : List S32) (hn : xs.length < 268435456) : Ev (fun k => laws_markRangeS.f k xs 1) ((1 : Int) + 2 * xs.length, marksR xs.length) := markRangeS_l xs.length hn xs 0 (by omega)

theorem eqIntS_l (xs : List Int) (hn : xs.length < 4611686018427387904) : ∀ (ys : List Int) (i : Int), 0 ≤ i → xs.drop i.toNat = ys →
    Ev (fun k => laws_eqIntS.l0 k xs xs i) true := by
  intro ys
  induction ys with
  | nil =>
    intro i h0 h
    have := drop_nil h0 h
    refine Ev.step (fun k => laws_eqIntS.l0.eq_2 ..) ?_
    exact ev_neg (by omega) (ev_now rfl)
  | cons y ys ih =>
    intro i h0 h
    obtain ⟨h1, h2, h3, _⟩ := drop_cons h0 h
    refine Ev.step (fun k => laws_eqIntS.l0.eq_2 ..) ?_
    refine ev_pos h1 (ev_pos h0 (ev_pos h1 (ev_pos rfl ?_)))
    rw [w64 (by omega) (by omega)]
    exact ih _ (by omega) h3
theorem eqIntS_ev (xs : List Int) (hn : xs.length < 4611686018427387904) : Ev (fun k => laws_eqIntS.f k xs xs) true := by
  unfold laws_eqIntS.f
  exact ev_pos rfl (eqIntS_l xs hn xs 0 (by omega) rfl)

/-- What a list reads as behind the marking. -/
def marks (n : Nat) : List Int := (List.range n).map (fun i : Nat => (1 : Int) + i)
theorem marks_length (n : Nat) : (marks n).length = n := by simp [marks]
theorem marks_succ (n : Nat) : marks (n + 1) = marks n ++ [(1 : Int) + n] := by simp [marks, List.range_succ]
/-- A list whose first x elements are marked. -/
def marked (l : List Int) (x : Nat) : List Int := marks x ++ l.drop x
theorem marked_zero (l : List Int) : marked l 0 = l := by simp [marked, marks]
theorem marked_length (l : List Int) (x : Nat) (h : x ≤ l.length) : (marked l x).length = l.length := by simp [marked, marks_length]; omega
theorem marked_all (l : List Int) (x : Nat) (h : l.length ≤ x) (h2 : x ≤ l.length) : marked l x = marks l.length := by
  have e : x = l.length := by omega
  subst e
  simp [marked]
theorem marked_set (l : List Int) (x : Nat) (h : x < l.length) : (marked l x).set x (1 + (x : Int)) = marked l (x + 1) := by
  unfold marked
  rw [List.set_append_right _ _ (by rw [marks_length]; exact Nat.le_refl _), marks_length, Nat.sub_self, List.drop_eq_getElem_cons h, List.set_cons_zero, marks_succ, List.append_assoc]
  rfl

theorem markIntS_l (n : Nat) (hn : n < 1073741824) : ∀ (ys : List Int) (i : Nat), i + ys.length = n →
    Ev (fun k => laws_markIntS.l0 k (marks i ++ ys) (1 + (i : Int)) (i : Int)) ((1 : Int) + n, marks n) := by
  intro ys
  induction ys with
  | nil =>
    intro i h
    refine Ev.step (fun k => laws_markIntS.l0.eq_2 ..) ?_
    simp at h
    subst h
    exact ev_neg (by simp [marks_length]) (ev_now (by simp))
  | cons y ys ih =>
    intro i h
    simp at h
    refine Ev.step (fun k => laws_markIntS.l0.eq_2 ..) ?_
    refine ev_pos (by simp [marks_length]; omega) (ev_pos (by omega) ?_)
    rw [w64 (by omega) (by omega), w64 (by omega) (by omega)]
    have e : (marks i ++ y :: ys).set (i : Int).toNat (1 + (i : Int)) = marks (i + 1) ++ ys := by
      rw [marks_succ, Int.toNat_natCast, List.set_append_right _ _ (by rw [marks_length]; exact Nat.le_refl _), marks_length, Nat.sub_self, List.set_cons_zero, List.append_assoc]; rfl
    rw [e]
    have h2 := ih (i + 1) (by omega)
    have e2 : (1 : Int) + ((i + 1 : Nat) : Int) = 1 + (i : Int) + 1 := by omega
    have e3 : ((i + 1 : Nat) : Int) = (i : Int) + 1 := by omega
    rw [e2, e3] at h2
    exact h2
theorem markIntS_ev (xs : List Int) (hn : xs.length < 1073741824) : Ev (fun k => laws_markIntS.f k xs 1) ((1 : Int) + xs.length, marks xs.length) := markIntS_l xs.length hn xs 0 (by omega)

theorem heldIntS_l (n : Nat) (hn : n < 1073741824) : ∀ (m i : Nat), i + m = n →
    Ev (fun k => laws_heldIntS.l0 k (marks n) (1 + (i : Int)) (i : Int)) ((1 : Int) + n) := by
  intro m
  induction m with
  | zero =>
    intro i h
    refine Ev.step (fun k => laws_heldIntS.l0.eq_2 ..) ?_
    exact ev_neg (by rw [marks_length]; omega) (ev_now (by omega))
  | succ m ih =>
    intro i h
    refine Ev.step (fun k => laws_heldIntS.l0.eq_2 ..) ?_
    have hr : rd (marks n) (i : Int) = 1 + (i : Int) := by
      simp [rd, marks, List.getD_eq_getElem?_getD, List.getElem?_range (show i < n by omega)]
    refine ev_pos (by rw [marks_length]; omega) (ev_pos (by omega) (ev_pos hr ?_))
    rw [w64 (by omega) (by omega), w64 (by omega) (by omega)]
    have h2 := ih (i + 1) (by omega)
    have e2 : (1 : Int) + ((i + 1 : Nat) : Int) = 1 + (i : Int) + 1 := by omega
    have e3 : ((i + 1 : Nat) : Int) = (i : Int) + 1 := by omega
    rw [e2, e3] at h2
    exact h2
theorem heldIntS_ev (n : Nat) (hn : n < 1073741824) : Ev (fun k => laws_heldIntS.f k (marks n) 1) ((1 : Int) + n) := heldIntS_l n hn n 0 (by omega)

def runL : Nat → Int → List Int
  | 0, _ => []
  | d + 1, p => p :: runL d (p + 1)
theorem runL_length : ∀ (d : Nat) (p : Int), (runL d p).length = d
  | 0, _ => rfl
  | d + 1, p => by rw [runL, List.length_cons, runL_length d]
def pagesL : List S32 → List Int
  | [] => []
  | r :: rs => runL (r.f1 - r.f0 + 1).toNat r.f0 ++ pagesL rs
def scanL (f : Int → Bool) : Nat → Int → List Int
  | 0, _ => []
  | d + 1, p => if f p = true then p :: scanL f d (p + 1) else scanL f d (p + 1)
theorem scanL_length (f : Int → Bool) : ∀ (d : Nat) (p : Int), (scanL f d p).length ≤ d
  | 0, _ => by simp [scanL]
  | d + 1, p => by
    have := scanL_length f d (p + 1)
    rw [scanL]
    split
    · simp only [List.length_cons]; omega
    · omega
theorem scanL_add (f : Int → Bool) : ∀ (a b : Nat) (p : Int), scanL f (a + b) p = scanL f a p ++ scanL f b (p + a)
  | 0, b, p => by simp [scanL]
  | a + 1, b, p => by
    rw [show a + 1 + b = (a + b) + 1 from by omega, scanL, scanL, scanL_add f a b (p + 1), show p + 1 + (a : Int) = p + ((a + 1 : Nat) : Int) from by omega]
    split <;> rfl
theorem scanL_none (f : Int → Bool) : ∀ (d : Nat) (p : Int), (∀ q, p ≤ q → q < p + d → f q = false) → scanL f d p = []
  | 0, _, _ => rfl
  | d + 1, p, h => by
    rw [scanL, if_neg (by rw [h p (by omega) (by omega)]; simp), scanL_none f d (p + 1) (fun q h1 h2 => h q (by omega) (by omega))]
theorem scanL_all (f : Int → Bool) : ∀ (d : Nat) (p : Int), (∀ q, p ≤ q → q < p + d → f q = true) → scanL f d p = runL d p
  | 0, _, _ => rfl
  | d + 1, p, h => by
    rw [scanL, if_pos (h p (by omega) (by omega)), scanL_all f d (p + 1) (fun q h1 h2 => h q (by omega) (by omega)), runL]
theorem scanL_congr (f g : Int → Bool) : ∀ (d : Nat) (p : Int), (∀ q, p ≤ q → q < p + d → f q = g q) → scanL f d p = scanL g d p
  | 0, _, _ => rfl
  | d + 1, p, h => by
    rw [scanL, scanL, h p (by omega) (by omega), scanL_congr f g d (p + 1) (fun q h1 h2 => h q (by omega) (by omega))]
theorem tailR_from : ∀ (xs : List S32) (p : Int), tailR (some p) xs = true → ∀ r ∈ xs, p + 2 ≤ r.f0
  | [], _, _, r, hr => by simp at hr
  | x :: xs, p, h, r, hr => by
    simp only [tailR, Bool.and_eq_true, decide_eq_true_eq] at h
    have hx := isR_true h.1
    rcases List.mem_cons.1 hr with rfl | hr
    · exact h.2.1
    · have := tailR_from xs x.f1 h.2.2 r hr; omega
theorem hasP_false (xs : List S32) (q : Int) (h : ∀ r ∈ xs, q < r.f0) : hasP xs q = false := by
  rw [hasP, List.any_eq_false]
  intro r hr
  have := h r hr
  simp; omega
theorem hasP_cons (x : S32) (xs : List S32) (q : Int) : hasP (x :: xs) q = (decide (x.f0 ≤ q ∧ q ≤ x.f1) || hasP xs q) := List.any_cons
theorem scan_pages : ∀ (xs : List S32) (prev : Option Int) (d : Nat) (p : Int), tailR prev xs = true → p + d = 2001 → (∀ r ∈ xs, p ≤ r.f0) → scanL (hasP xs) d p = pagesL xs
  | [], _, d, p, _, _, _ => by rw [pagesL]; exact scanL_none _ _ _ (fun q _ _ => rfl)
  | x :: xs, prev, d, p, h, hd, hp => by
    have ht : isR x = true ∧ tailR (some x.f1) xs = true := by simp only [tailR, Bool.and_eq_true] at h; exact ⟨h.1, h.2.2⟩
    have hx := isR_true ht.1
    have hf := tailR_from xs x.f1 ht.2
    have hpx := hp x List.mem_cons_self
    rw [show d = (x.f0 - p).toNat + ((x.f1 - x.f0 + 1).toNat + (2001 - x.f1 - 1).toNat) from by omega, scanL_add, scanL_add, pagesL,
      show p + ((x.f0 - p).toNat : Int) = x.f0 from by omega, show x.f0 + ((x.f1 - x.f0 + 1).toNat : Int) = x.f1 + 1 from by omega]
    have e1 : scanL (hasP (x :: xs)) (x.f0 - p).toNat p = [] := scanL_none _ _ _ (fun q h1 h2 => hasP_false _ _ (fun r hr => by
      rcases List.mem_cons.1 hr with rfl | hr
      · omega
      · have := hf r hr; omega))
    have e2 : scanL (hasP (x :: xs)) (x.f1 - x.f0 + 1).toNat x.f0 = runL (x.f1 - x.f0 + 1).toNat x.f0 := scanL_all _ _ _ (fun q h1 h2 => by
      rw [hasP_cons, decide_eq_true (by omega), Bool.true_or])
    have e3 : scanL (hasP (x :: xs)) (2001 - x.f1 - 1).toNat (x.f1 + 1) = pagesL xs := by
      rw [scanL_congr (hasP (x :: xs)) (hasP xs) _ _ (fun q h1 h2 => by rw [hasP_cons, decide_eq_false (by omega), Bool.false_or])]
      exact scan_pages xs (some x.f1) _ _ ht.2 (by omega) (fun r hr => by have := hf r hr; omega)
    rw [e1, e2, e3, List.nil_append]
theorem specPages_l1 (xs : List S32) (i a b : Int) (hab : b ≤ 2000) (r : List Int × Bool) : ∀ (d : Nat) (p : Int) (out : List Int), p + d = b + 1 → 1 ≤ p → out.length + d ≤ 1000000 →
    Ev (fun k => spec_PagesOfRanges.l0 k (out ++ runL d p) xs (xs.length : Int) (wrap64 (i + 1))) r → Ev (fun k => spec_PagesOfRanges.l1 k out p xs (xs.length : Int) i a b) r := by
  intro d
  induction d with
  | zero =>
    intro p out hp h1 hl hr
    refine Ev.step (fun k => spec_PagesOfRanges.l1.eq_2 ..) ?_
    exact ev_neg (by omega) (by simpa [runL] using hr)
  | succ d ih =>
    intro p out hp h1 hl hr
    refine Ev.step (fun k => spec_PagesOfRanges.l1.eq_2 ..) ?_
    rw [w64 (x := p + 1) (by omega) (by omega)]
    refine ev_pos (by omega) (ev_pos (by omega) (ih (p + 1) _ (by omega) (by omega) (by simp only [List.length_append, List.length_cons, List.length_nil]; omega) ?_))
    have e : out ++ [p] ++ runL d (p + 1) = out ++ runL (d + 1) p := by rw [runL]; simp
    rw [e]; exact hr
theorem specPages_l (xs : List S32) (hn : xs.length ≤ 1048576) (hb : ∀ r ∈ xs, isR r = true) : ∀ (ys : List S32) (i : Int) (out : List Int), 0 ≤ i → xs.drop i.toNat = ys → out.length + 2001 * ys.length ≤ 1000000 →
    Ev (fun k => spec_PagesOfRanges.l0 k out xs (xs.length : Int) i) (out ++ pagesL ys, true) := by
  intro ys
  induction ys with
  | nil =>
    intro i out h0 h _
    have := drop_nil h0 h
    refine Ev.step (fun k => spec_PagesOfRanges.l0.eq_2 ..) ?_
    exact ev_neg (by omega) (ev_now (by simp [pagesL]))
  | cons y ys ih =>
    intro i out h0 h hl
    obtain ⟨h1, h2, h3⟩ := drop32 h0 h
    have hy := isR_true (hb y (List.mem_of_mem_drop (by rw [h]; exact List.mem_cons_self)))
    simp only [List.length_cons] at hl
    refine Ev.step (fun k => spec_PagesOfRanges.l0.eq_2 ..) ?_
    rw [h2]
    refine ev_pos h1 (ev_pos h0 (ev_pos h1 (specPages_l1 xs i y.f0 y.f1 (by omega) _ (y.f1 - y.f0 + 1).toNat y.f0 out (by omega) (by omega) (by omega) ?_)))
    rw [w64 (x := i + 1) (by omega) (by omega)]
    refine ev_val (ih (i + 1) _ (by omega) h3 (by rw [List.length_append, runL_length]; omega)) ?_
    rw [pagesL, List.append_assoc]
theorem implPages_l (s : List Bool) : ∀ (d : Nat) (i : Int) (out : List Int), 0 ≤ i → i + d = 2001 → out.length + d ≤ 1000000 →
    Ev (fun k => impl_PagesOfRanges.l0 k out s i) (out ++ scanL (fun q => rdOf false s q) d i, true) := by
  intro d
  induction d with
  | zero =>
    intro i out h0 h _
    refine Ev.step (fun k => impl_PagesOfRanges.l0.eq_2 ..) ?_
    exact ev_neg (by omega) (ev_now (by simp [scanL]))
  | succ d ih =>
    intro i out h0 h hl
    refine Ev.step (fun k => impl_PagesOfRanges.l0.eq_2 ..) ?_
    rw [w64 (x := i + 1) (by omega) (by omega)]
    refine ev_pos (by omega) (ev_pos h0 ?_)
    by_cases c : rdOf false s i = true
    · refine ev_pos c (ev_pos (by omega) (ev_val (ih (i + 1) _ (by omega) (by omega) (by simp only [List.length_append, List.length_cons, List.length_nil]; omega)) ?_))
      simp [scanL, c]
    · refine ev_neg c (ev_val (ih (i + 1) _ (by omega) (by omega) (by omega)) ?_)
      simp [scanL, c]
def pagesM (xs : List S32) : List Int × Bool := if goodR xs = true then (pagesL xs, true) else ([], false)
theorem scan_good (xs : List S32) (h : goodR xs = true) : scanL (hasP xs) 2001 0 = pagesL xs := by
  have hg := goodR_true h
  exact scan_pages xs none 2001 0 hg.2.1 (by omega) (fun r hr => by have := isR_true (hg.2.2 r hr); omega)
theorem pagesM_small (xs : List S32) : (pagesM xs).1.length ≤ 10000 := by
  unfold pagesM
  split
  · rename_i h
    rw [← scan_good xs h]
    have := scanL_length (hasP xs) 2001 0
    show (scanL (hasP xs) 2001 0).length ≤ 10000
    omega
  · simp
theorem specPages_ev (xs : List S32) (hn : xs.length ≤ 1048576) : Ev (fun k => spec_PagesOfRanges.f k xs) (pagesM xs) := by
  unfold spec_PagesOfRanges.f pagesM
  refine Ev.bind (ixGood_ev xs hn) ?_
  by_cases h : goodR xs = true
  · have hg := goodR_true h
    rw [if_pos h]
    exact ev_pos h (specPages_l xs hn hg.2.2 xs 0 [] (by omega) rfl (by simp only [List.length_nil]; omega))
  · rw [if_neg h]
    exact ev_neg h (ev_now rfl)
theorem implPages_ev (xs : List S32) (hn : xs.length ≤ 1048576) : Ev (fun k => impl_PagesOfRanges.f k xs) (pagesM xs) := by
  unfold impl_PagesOfRanges.f pagesM
  refine Ev.bind (areR_ev xs hn) ?_
  by_cases h : goodR xs = true
  · have hg := goodR_true h
    rw [if_pos h]
    refine ev_pos h (Ev.bind (setOf_ev xs hn hg.2.2) (ev_val (implPages_l _ 2001 0 [] (by omega) (by omega) (by simp only [List.length_nil]; omega)) ?_))
    rw [List.nil_append, ← scan_good xs h]
    congr 1
    exact scanL_congr _ _ _ _ (fun q h1 h2 => markAll_has xs 2001 q hg.2.2 (by omega) (by omega))
  · rw [if_neg h]
    exact ev_neg h (ev_now rfl)
theorem FnExactPagesOfRanges (l : List S50) (hx : l.length ≤ 9223372036854775807) : ∃ k, laws_FnExactPagesOfRanges.f k l = some true := by
  refine Ev.rounds ?_
  unfold laws_FnExactPagesOfRanges.f laws_szRangeS.f
  have hm : (l.map toR).length = l.length := List.length_map ..
  rw [w64 (x := 1048576 - (l.length : Int)) (by omega) (by omega)]
  by_cases h : 1048576 - (l.length : Int) < 0
  · rw [if_pos h]
    exact ev_some rfl (ev_pos (by omega) (ev_now rfl))
  · rw [if_neg h]
    refine ev_some rfl (ev_neg h ?_)
    have hl : l.length ≤ 1048576 := by omega
    have hs := specPages_ev (l.map toR) (by omega)
    have hi := implPages_ev (l.map toR) (by omega)
    have hW := pagesM_small (l.map toR)
    generalize pagesM (l.map toR) = r at hs hi hW
    refine Ev.bind (toRangeS_ev l hl) (Ev.bind hs (Ev.bind (toRangeS_ev l hl) (Ev.bind hi (Ev.bind (eqIntS_ev r.1 (by omega)) (ev_pos rfl ?_)))))
    refine Ev.step (fun k => laws_FnExactPagesOfRanges.j0.eq_2 ..) ?_
    refine ev_neg (by simp) (Ev.bind (toRangeS_ev l hl) (Ev.bind (eqRangeS_ev _ (by omega)) (ev_pos rfl (Ev.bind (markRangeS_ev _ (by omega)) (ev_neg (by simp only; omega) (Ev.bind (eqIntS_ev r.1 (by omega)) (ev_pos rfl ?_)))))))
    refine Ev.step (fun k => laws_FnExactPagesOfRanges.j1.eq_2 ..) ?_
    refine ev_neg (by simp) (Ev.bind (markIntS_ev r.1 (by omega)) (Ev.bind (heldIntS_ev r.1.length (by omega)) (ev_neg (by omega) (ev_pos rfl (Ev.bind (toRangeS_ev l hl) (Ev.bind hi (Ev.bind (eqIntS_ev r.1 (by omega)) (ev_pos rfl ?_))))))))
    refine Ev.step (fun k => laws_FnExactPagesOfRanges.j2.eq_2 ..) ?_
    exact ev_neg (by simp) (Ev.bind (heldIntS_ev r.1.length (by omega)) (ev_neg (by omega) (ev_pos rfl (ev_now rfl))))

end Go.Proofs.Yteolpfmpinbdoaa.Pure
