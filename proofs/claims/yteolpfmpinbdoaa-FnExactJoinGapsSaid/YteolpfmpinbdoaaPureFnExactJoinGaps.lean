/- The law FnExactJoinGaps holds for every list of ranges and every gap: program and reference tell the same ranges. No condition. -/
import Derived.Test.YteolpfmpinbdoaaPFnExactJoinGapsx6
namespace Go.Proofs.Yteolpfmpinbdoaa.Pure
open Go.RowKit Go.Proofs.Yteolpfmpinbdoaa.PFnExactJoinGaps Go.Proofs.YteolpfmpinbdoaaW.PrintWords Go.Proofs.YteolpfmpinbdoaaW.PrintLast

theorem w64 {x : Int} (h1 : -9223372036854775808 ≤ x) (h2 : x ≤ 9223372036854775807) : wrap64 x = x := by
  unfold wrap64; omega
theorem ev_pos {α : Type} {c : Prop} [Decidable c] {f g : Nat → Option α} {r : α} (hc : c) (h : Ev f r) : Ev (fun k => if c then f k else g k) r := by
  simpa only [if_pos hc] using h
theorem ev_neg {α : Type} {c : Prop} [Decidable c] {f g : Nat → Option α} {r : α} (hc : ¬ c) (h : Ev g r) : Ev (fun k => if c then f k else g k) r := by
  simpa only [if_neg hc] using h
theorem ev_now {α : Type} {r s : α} (h : r = s) : Ev (fun _ => some r) s := h ▸ Ev.now r
theorem ev_some {α β : Type} {x : Option α} {f : Nat → α → Option β} {a : α} {r : β} (h : x = some a) (k : Ev (fun n => f n a) r) : Ev (fun n => x.bind (f n)) r := by
  subst h; exact k
theorem ev_val {α : Type} {g : Nat → Option α} {a b : α} (h : Ev g a) (e : a = b) : Ev g b := e ▸ h
theorem ev_suc {α : Type} {g : Nat → Option α} {r : α} (h : Ev (fun k => g (k + 1)) r) : Ev g r := Ev.step (fun _ => rfl) h
theorem drop_nil {α : Type} {xs : List α} {i : Int} (h0 : 0 ≤ i) (h : xs.drop i.toNat = []) : (xs.length : Int) ≤ i := by
  have := List.drop_eq_nil_iff.1 h
  omega
theorem drop_get {α : Type} {xs : List α} {i : Int} {y : α} {ys : List α} (h0 : 0 ≤ i) (h : xs.drop i.toNat = y :: ys) : i < (xs.length : Int) ∧ (∀ d, xs.getD i.toNat d = y) ∧ xs.drop (i + 1).toNat = ys ∧ xs.take (i + 1).toNat = xs.take i.toNat ++ [y] := by
  have hl : i.toNat < xs.length := by
    rcases Nat.lt_or_ge i.toNat xs.length with hl | hl
    · exact hl
    · rw [List.drop_eq_nil_iff.2 hl] at h; cases h
  have e := List.drop_eq_getElem_cons hl
  rw [h] at e
  injection e with e1 e2
  have h1 : (i + 1).toNat = i.toNat + 1 := by omega
  refine ⟨by omega, fun d => ?_, ?_, ?_⟩
  · rw [List.getD_eq_getElem?_getD, List.getElem?_eq_getElem hl, e1]; rfl
  · rw [h1]; exact e2.symm
  · rw [h1, List.take_add_one, List.getElem?_eq_getElem hl, e1]; rfl
theorem drop_cons {xs : List Int} {i : Int} {y : Int} {ys : List Int} (h0 : 0 ≤ i) (h : xs.drop i.toNat = y :: ys) : i < (xs.length : Int) ∧ rd xs i = y ∧ xs.drop (i + 1).toNat = ys ∧ xs.take (i + 1).toNat = xs.take i.toNat ++ [y] := by
  obtain ⟨h1, h2, h3⟩ := drop_get h0 h
  exact ⟨h1, h2 0, h3⟩

def isR (r : S32) : Bool := decide (1 ≤ r.f0 ∧ r.f0 ≤ 2000) && decide (r.f0 ≤ r.f1 ∧ r.f1 ≤ 2000)
/-- What stands behind a range that ends at prev. -/
def tailR : Option Int → List S32 → Bool
  | _, [] => true
  | prev, r :: rs => isR r && ((match prev with | none => true | some p => decide (p + 2 ≤ r.f0)) && tailR (some r.f1) rs)
def goodR (xs : List S32) : Bool := decide (xs.length ≤ 20) && tailR none xs
theorem isR_true {r : S32} (h : isR r = true) : 1 ≤ r.f0 ∧ r.f0 ≤ 2000 ∧ r.f0 ≤ r.f1 ∧ r.f1 ≤ 2000 := by
  simp only [isR, Bool.and_eq_true, decide_eq_true_eq] at h; omega
theorem drop32 {xs : List S32} {i : Int} {y : S32} {ys : List S32} (h0 : 0 ≤ i) (h : xs.drop i.toNat = y :: ys) : i < (xs.length : Int) ∧ rd_T32 xs i = y ∧ xs.drop (i + 1).toNat = ys := by
  obtain ⟨h1, h2, h3, _⟩ := drop_get h0 h
  exact ⟨h1, h2 _, h3⟩

theorem l1In_eq (a lo hi : Int) : spec_l1In.f a lo hi = some (decide (lo ≤ a ∧ a ≤ hi)) := by
  unfold spec_l1In.f
  by_cases h : a ≥ lo
  · rw [if_pos h]; congr 1; simp [show lo ≤ a from h]
  · rw [if_neg h]; congr 1; simp; omega

theorem ixRange_eq (r : S32) : spec_ixRange.f r.f0 r.f1 = some (isR r) := by
  unfold spec_ixRange.f isR
  rw [l1In_eq]
  by_cases h : 1 ≤ r.f0 ∧ r.f0 ≤ 2000
  · rw [decide_eq_true h]; simp only [Option.bind_some, if_true]; rw [l1In_eq]; simp
  · rw [decide_eq_false h]; simp
theorem ixGood_l (xs : List S32) (hn : xs.length ≤ 1048576) : ∀ (ys : List S32) (i : Int) (prev : Option Int), 0 ≤ i → xs.drop i.toNat = ys → (i = 0 → prev = none) → (0 < i → ∃ p, prev = some p ∧ (rd_T32 xs (i - 1)).f1 = p ∧ p ≤ 2000 ∧ 1 ≤ p) →
    Ev (fun k => spec_ixGood.l0 k xs xs (xs.length : Int) i) (tailR prev ys) := by
  intro ys
  induction ys with
  | nil =>
    intro i prev h0 h _ _
    have := drop_nil h0 h
    refine Ev.step (fun k => spec_ixGood.l0.eq_2 ..) ?_
    exact ev_neg (by omega) (ev_now rfl)
  | cons y ys ih =>
    intro i prev h0 h hp0 hp1
    obtain ⟨h1, h2, h3⟩ := drop32 h0 h
    refine Ev.step (fun k => spec_ixGood.l0.eq_2 ..) ?_
    rw [h2, w64 (x := i + 1) (by omega) (by omega)]
    refine ev_pos h1 (ev_pos h0 (ev_pos h1 (ev_some (ixRange_eq y) ?_)))
    by_cases hr : isR y = true
    · refine ev_pos hr ?_
      have hy := isR_true hr
      have hnext : Ev (fun k => spec_ixGood.l0 k xs xs (xs.length : Int) (i + 1)) (tailR (some y.f1) ys) :=
        ih (i + 1) (some y.f1) (by omega) h3 (fun h => by omega) (fun _ => ⟨y.f1, rfl, by rw [show i + 1 - 1 = i from by omega, h2], by omega, by omega⟩)
      by_cases hi : 0 < i
      · obtain ⟨p, rfl, hp, hp2, hp3⟩ := hp1 hi
        refine ev_pos hi ?_
        rw [w64 (x := i - 1) (by omega) (by omega), hp, w64 (x := p + 2) (by omega) (by omega)]
        refine ev_pos (by omega) (ev_pos (by omega) ?_)
        by_cases c : y.f0 < p + 2
        · exact ev_pos c (ev_now (by simp [tailR, hr, show ¬ p + 2 ≤ y.f0 from by omega]))
        · exact ev_neg c (ev_val hnext (by simp [tailR, hr, show p + 2 ≤ y.f0 from by omega]))
      · obtain rfl := hp0 (by omega)
        exact ev_neg hi (ev_val hnext (by simp [tailR, hr]))
    · exact ev_neg hr (ev_now (by simp [tailR, hr]))
theorem ixGood_ev (xs : List S32) (hn : xs.length ≤ 1048576) : Ev (fun k => spec_ixGood.f k xs) (goodR xs) := by
  unfold spec_ixGood.f goodR
  by_cases h : xs.length ≤ 20
  · exact ev_neg (by omega) (ev_val (ixGood_l xs hn xs 0 none (by omega) rfl (fun _ => rfl) (fun h => by omega)) (by simp [h]))
  · exact ev_pos (by omega) (ev_now (by simp [h]))

theorem within_eq (a lo hi : Int) : impl_within.f a lo hi = some (decide (lo ≤ a ∧ a ≤ hi)) := by
  unfold impl_within.f
  by_cases h : a ≥ lo
  · rw [if_pos h]; congr 1; simp [show lo ≤ a from h]
  · rw [if_neg h]; congr 1; simp; omega

theorem isRange_eq (r : S32) : impl_isRange.f r.f0 r.f1 = some (isR r) := by
  unfold impl_isRange.f isR
  rw [within_eq]
  by_cases h : 1 ≤ r.f1 ∧ r.f1 ≤ 2000
  · rw [decide_eq_true h]; simp only [Option.bind_some, if_true]; rw [within_eq]
    simp only [Option.bind_some]; congr 1
    rw [← Bool.decide_and]
    exact decide_eq_decide.2 (by omega)
  · rw [decide_eq_false h]
    simp only [Option.bind_some, Bool.false_eq_true, if_false]; congr 1
    rw [← Bool.decide_and]
    exact (decide_eq_false (by omega)).symm
theorem areR_l (xs : List S32) (hn : xs.length ≤ 1048576) : ∀ (ys : List S32) (i : Int) (prev : Option Int), 0 ≤ i → xs.drop i.toNat = ys → (i = 0 → prev = none) → (0 < i → ∃ p, prev = some p ∧ (rd_T32 xs (i - 1)).f1 = p ∧ p ≤ 2000 ∧ 1 ≤ p) →
    Ev (fun k => impl_AreRanges.l0 k xs xs (xs.length : Int) i) (tailR prev ys && decide (xs.length ≤ 20)) := by
  intro ys
  induction ys with
  | nil =>
    intro i prev h0 h _ _
    have := drop_nil h0 h
    refine Ev.step (fun k => impl_AreRanges.l0.eq_2 ..) ?_
    exact ev_neg (by omega) (ev_now (by simp only [tailR, Bool.true_and]; exact decide_eq_decide.2 (by omega)))
  | cons y ys ih =>
    intro i prev h0 h hp0 hp1
    obtain ⟨h1, h2, h3⟩ := drop32 h0 h
    refine Ev.step (fun k => impl_AreRanges.l0.eq_2 ..) ?_
    rw [h2, w64 (x := i + 1) (by omega) (by omega)]
    refine ev_pos h1 (ev_pos h0 (ev_pos h1 (ev_some (isRange_eq y) ?_)))
    by_cases hr : isR y = true
    · refine ev_pos hr ?_
      have hy := isR_true hr
      have hnext : Ev (fun k => impl_AreRanges.l0 k xs xs (xs.length : Int) (i + 1)) (tailR (some y.f1) ys && decide (xs.length ≤ 20)) :=
        ih (i + 1) (some y.f1) (by omega) h3 (fun h => by omega) (fun _ => ⟨y.f1, rfl, by rw [show i + 1 - 1 = i from by omega, h2], by omega, by omega⟩)
      by_cases hi : 0 < i
      · obtain ⟨p, rfl, hp, hp2, hp3⟩ := hp1 hi
        refine ev_pos hi ?_
        rw [w64 (x := i - 1) (by omega) (by omega), hp, w64 (x := p + 2) (by omega) (by omega)]
        refine ev_pos (by omega) (ev_pos (by omega) ?_)
        by_cases c : y.f0 < p + 2
        · exact ev_pos c (ev_now (by simp [tailR, hr, show ¬ p + 2 ≤ y.f0 from by omega]))
        · exact ev_neg c (ev_val hnext (by simp [tailR, hr, show p + 2 ≤ y.f0 from by omega]))
      · obtain rfl := hp0 (by omega)
        exact ev_neg hi (ev_val hnext (by simp [tailR, hr]))
    · exact ev_neg hr (ev_now (by simp [tailR, hr]))
theorem areR_ev (xs : List S32) (hn : xs.length ≤ 1048576) : Ev (fun k => impl_AreRanges.f k xs) (goodR xs) := by
  unfold impl_AreRanges.f goodR
  exact ev_val (areR_l xs hn xs 0 none (by omega) rfl (fun _ => rfl) (fun h => by omega)) (Bool.and_comm _ _)

theorem tailR_mem : ∀ (xs : List S32) (prev : Option Int), tailR prev xs = true → ∀ r ∈ xs, isR r = true
  | [], _, _, r, hr => by simp at hr
  | x :: xs, prev, h, r, hr => by
    simp only [tailR, Bool.and_eq_true] at h
    rcases List.mem_cons.1 hr with rfl | hr
    · exact h.1
    · exact tailR_mem xs (some x.f1) h.2.2 r hr
theorem goodR_true {xs : List S32} (h : goodR xs = true) : xs.length ≤ 20 ∧ tailR none xs = true ∧ ∀ r ∈ xs, isR r = true := by
  simp only [goodR, Bool.and_eq_true, decide_eq_true_eq] at h
  exact ⟨h.1, h.2, tailR_mem xs none h.2⟩

def toR (r : S50) : S32 := ⟨r.f0, r.f1⟩
theorem toRangeS_l (xs : List S50) (hn : xs.length < 4611686018427387904) : ∀ (ys : List S50) (i : Int) (zs : List S32), 0 ≤ i → xs.drop i.toNat = ys → zs.length = ys.length →
    Ev (fun k => laws_toRangeS.l0 k xs ((xs.take i.toNat).map toR ++ zs) i) (xs.map toR) := by
  intro ys
  induction ys with
  | nil =>
    intro i zs h0 h hz
    have := drop_nil h0 h
    refine Ev.step (fun k => laws_toRangeS.l0.eq_2 ..) ?_
    have hz : zs = [] := List.eq_nil_of_length_eq_zero hz
    refine ev_neg (by omega) (ev_now ?_)
    rw [hz, List.append_nil, List.take_of_length_le (by omega)]
  | cons y ys ih =>
    intro i zs h0 h hz
    obtain ⟨h1, h2', h3, h4⟩ := drop_get h0 h
    have h2 : rd_T50 xs i = y := h2' _
    obtain ⟨z, zs, rfl⟩ : ∃ z zs', zs = z :: zs' := List.exists_cons_of_length_eq_add_one hz
    have hl : ((xs.take i.toNat).map toR).length = i.toNat := by rw [List.length_map, List.length_take]; omega
    refine Ev.step (fun k => laws_toRangeS.l0.eq_2 ..) ?_
    refine ev_pos h1 (ev_pos h0 ?_)
    unfold laws_toRange.f
    refine ev_some rfl (ev_pos (by rw [List.length_append, hl, List.length_cons]; omega) ?_)
    rw [h2, w64 (by omega) (by omega)]
    have e : ((xs.take i.toNat).map toR ++ z :: zs).set i.toNat (⟨y.f0, y.f1⟩ : S32) = (xs.take (i + 1).toNat).map toR ++ zs := by
      rw [h4, List.map_append, List.set_append_right _ _ (by omega), hl, Nat.sub_self, List.set_cons_zero, List.append_assoc]; rfl
    rw [e]
    exact ih (i + 1) zs (by omega) h3 (by simpa using hz)
theorem toRangeS_ev (xs : List S50) (hn : xs.length ≤ 1048576) : Ev (fun k => laws_toRangeS.f k xs) (xs.map toR) := by
  unfold laws_toRangeS.f
  refine ev_pos (by omega) (ev_pos (by omega) ?_)
  exact toRangeS_l xs (by omega) xs 0 _ (by omega) rfl (by simp)

theorem eqRangeS_l (xs : List S32) (hn : xs.length < 4611686018427387904) : ∀ (ys : List S32) (i : Int), 0 ≤ i → xs.drop i.toNat = ys →
    Ev (fun k => laws_eqRangeS.l0 k xs xs i) true := by
  intro ys
  induction ys with
  | nil =>
    intro i h0 h
    have := drop_nil h0 h
    refine Ev.step (fun k => laws_eqRangeS.l0.eq_2 ..) ?_
    exact ev_neg (by omega) (ev_now rfl)
  | cons y ys ih =>
    intro i h0 h
    obtain ⟨h1, h2, h3, _⟩ := drop_get h0 h
    refine Ev.step (fun k => laws_eqRangeS.l0.eq_2 ..) ?_
    have e : ∀ r : S32, laws_eqRange.f r.f0 r.f1 r.f0 r.f1 = some true := fun r => by unfold laws_eqRange.f; simp
    refine ev_pos h1 (ev_pos h0 (ev_pos h1 (ev_some (e _) (ev_pos rfl ?_))))
    rw [w64 (by omega) (by omega)]
    exact ih _ (by omega) h3
theorem eqRangeS_ev (xs : List S32) (hn : xs.length < 4611686018427387904) : Ev (fun k => laws_eqRangeS.f k xs xs) true := by
  unfold laws_eqRangeS.f
  exact ev_pos rfl (eqRangeS_l xs hn xs 0 (by omega) rfl)

/-- What a list of ranges reads as behind the marking. -/
def marksR (n : Nat) : List S32 := (List.range n).map (fun i : Nat => (⟨1 + 2 * (i : Int), 1 + 2 * (i : Int) + 1⟩ : S32))
theorem marksR_length (n : Nat) : (marksR n).length = n := by simp [marksR]
theorem marksR_succ (n : Nat) : marksR (n + 1) = marksR n ++ [(⟨1 + 2 * (n : Int), 1 + 2 * (n : Int) + 1⟩ : S32)] := by simp [marksR, List.range_succ]
theorem set_midR (us : List S32) (y v : S32) (ys : List S32) (i : Nat) (h : us.length = i) : (us ++ y :: ys).set (i : Int).toNat v = us ++ v :: ys := by
  rw [Int.toNat_natCast, List.set_append_right _ _ (by omega), h, Nat.sub_self, List.set_cons_zero]
theorem rd_midR (us : List S32) (y : S32) (ys : List S32) (i : Nat) (h : us.length = i) : rd_T32 (us ++ y :: ys) (i : Int) = y := by
  show (us ++ y :: ys).getD (i : Int).toNat _ = y
  rw [Int.toNat_natCast, List.getD_eq_getElem?_getD, List.getElem?_append_right (by omega), h, Nat.sub_self]; rfl

theorem markRangeS_l (n : Nat) (hn : n < 268435456) : ∀ (ys : List S32) (i : Nat), i + ys.length = n →
    Ev (fun k => laws_markRangeS.l0 k (marksR i ++ ys) (1 + 2 * (i : Int)) (i : Int)) ((1 : Int) + 2 * n, marksR n) := by
  intro ys
  induction ys with
  | nil =>
    intro i h
    refine Ev.step (fun k => laws_markRangeS.l0.eq_2 ..) ?_
    simp at h
    subst h
    exact ev_neg (by simp [marksR_length]) (ev_now (by simp))
  | cons y ys ih =>
    intro i h
    simp at h
    have hl := marksR_length i
    refine Ev.step (fun k => laws_markRangeS.l0.eq_2 ..) ?_
    refine ev_pos (by simp [marksR_length]; omega) (ev_pos (by omega) (ev_some rfl ?_))
    rw [rd_midR _ _ _ _ hl, set_midR _ _ _ _ _ hl, rd_midR _ _ _ _ hl, set_midR _ _ _ _ _ hl]
    rw [w64 (x := 1 + 2 * (i : Int) + 1) (by omega) (by omega), w64 (x := 1 + 2 * (i : Int) + 1 + 1) (by omega) (by omega), w64 (x := (i : Int) + 1) (by omega) (by omega)]
    have h2 := ih (i + 1) (by omega)
    have e2 : (1 : Int) + 2 * ((i + 1 : Nat) : Int) = 1 + 2 * (i : Int) + 1 + 1 := by omega
    have e3 : ((i + 1 : Nat) : Int) = (i : Int) + 1 := by omega
    have e4 : marksR (i + 1) ++ ys = marksR i ++ (⟨1 + 2 * (i : Int), 1 + 2 * (i : Int) + 1⟩ : S32) :: ys := by rw [marksR_succ, List.append_assoc]; rfl
    rw [e2, e3, e4] at h2
    exact h2
theorem markRangeS_ev (xs : List S32) (hn : xs.length < 268435456) : Ev (fun k => laws_markRangeS.f k xs 1) ((1 : Int) + 2 * xs.length, marksR xs.length) := markRangeS_l xs.length hn xs 0 (by omega)

theorem heldRangeS_l (n : Nat) (hn : n < 268435456) : ∀ (m i : Nat), i + m = n →
    Ev (fun k => laws_heldRangeS.l0 k (marksR n) (1 + 2 * (i : Int)) (i : Int)) ((1 : Int) + 2 * n) := by
  intro m
  induction m with
  | zero =>
    intro i h
    refine Ev.step (fun k => laws_heldRangeS.l0.eq_2 ..) ?_
    exact ev_neg (by rw [marksR_length]; omega) (ev_now (by omega))
  | succ m ih =>
    intro i h
    refine Ev.step (fun k => laws_heldRangeS.l0.eq_2 ..) ?_
    have hr : rd_T32 (marksR n) (i : Int) = (⟨1 + 2 * (i : Int), 1 + 2 * (i : Int) + 1⟩ : S32) := by
      show (marksR n).getD (i : Int).toNat _ = _
      rw [Int.toNat_natCast]
      simp [marksR, List.getD_eq_getElem?_getD, List.getElem?_range (show i < n by omega)]
    rw [hr, w64 (x := 1 + 2 * (i : Int) + 1) (by omega) (by omega), w64 (x := 1 + 2 * (i : Int) + 1 + 1) (by omega) (by omega), w64 (x := (i : Int) + 1) (by omega) (by omega)]
    refine ev_pos (by rw [marksR_length]; omega) (ev_pos (by omega) (ev_pos rfl (ev_pos rfl ?_)))
    have h2 := ih (i + 1) (by omega)
    have e2 : (1 : Int) + 2 * ((i + 1 : Nat) : Int) = 1 + 2 * (i : Int) + 1 + 1 := by omega
    have e3 : ((i + 1 : Nat) : Int) = (i : Int) + 1 := by omega
    rw [e2, e3] at h2
    exact h2
theorem heldRangeS_ev (n : Nat) (hn : n < 268435456) : Ev (fun k => laws_heldRangeS.f k (marksR n) 1) ((1 : Int) + 2 * n) := heldRangeS_l n hn n 0 (by omega)

def joinL (gap : Int) : List S32 → List S32 → S32 → List S32
  | [], init, last => init ++ [last]
  | r :: rs, init, last => if r.f0 - last.f1 - 1 ≤ gap then joinL gap rs init ⟨last.f0, r.f1⟩ else joinL gap rs (init ++ [last]) ⟨r.f0, r.f1⟩
theorem joinL_length (gap : Int) : ∀ (rs init : List S32) (last : S32), (joinL gap rs init last).length ≤ init.length + 1 + rs.length
  | [], init, last => by simp [joinL]
  | r :: rs, init, last => by
    rw [joinL]
    split
    · have := joinL_length gap rs init ⟨last.f0, r.f1⟩; simp only [List.length_cons]; omega
    · have := joinL_length gap rs (init ++ [last]) ⟨r.f0, r.f1⟩; simp only [List.length_cons, List.length_append, List.length_nil] at this ⊢; omega
theorem specJoin_l (gap : Int) (xs : List S32) (hn : xs.length ≤ 1048576) (hb : ∀ r ∈ xs, isR r = true) : ∀ (ys : List S32) (x last : S32) (i : Int) (init : List S32), 1 ≤ i → xs.drop (i - 1).toNat = x :: ys → last.f1 = x.f1 → init.length + ys.length ≤ 1048576 →
    Ev (fun k => spec_JoinGaps.l0 k xs gap (init ++ [last]) xs (xs.length : Int) i) (joinL gap ys init last, true) := by
  intro ys
  induction ys with
  | nil =>
    intro x last i init h0 h _ _
    obtain ⟨h1, h2, h3⟩ := drop32 (by omega) h
    have := drop_nil (by omega) h3
    refine Ev.step (fun k => spec_JoinGaps.l0.eq_2 ..) ?_
    exact ev_neg (by omega) (ev_now (by simp [joinL]))
  | cons y ys ih =>
    intro x last i init h0 h hl ho
    obtain ⟨h1, h2, h3⟩ := drop32 (by omega) h
    rw [show i - 1 + 1 = i from by omega] at h3
    obtain ⟨g1, g2, g3⟩ := drop32 (by omega) h3
    have hx := isR_true (hb x (List.mem_of_mem_drop (by rw [h]; exact List.mem_cons_self)))
    have hy := isR_true (hb y (List.mem_of_mem_drop (by rw [h3]; exact List.mem_cons_self)))
    simp only [List.length_cons] at ho
    have e1 : ((init ++ [last]).length : Int) - 1 = (init.length : Int) := by simp
    have hlen : (init ++ [last]).length = init.length + 1 := by simp
    refine Ev.step (fun k => spec_JoinGaps.l0.eq_2 ..) ?_
    rw [w64 (x := i - 1) (by omega) (by omega), w64 (x := i + 1) (by omega) (by omega), w64 (x := ((init ++ [last]).length : Int) - 1) (by omega) (by omega), e1, h2, g2, w64 (x := y.f0 - x.f1) (by omega) (by omega), w64 (x := y.f0 - x.f1 - 1) (by omega) (by omega), rd_midR _ _ _ _ rfl, set_midR _ _ _ _ _ rfl]
    refine ev_pos g1 (ev_pos (by omega) (ev_pos g1 (ev_pos (by omega) (ev_pos (by omega) (ev_pos (by omega) ?_)))))
    have hd : xs.drop (i + 1 - 1).toNat = y :: ys := by rw [show i + 1 - 1 = i from by omega]; exact h3
    by_cases c : y.f0 - x.f1 - 1 ≤ gap
    · refine ev_pos c (ev_pos (by omega) (ev_pos (by omega) ?_))
      exact ev_val (ih y ⟨last.f0, y.f1⟩ (i + 1) init (by omega) hd rfl (by omega)) (by rw [joinL, hl, if_pos c])
    · refine ev_neg c (ev_pos (by omega) ?_)
      exact ev_val (ih y ⟨y.f0, y.f1⟩ (i + 1) (init ++ [last]) (by omega) hd rfl (by omega)) (by rw [joinL, hl, if_neg c])
theorem implJoin_l (gap : Int) (xs : List S32) (hn : xs.length ≤ 1048576) (hb : ∀ r ∈ xs, isR r = true) : ∀ (ys : List S32) (last : S32) (i : Int) (init : List S32), 1 ≤ i → xs.drop i.toNat = ys → 1 ≤ last.f1 → last.f1 ≤ 2000 → init.length + ys.length ≤ 1048576 →
    Ev (fun k => impl_JoinGaps.l0 k gap (init ++ [last]) xs (xs.length : Int) i) (joinL gap ys init last, true) := by
  intro ys
  induction ys with
  | nil =>
    intro last i init h0 h _ _ _
    have := drop_nil (by omega) h
    refine Ev.step (fun k => impl_JoinGaps.l0.eq_2 ..) ?_
    exact ev_neg (by omega) (ev_now (by simp [joinL]))
  | cons y ys ih =>
    intro last i init h0 h hl0 hl1 ho
    obtain ⟨g1, g2, g3⟩ := drop32 (by omega) h
    have hy := isR_true (hb y (List.mem_of_mem_drop (by rw [h]; exact List.mem_cons_self)))
    simp only [List.length_cons] at ho
    have e1 : ((init ++ [last]).length : Int) - 1 = (init.length : Int) := by simp
    have hlen : (init ++ [last]).length = init.length + 1 := by simp
    refine Ev.step (fun k => impl_JoinGaps.l0.eq_2 ..) ?_
    rw [w64 (x := i + 1) (by omega) (by omega), w64 (x := ((init ++ [last]).length : Int) - 1) (by omega) (by omega), e1, g2, rd_midR _ _ _ _ rfl, set_midR _ _ _ _ _ rfl, w64 (x := y.f0 - last.f1) (by omega) (by omega), w64 (x := y.f0 - last.f1 - 1) (by omega) (by omega)]
    refine ev_pos g1 (ev_pos (by omega) (ev_pos g1 (ev_pos (by omega) (ev_pos (by omega) (ev_pos (by omega) ?_)))))
    by_cases c : y.f0 - last.f1 - 1 ≤ gap
    · refine ev_pos c ?_
      exact ev_val (ih ⟨last.f0, y.f1⟩ (i + 1) init (by omega) g3 (by simp only; omega) (by simp only; omega) (by omega)) (by rw [joinL, if_pos c])
    · refine ev_neg c (ev_pos (by omega) ?_)
      exact ev_val (ih ⟨y.f0, y.f1⟩ (i + 1) (init ++ [last]) (by omega) g3 (by simp only; omega) (by simp only; omega) (by omega)) (by rw [joinL, if_neg c])
def joinR (gap : Int) : List S32 → List S32
  | [] => []
  | x :: xs => joinL gap xs [] ⟨x.f0, x.f1⟩
def joinM (xs : List S32) (gap : Int) : List S32 × Bool := if goodR xs = true then (if 0 ≤ gap ∧ gap ≤ 2000 then (joinR gap xs, true) else ([], false)) else ([], false)
theorem joinM_small (xs : List S32) (gap : Int) : (joinM xs gap).1.length ≤ 20 := by
  unfold joinM
  split
  · rename_i h
    have h1 := (goodR_true h).1
    split
    · rcases xs with _ | ⟨x, xs⟩
      · simp [joinR]
      · have := joinL_length gap xs [] ⟨x.f0, x.f1⟩
        simp only [List.length_cons, List.length_nil] at h1 this
        simp only [joinR]; omega
    · simp
  · simp
theorem specJoin0 (gap : Int) (xs : List S32) (hn : xs.length ≤ 1048576) (h : goodR xs = true) : Ev (fun k => spec_JoinGaps.l0 k xs gap [] xs (xs.length : Int) 0) (joinR gap xs, true) := by
  have hb := (goodR_true h).2.2
  rcases xs with _ | ⟨x, xs⟩
  · refine Ev.step (fun k => spec_JoinGaps.l0.eq_2 ..) ?_
    exact ev_neg (by simp) (ev_now rfl)
  · have e0 : rd_T32 (x :: xs) 0 = x := rfl
    refine Ev.step (fun k => spec_JoinGaps.l0.eq_2 ..) ?_
    rw [e0, w64 (x := (0 : Int) + 1) (by omega) (by omega)]
    refine ev_pos (by simp only [List.length_cons]; omega) (ev_pos (by omega) (ev_pos (by simp only [List.length_cons]; omega) (ev_neg (by omega) (ev_pos (by simp) ?_))))
    exact specJoin_l gap (x :: xs) hn hb xs x ⟨x.f0, x.f1⟩ (0 + 1) [] (by omega) rfl rfl (by simp only [List.length_cons, List.length_nil] at hn ⊢; omega)
theorem implJoin0 (gap : Int) (xs : List S32) (hn : xs.length ≤ 1048576) (h : goodR xs = true) : Ev (fun k => impl_JoinGaps.l0 k gap [] xs (xs.length : Int) 0) (joinR gap xs, true) := by
  have hb := (goodR_true h).2.2
  rcases xs with _ | ⟨x, xs⟩
  · refine Ev.step (fun k => impl_JoinGaps.l0.eq_2 ..) ?_
    exact ev_neg (by simp) (ev_now rfl)
  · have e0 : rd_T32 (x :: xs) 0 = x := rfl
    have hx := isR_true (hb x List.mem_cons_self)
    refine Ev.step (fun k => impl_JoinGaps.l0.eq_2 ..) ?_
    rw [e0, w64 (x := (0 : Int) + 1) (by omega) (by omega)]
    refine ev_pos (by simp only [List.length_cons]; omega) (ev_pos (by omega) (ev_pos (by simp only [List.length_cons]; omega) (ev_neg (by simp) (ev_pos (by simp) ?_))))
    exact implJoin_l gap (x :: xs) hn hb xs ⟨x.f0, x.f1⟩ (0 + 1) [] (by omega) rfl (by simp only; omega) (by simp only; omega) (by simp only [List.length_cons, List.length_nil] at hn ⊢; omega)
theorem specJoin_ev (xs : List S32) (gap : Int) (hn : xs.length ≤ 1048576) : Ev (fun k => spec_JoinGaps.f k xs gap) (joinM xs gap) := by
  unfold spec_JoinGaps.f joinM
  refine Ev.bind (ixGood_ev xs hn) ?_
  by_cases h : goodR xs = true
  · rw [if_pos h]
    refine ev_pos h (ev_some (l1In_eq ..) (Ev.step (fun k => spec_JoinGaps.j0.eq_2 ..) ?_))
    by_cases g : 0 ≤ gap ∧ gap ≤ 2000
    · rw [if_pos g]
      exact ev_neg (by simp [g]) (specJoin0 gap xs hn h)
    · rw [if_neg g]
      exact ev_pos (by rw [decide_eq_false g]; rfl) (ev_now rfl)
  · rw [if_neg h]
    exact ev_neg h (Ev.step (fun k => spec_JoinGaps.j0.eq_2 ..) (ev_pos rfl (ev_now rfl)))
theorem implJoin_ev (xs : List S32) (gap : Int) (hn : xs.length ≤ 1048576) : Ev (fun k => impl_JoinGaps.f k xs gap) (joinM xs gap) := by
  unfold impl_JoinGaps.f joinM
  refine Ev.bind (areR_ev xs hn) ?_
  by_cases h : goodR xs = true
  · rw [if_pos h]
    refine ev_pos h (ev_some (within_eq ..) (Ev.step (fun k => impl_JoinGaps.j0.eq_2 ..) ?_))
    by_cases g : 0 ≤ gap ∧ gap ≤ 2000
    · rw [if_pos g]
      exact ev_neg (by simp [g]) (implJoin0 gap xs hn h)
    · rw [if_neg g]
      exact ev_pos (by rw [decide_eq_false g]; rfl) (ev_now rfl)
  · rw [if_neg h]
    exact ev_neg h (Ev.step (fun k => impl_JoinGaps.j0.eq_2 ..) (ev_pos rfl (ev_now rfl)))
theorem FnExactJoinGaps (l : List S50) (gap : Int) (hx : l.length ≤ 9223372036854775807) : ∃ k, laws_FnExactJoinGaps.f k l gap = some true := by
  refine Ev.rounds ?_
  unfold laws_FnExactJoinGaps.f laws_szRangeS.f
  have hm : (l.map toR).length = l.length := List.length_map ..
  rw [w64 (x := 1048576 - (l.length : Int)) (by omega) (by omega)]
  by_cases h : 1048576 - (l.length : Int) < 0
  · rw [if_pos h]
    exact ev_some rfl (ev_pos (by omega) (ev_now rfl))
  · rw [if_neg h]
    refine ev_some rfl (ev_neg h ?_)
    have hl : l.length ≤ 1048576 := by omega
    have hs := specJoin_ev (l.map toR) gap (by omega)
    have hi := implJoin_ev (l.map toR) gap (by omega)
    have hW := joinM_small (l.map toR) gap
    generalize joinM (l.map toR) gap = r at hs hi hW
    refine Ev.bind (toRangeS_ev l hl) (Ev.bind hs (Ev.bind (toRangeS_ev l hl) (Ev.bind hi (Ev.bind (eqRangeS_ev r.1 (by omega)) (ev_pos rfl ?_)))))
    refine Ev.step (fun k => laws_FnExactJoinGaps.j0.eq_2 ..) ?_
    refine ev_neg (by simp) (Ev.bind (toRangeS_ev l hl) (Ev.bind (eqRangeS_ev _ (by omega)) (ev_pos rfl (Ev.bind (markRangeS_ev _ (by omega)) (ev_neg (by simp only; omega) (Ev.bind (eqRangeS_ev r.1 (by omega)) (ev_pos rfl ?_)))))))
    refine Ev.step (fun k => laws_FnExactJoinGaps.j1.eq_2 ..) ?_
    refine ev_neg (by simp) (Ev.bind (markRangeS_ev r.1 (by omega)) (Ev.bind (heldRangeS_ev r.1.length (by omega)) (ev_neg (by omega) (ev_pos rfl (Ev.bind (toRangeS_ev l hl) (Ev.bind hi (Ev.bind (eqRangeS_ev r.1 (by omega)) (ev_pos rfl ?_))))))))
    refine Ev.step (fun k => laws_FnExactJoinGaps.j2.eq_2 ..) ?_
    exact ev_neg (by simp) (Ev.bind (heldRangeS_ev r.1.length (by omega)) (ev_neg (by omega) (ev_pos rfl (ev_now rfl))))

end Go.Proofs.Yteolpfmpinbdoaa.Pure
