import Derived.Test.YtdjoegkoiapoaaaOwnPages
import Derived.Test.YtdjoegkoiapoaaaOwnRank
import Derived.Test.YtdjoegkoiapoaaaPBindingOfRankx1
namespace Go.Proofs.Ytdjoegkoiapoaaa.Own
open Go.RowKit Go.Proofs.YtdjoegkoiapoaaaW.PrintWords Go.Proofs.YtdjoegkoiapoaaaW.PrintLast Go.Proofs.YtdjoegkoiapoaaaW.PrintMore
attribute [local go_sem] max2_int min2_int max_two min_two max_three min_three max_four min_four
set_option linter.unusedVariables false
set_option linter.unusedSimpArgs false
open Ch
theorem freeTo_free (n : Nat) (pre : List Int) : ∀ (m : Nat) (z : Int), z ∈ freeTo n pre m → freeB pre z = true ∧ -(n : Int) ≤ z ∧ z < -(n : Int) + m
  | 0, z, h => by simp [freeTo] at h
  | m + 1, z, h => by
    rw [freeTo, List.mem_append] at h
    rcases h with h | h
    · have := freeTo_free n pre m z h; exact ⟨this.1, this.2.1, by omega⟩
    · split at h
      · rename_i hf
        have e : z = -(n : Int) + m := by simpa using h
        subst e
        exact ⟨hf, by omega, by omega⟩
      · simp at h
theorem freeB_neg (pre : List Int) (y : Int) (h : freeB pre y = true) : freeB pre (-y) = true := by
  unfold freeB at h ⊢
  simp only [Bool.and_eq_true, Bool.not_eq_true', beq_eq_false_iff_ne, Int.neg_neg] at h ⊢
  exact ⟨by omega, h.2.2, h.2.1⟩
theorem freeB_snoc (pre : List Int) (y k : Int) : freeB (pre ++ [y]) k = (freeB pre k && (!(k == y) && !(k == -y))) := by
  unfold freeB
  have e1 : (pre ++ [y]).contains k = (pre.contains k || (k == y)) := by
    rw [List.contains_eq_any_beq, List.any_append, ← List.contains_eq_any_beq]
    simp [Bool.beq_comm]
  have e2 : (pre ++ [y]).contains (-k) = (pre.contains (-k) || (k == -y)) := by
    rw [List.contains_eq_any_beq, List.any_append, ← List.contains_eq_any_beq]
    have : ((-k) == y) = (k == -y) := by
      by_cases h : k = -y
      · rw [beq_iff_eq.mpr h, beq_iff_eq.mpr (by omega)]
      · rw [beq_eq_false_iff_ne.mpr h, beq_eq_false_iff_ne.mpr (by omega)]
    simp [this]
  rw [e1, e2]
  cases (k == 0) <;> cases pre.contains k <;> cases pre.contains (-k) <;> cases (k == y) <;> cases (k == -y) <;> rfl
theorem cntN_snoc (n : Nat) (pre : List Int) (y : Int) (hf : freeB pre y = true) (hy : y ≠ 0) (h1 : -(n : Int) ≤ y) (h2 : y ≤ n) : ∀ m : Nat, cntN n (pre ++ [y]) m = cntN n pre m - (if y < -(n : Int) + m then 1 else 0) - (if -y < -(n : Int) + m then 1 else 0)
  | 0 => by
    rw [cntN, cntN, if_neg (by omega), if_neg (by omega)]; rfl
  | m + 1 => by
    have ih := cntN_snoc n pre y hf hy h1 h2 m
    have hfn := freeB_neg pre y hf
    rw [cntN, cntN, ih, freeB_snoc]
    by_cases a : -(n : Int) + m = y
    · rw [a, hf, beq_self_eq_true]
      simp only [Bool.not_true, Bool.false_and, Bool.and_false]
      rw [if_neg (by omega : ¬ y < y)]
      simp only [if_true, Bool.false_eq_true, if_false]
      rw [if_pos (by omega : y < -(n : Int) + ((m + 1 : Nat) : Int))]
      by_cases b : -y < y
      · rw [if_pos b, if_pos (by omega)]; omega
      · rw [if_neg b, if_neg (by omega)]; omega
    · by_cases b : -(n : Int) + m = -y
      · rw [b, hfn, beq_self_eq_true]
        simp only [Bool.not_true, Bool.and_false]
        rw [if_neg (by omega : ¬ -y < -y)]
        simp only [if_true, Bool.false_eq_true, if_false]
        rw [if_pos (by omega : -y < -(n : Int) + ((m + 1 : Nat) : Int))]
        by_cases c : y < -y
        · rw [if_pos c, if_pos (by omega)]; omega
        · rw [if_neg c, if_neg (by omega)]; omega
      · rw [beq_eq_false_iff_ne.mpr a, beq_eq_false_iff_ne.mpr b]
        simp only [Bool.not_false, Bool.and_true]
        have e1 : (y < -(n : Int) + ((m + 1 : Nat) : Int)) = (y < -(n : Int) + m) := propext ⟨fun h => by omega, fun h => by omega⟩
        have e2 : (-y < -(n : Int) + ((m + 1 : Nat) : Int)) = (-y < -(n : Int) + m) := propext ⟨fun h => by omega, fun h => by omega⟩
        simp only [e1, e2]
        omega
theorem cntN_nil (n : Nat) : ∀ m : Nat, cntN n [] m = m - (if (n : Int) < m then 1 else 0)
  | 0 => by rw [cntN, if_neg (by omega)]; rfl
  | m + 1 => by
    rw [cntN, cntN_nil n m]
    by_cases a : -(n : Int) + m = 0
    · have : freeB [] (-(n : Int) + m) = false := by unfold freeB; rw [beq_iff_eq.mpr a]; rfl
      rw [this, if_neg (by omega), if_neg (by simp), if_pos (by omega)]; omega
    · have : freeB [] (-(n : Int) + m) = true := by unfold freeB; rw [beq_eq_false_iff_ne.mpr a]; rfl
      rw [this, if_pos rfl]
      by_cases b : (n : Int) < m
      · rw [if_pos b, if_pos (by omega)]; omega
      · rw [if_neg b, if_neg (by omega)]; omega
/-- The binding of a rank, from pre on. -/
def ofGo (n : Nat) : Nat → List Int → Int → List Int
  | 0, pre, _ => pre
  | m + 1, pre, r => ofGo n m (pre ++ [(freeTo n pre (2 * n + 1)).getD (r / cB m).toNat 0]) (r % cB m)
theorem getD_mem (l : List Int) (k : Nat) (h : k < l.length) : l.getD k 0 ∈ l := by
  rw [List.getD_eq_getElem?_getD, List.getElem?_eq_getElem h]; exact List.getElem_mem h
theorem cB_pos : ∀ m : Nat, 1 ≤ cB m
  | 0 => by simp [cB]
  | m + 1 => by
    have ih := cB_pos m
    rw [cB]
    have := Int.mul_le_mul ih (by omega : (1 : Int) ≤ 2 * ((m : Int) + 1)) (by omega) (by omega)
    omega
/-- One step: what stands there is free, and two fewer stay free. -/
theorem of_step (n m : Nat) (pre : List Int) (r : Int) (hc : cntN n pre (2 * n + 1) = 2 * ((m : Int) + 1)) (h0 : 0 ≤ r) (h1 : r < cB (m + 1)) :
    0 ≤ r / cB m ∧ (r / cB m) < cntN n pre (2 * n + 1) ∧ (r / cB m).toNat < (freeTo n pre (2 * n + 1)).length ∧ 0 ≤ r % cB m ∧ r % cB m < cB m ∧ cntN n (pre ++ [(freeTo n pre (2 * n + 1)).getD (r / cB m).toNat 0]) (2 * n + 1) = 2 * (m : Int) := by
  have hp := cB_pos m
  have hq : r / cB m < 2 * ((m : Int) + 1) := by
    apply Int.ediv_lt_of_lt_mul (by omega)
    rw [cB, Int.mul_comm] at h1; exact h1
  have hq0 : 0 ≤ r / cB m := Int.ediv_nonneg h0 (by omega)
  have hl := freeTo_length n pre (2 * n + 1)
  have hk : (r / cB m).toNat < (freeTo n pre (2 * n + 1)).length := by omega
  obtain ⟨f1, f2, f3⟩ := freeTo_free n pre _ _ (getD_mem _ _ hk)
  refine ⟨hq0, by omega, hk, Int.emod_nonneg _ (by omega), Int.emod_lt_of_pos _ (by omega), ?_⟩
  generalize (freeTo n pre (2 * n + 1)).getD (r / cB m).toNat 0 = y at f1 f2 f3 ⊢
  have hy0 : y ≠ 0 := by
    intro h
    subst h
    unfold freeB at f1; simp at f1
  rw [cntN_snoc n pre y f1 hy0 f2 (by omega), if_pos (by omega), if_pos (by omega)]
  omega
theorem ofGo_length (n : Nat) : ∀ (m : Nat) (pre : List Int) (r : Int), (ofGo n m pre r).length = pre.length + m
  | 0, _, _ => rfl
  | m + 1, pre, r => by rw [ofGo, ofGo_length n m]; simp; omega
def ofB (n r : Int) : Bool := decide (1 ≤ n ∧ n ≤ 8) && decide (0 ≤ r ∧ r < cB n.toNat)
def ofM (n r : Int) : List Int := if ofB n r = true then ofGo n.toNat n.toNat [] r else []
theorem ofB_true {n r : Int} (h : ofB n r = true) : (1 ≤ n ∧ n ≤ 8) ∧ 0 ≤ r ∧ r < cB n.toNat := by simpa [ofB] using h
theorem ofM_small (n r : Int) : (ofM n r).length ≤ 1048576 := by
  unfold ofM
  split
  · rename_i h
    have := ofB_true h
    rw [ofGo_length]; simp; omega
  · simp
section
open Go.Proofs.Ytdjoegkoiapoaaa.PBindingOfRank
namespace Of
theorem l1In_eq (a lo hi : Int) : spec_l1In.f a lo hi = some (decide (lo ≤ a ∧ a ≤ hi)) := by
  unfold spec_l1In.f
  by_cases h : a ≥ lo
  · rw [if_pos h]; congr 1; simp [show lo ≤ a from h]
  · rw [if_neg h]; congr 1; simp; omega
theorem l1Has_l (z : Int) (xs : List Int) (hn : xs.length < 4611686018427387904) : ∀ (ys : List Int) (i : Int), 0 ≤ i → xs.drop i.toNat = ys →
    Ev (fun k => spec_l1Has.l0 k z xs (xs.length : Int) i) (ys.contains z) := by
  intro ys
  induction ys with
  | nil =>
    intro i h0 h
    have := drop_nil h0 h
    refine Ev.step (fun k => spec_l1Has.l0.eq_2 ..) ?_
    exact ev_neg (by omega) (ev_now (by simp))
  | cons y ys ih =>
    intro i h0 h
    obtain ⟨h1, h2, h3, _⟩ := drop_cons h0 h
    refine Ev.step (fun k => spec_l1Has.l0.eq_2 ..) ?_
    refine ev_pos h1 (ev_pos h0 (ev_pos h1 ?_))
    rw [h2, w64 (by omega) (by omega)]
    by_cases hy : y = z
    · exact ev_pos hy (ev_now (by simp [hy]))
    · exact ev_neg hy (ev_val (ih _ (by omega) h3) (by simp [Ne.symm hy]))
theorem l1Has_ev (xs : List Int) (z : Int) (hn : xs.length < 4611686018427387904) : Ev (fun k => spec_l1Has.f k xs z) (xs.contains z) := l1Has_l z xs hn xs 0 (by omega) rfl
theorem biAll_ev (a : Int) (h0 : 0 ≤ a) (h8 : a ≤ 8) : Ev (fun k => spec_biAll.f k a) (cB a.toNat) := by
  have h9 : ∀ m : Fin 9, spec_biAll.f 12 ((m : Nat) : Int) = some (cB m) := by decide +kernel
  have h := h9 ⟨a.toNat, by omega⟩
  simp only at h
  rw [Int.toNat_of_nonneg h0] at h
  exact Ev.of (fun k => spec_biAll.mono a k) h
theorem of_l1 (n : Nat) (hn : n ≤ 8) (pre : List Int) (hp : pre.length ≤ 8) (rk left i7 : Int) (at_ : Nat) (hal : at_ ≤ 100) (hat : (at_ : Int) < cntN n pre (2 * n + 1)) (hi7 : 0 ≤ i7) (hi8 : i7 ≤ 8) (res : List Int)
    (hres : Ev (fun k => spec_biOf.l0 k n rk (pre ++ [(freeTo n pre (2 * n + 1)).getD at_ 0]) left (i7 + 1)) res) :
    ∀ m i : Nat, i + m = 2 * n + 1 → cntN n pre i ≤ at_ → Ev (fun k => spec_biOf.l1 k n rk pre left i7 ((at_ : Int) - cntN n pre i) (-(n : Int) + i)) res := by
  intro m
  induction m with
  | zero =>
    intro i hi hc
    have : i = 2 * n + 1 := by omega
    subst this
    omega
  | succ m ih =>
    intro i hi hc
    have hcb := cntN_bd n pre i
    have h2 := ih (i + 1) (by omega)
    have e2 : -(n : Int) + ((i + 1 : Nat) : Int) = -(n : Int) + i + 1 := by omega
    rw [e2, cntN] at h2
    have hskip : freeB pre (-(n : Int) + i) = false → Ev (fun k => spec_biOf.j2 k n rk pre left i7 ((at_ : Int) - cntN n pre i) (-(n : Int) + i) true) res := fun hf => by
      refine Ev.step (fun k => spec_biOf.j2.eq_2 ..) (ev_pos rfl ?_)
      rw [w64 (by omega) (by omega)]
      rw [hf] at h2
      simpa using h2 (by simpa using hc)
    refine Ev.step (fun k => spec_biOf.l1.eq_2 ..) ?_
    rw [w64 (x := -(-(n : Int) + i)) (by omega) (by omega)]
    refine ev_pos (by omega) ?_
    by_cases c0 : -(n : Int) + i = 0
    · exact ev_pos c0 (hskip (by unfold freeB; rw [beq_iff_eq.mpr c0]; rfl))
    · refine ev_neg c0 (Ev.bind (l1Has_ev pre _ (by omega)) ?_)
      by_cases c1 : pre.contains (-(n : Int) + i) = true
      · exact ev_pos c1 (hskip (by unfold freeB; rw [c1]; simp))
      · refine ev_neg c1 (Ev.bind (l1Has_ev pre _ (by omega)) ?_)
        by_cases c2 : pre.contains (-(-(n : Int) + i)) = true
        · rw [c2]
          exact hskip (by unfold freeB; rw [c2]; simp)
        · rw [Bool.eq_false_iff.mpr c2]
          have hf : freeB pre (-(n : Int) + i) = true := by unfold freeB; rw [beq_eq_false_iff_ne.mpr c0, Bool.eq_false_iff.mpr c1, Bool.eq_false_iff.mpr c2]; rfl
          refine Ev.step (fun k => spec_biOf.j2.eq_2 ..) (ev_neg (by simp) ?_)
          by_cases c3 : (at_ : Int) - cntN n pre i = 0
          · refine ev_pos c3 (ev_pos (by omega) ?_)
            rw [w64 (by omega) (by omega)]
            obtain ⟨rest, hr⟩ := freeTo_split n pre i hf (2 * n + 1) (by omega)
            have hl := freeTo_length n pre i
            have hg : (freeTo n pre (2 * n + 1)).getD at_ 0 = -(n : Int) + i := by
              rw [hr, List.getD_eq_getElem?_getD, List.getElem?_append_right (by omega), show at_ - (freeTo n pre i).length = 0 from by omega]; rfl
            rw [hg] at hres
            exact hres
          · refine ev_neg c3 ?_
            rw [w64 (x := (at_ : Int) - cntN n pre i - 1) (by omega) (by omega), w64 (by omega) (by omega)]
            rw [hf, if_pos rfl] at h2
            have := h2 (by omega)
            rw [show (at_ : Int) - (cntN n pre i + 1) = (at_ : Int) - cntN n pre i - 1 from by omega] at this
            exact this
theorem of_l0 (n : Nat) (hn : n ≤ 8) : ∀ (m : Nat) (pre : List Int) (rk : Int), pre.length + m = n → cntN n pre (2 * n + 1) = 2 * (m : Int) → 0 ≤ rk → rk < cB m →
    Ev (fun k => spec_biOf.l0 k n rk pre (cB m) ((n : Int) - m)) (ofGo n m pre rk) := by
  intro m
  induction m with
  | zero =>
    intro pre rk h _ _ _
    refine Ev.step (fun k => spec_biOf.l0.eq_2 ..) ?_
    exact ev_neg (by omega) (ev_now rfl)
  | succ m ih =>
    intro pre rk h hc h0 h1
    have hc2 : cntN n pre (2 * n + 1) = 2 * ((m : Int) + 1) := by rw [hc]; omega
    obtain ⟨s1, s2, s3, s4, s5, s6⟩ := of_step n m pre rk hc2 h0 h1
    have hp := cB_pos m
    have hcb := (cB_bd m (by omega)).2
    have hcs : cB (m + 1) = cB m * (2 * ((m : Int) + 1)) := rfl
    have e1 : wrap64 (2 * wrap64 ((n : Int) - ((n : Int) - ((m + 1 : Nat) : Int)))) = 2 * ((m : Int) + 1) := by
      rw [w64 (x := (n : Int) - ((n : Int) - ((m + 1 : Nat) : Int))) (by omega) (by omega), w64 (by omega) (by omega)]; omega
    have e2 : wrap64 (Int.tdiv (cB (m + 1)) (2 * ((m : Int) + 1))) = cB m := by
      rw [hcs, Int.mul_tdiv_cancel _ (by omega)]; exact w64 (by omega) (by omega)
    have e3 : wrap64 (Int.tdiv rk (cB m)) = rk / cB m := by
      rw [Int.tdiv_eq_ediv_of_nonneg h0]; exact w64 (by omega) (by omega)
    have e4 : Int.tmod rk (cB m) = rk % cB m := Int.tmod_eq_emod_of_nonneg h0
    refine Ev.step (fun k => spec_biOf.l0.eq_2 ..) ?_
    rw [e1, e2, e3, e4, w64 (x := -(n : Int)) (by omega) (by omega)]
    refine ev_pos (by omega) (ev_neg (by omega) (ev_neg (by omega) ?_))
    have ihh := ih (pre ++ [(freeTo n pre (2 * n + 1)).getD (rk / cB m).toNat 0]) (rk % cB m) (by simp; omega) s6 s4 s5
    have hh := of_l1 n hn pre (by omega) (rk % cB m) (cB m) ((n : Int) - ((m + 1 : Nat) : Int)) (rk / cB m).toNat (by omega) (by omega) (by omega) (by omega) _ (by
      rw [show (n : Int) - ((m + 1 : Nat) : Int) + 1 = (n : Int) - m from by omega]; exact ihh) (2 * n + 1) 0 (by omega) (by rw [cntN]; omega)
    rw [cntN] at hh
    rw [show (((rk / cB m).toNat : Nat) : Int) - 0 = rk / cB m from by omega, show -(n : Int) + ((0 : Nat) : Int) = -(n : Int) from by omega] at hh
    exact hh
theorem specOf_ev (n r : Int) : Ev (fun k => spec_BindingOfRank.f k n r) (ofM n r, ofB n r) := by
  unfold spec_BindingOfRank.f spec_biLeaves.f
  rw [l1In_eq]
  refine ev_some (a := decide (1 ≤ n ∧ n ≤ 8)) rfl ?_
  by_cases h : 1 ≤ n ∧ n ≤ 8
  · rw [decide_eq_true h]
    have fail : ofB n r = false → (ofM n r, ofB n r) = (([] : List Int), false) := fun hb => by unfold ofM; rw [hb]; rfl
    refine ev_pos rfl ?_
    by_cases h0 : r < 0
    · exact ev_pos h0 (ev_now (fail (by unfold ofB; rw [decide_eq_false (by omega : ¬ (0 ≤ r ∧ r < cB n.toNat))]; simp)).symm)
    · refine ev_neg h0 (Ev.bind (biAll_ev n (by omega) h.2) ?_)
      by_cases h1 : r ≥ cB n.toNat
      · exact ev_pos h1 (ev_now (fail (by unfold ofB; rw [decide_eq_false (by omega : ¬ (0 ≤ r ∧ r < cB n.toNat))]; simp)).symm)
      · have hb : ofB n r = true := by unfold ofB; rw [decide_eq_true h, decide_eq_true (⟨by omega, by omega⟩ : 0 ≤ r ∧ r < cB n.toNat)]; rfl
        refine ev_neg h1 (Ev.bind ?_ (ev_now (by rw [hb])) (a := ofM n r))
        unfold spec_biOf.f
        refine Ev.bind (biAll_ev n (by omega) h.2) ?_
        have hh := of_l0 n.toNat (by omega) n.toNat [] r (by simp) (by rw [cntN_nil, if_pos (by omega)]; omega) (by omega) (by omega)
        rw [show ((n.toNat : Nat) : Int) = n from by omega, show n - n = 0 from by omega] at hh
        exact ev_val hh (by unfold ofM; rw [if_pos hb])
  · rw [decide_eq_false h]
    refine ev_neg (by simp) (ev_now ?_)
    have hb : ofB n r = false := by unfold ofB; rw [decide_eq_false h]; rfl
    unfold ofM; rw [hb]; rfl
end Of
theorem specOf_go (n r : Int) (w : World) :
    Calls Try.prog 20 #[.int .i64 n, .int .i64 r] w fun e w' => ∃ v : Value, e = .returned (.tuple #[v, .bool (ofB n r)]) ∧ Kd.R (Kd.int .i64) 3 w' w.heap.size (fun _ => True) v (ofM n r) ∧ Below w.heap.size w w' := by
  obtain ⟨k, hk⟩ := (Of.specOf_ev n r).rounds
  exact spec_BindingOfRank.calls k n r _ _ w hk
end
def ofT6 : Bool × List (List Nat × List Nat) := (true, [([], []), ([], []), ([], []), ([1, 2], [1, 2]), ([], []), ([], []), ([4, 5], [4, 5]), ([3, 6], [3, 6]), ([7], [7]), ([8], [8]), ([0, 9, 3], [0, 9]), ([10, 10, 0, 1, 2, 3, 4, 5, 6, 7, 8, 9, 10], [0, 2, 10])])
def ofB6 : List Nat := [0, 0, 0, 6, 0, 0, 48, 126, 254, 510, 1023, 2047]
theorem ofTab6 : rtab .any (opsOf Try.f21 6) = ofT6 := by kernel_rfl
theorem ofBits6 : waitsOk ofT6.2 ofB6 = true := by kernel_rfl
set_option maxHeartbeats 8000000 in
set_option maxRecDepth 100000 in
theorem implOf_go (n r0 : Int) (w : World) :
    Calls Try.prog 21 #[.int .i64 n, .int .i64 r0] w fun e w' => ∃ v : Value, e = .returned (.tuple #[v, .bool (ofB n r0)]) ∧ Kd.R (Kd.int .i64) 3 w' w.heap.size (fun _ => True) v (ofM n r0) ∧ Below w.heap.size w w' := by
  have HB := Aside0.mk (Below.refl w.heap.size w)
  have fail : ofB n r0 = false → ofM n r0 = [] := fun hb => by unfold ofM; rw [hb]; rfl
  by_cases h1 : 1 ≤ n ∧ n ≤ 8
  · have hcb := cB_bd n.toNat (by omega)
    have hcb1 : 1 ≤ cBi n := hcb.1
    have hcb2 : cBi n ≤ 10321920 := hcb.2
    have hn1 := h1.1
    have hn8 := h1.2
    have H1 := Aside0.mk (decide_eq_true h1)
    by_cases h2 : 0 ≤ r0 ∧ r0 ≤ cBi n - 1
    · have hb : ofB n r0 = true := by unfold ofB; rw [decide_eq_true h1, decide_eq_true (⟨h2.1, (show r0 < cBi n by omega)⟩ : 0 ≤ r0 ∧ r0 < cB n.toNat)]; rfl
      have hM : ofM n r0 = ofGo n.toNat n.toNat [] r0 := by unfold ofM; rw [if_pos hb]
      have H2 := Aside0.mk (decide_eq_true h2)
      rw [hb, hM]
      obtain ⟨nn, rfl⟩ : ∃ nn : Nat, n = (nn : Int) := ⟨n.toNat, by omega⟩
      rw [show ((nn : Nat) : Int).toNat = nn from by omega]
      have HNN : Aside0 (nn ≤ 8) := ⟨by omega⟩
      have HR0 : Aside0 (0 ≤ r0 ∧ r0 < cB nn) := ⟨h2.1, by have h3 : r0 < cBi (nn : Int) := by {omega}; have h4 : cBi (nn : Int) = cB nn := by {rw [cBi_def]; congr 1}; omega⟩
      clear fail hb hM hcb h1 h2
      generalize htot : ofGo nn nn [] r0 = total
      have HT0 := Aside0.mk htot
      clear htot
      go_enter Try.func21, Try.ntmps21
      go_wp2_with (first | (go_at_call 36; (with_reducible refine (within_go _ 1 8 _ _ H1.out).mono ?_); rintro e w' ⟨rfl, ⟨nd, rfl⟩⟩) | (go_at_call 37; (with_reducible refine (countBindings_go (nn : Int) (by omega) (by omega) _).mono ?_); rintro e w' ⟨rfl, ⟨nd, rfl⟩⟩) | (go_at_call 36; (with_reducible refine (within_go _ 0 _ _ _ H2.out).mono ?_); rintro e w' ⟨rfl, ⟨nd, rfl⟩⟩) | ((with_reducible refine gate_dst (N := 19) rfl ?_); refine Kd.R_lit (Kd.int .i64) _ 3 ?hg (N := 19) ?hd (xs := ([] : List Int)) (inner := []) (ok := fun _ => True) (okp := fun _ => True) ?hr ?hp (fun _ hk => hk) trivial (Below.refl _ _) (Nat.le_refl _) (by simp) ?_; (case hd => rfl); (case hg => rfl); (case hr => first | (go_simp; done) | (go_simp; rfl)); (case hp => exact (Reps.none _ _)); intro v19 w2 ho hb hg_ hnew_; clear hg_ hnew_; have HO0 := Aside0.mk (Kd.R_lower ho (below_size (by repeat (first | (with_reducible first | exact HB.out | apply below_alloc | apply pw_below_drewN | apply below_drew1) | exact HB.out)))); have n1_ := Aside0.mk (below_step (by repeat (first | (with_reducible first | exact HB.out | apply below_alloc | apply pw_below_drewN | apply below_drew1) | exact HB.out)) hb); clear HB; have HB := n1_; clear n1_ hb ho))
      go_loopg [1, 6] nn (fun kq v1 v6 w' => ∃ (r : Int) (pre : List Int), v1 = .int .i64 r ∧ Aside0 (pre.length + kq = nn ∧ 0 ≤ r ∧ r < cB kq ∧ cntN nn pre (2 * nn + 1) = 2 * (kq : Int)) ∧ Aside0 (ofGo nn kq pre r = total) ∧ Aside0 (Kd.R (Kd.int .i64) 3 w' w.heap.size (fun _ => True) v6 pre) ∧ Aside0 (Below w.heap.size w w'))
      case atStart => exact ⟨r0, [], rfl, ⟨by simp, HR0.out.1, HR0.out.2, by rw [cntN_nil, if_pos (by omega)]; omega⟩, ⟨HT0.out⟩, ⟨by ((with_reducible repeat (first | apply Kd.R_alloc | apply Kd.R_drewN | apply Kd.R_drew)); exact HO0.out)⟩, ⟨(by repeat (first | (with_reducible first | exact HB.out | apply below_alloc | apply pw_below_drewN | apply below_drew1) | exact HB.out))⟩⟩
      case round =>
      clear HO0 HB HR0 HT0
      obtain ⟨r, pre, rfl, HX, HT, HO, HB⟩ := hrel
      cases gk with
      | zero =>
        have HE : Aside0 (pre = total) := ⟨HT.out⟩
        have hpl : (nn : Int) ≤ (pre.length : Int) := by have := HX.out; omega
        obtain ⟨A6, c6, e6⟩ := Kd.R_slice HO.out
        subst e6
        go_wp2
        go_ret2
        exact ⟨_, rfl, by rw [← HE.out]; ((with_reducible repeat (first | apply Kd.R_alloc | apply Kd.R_drewN | apply Kd.R_drew)); exact HO.out), (by repeat (first | (with_reducible first | exact HB.out | apply below_alloc | apply pw_below_drewN | apply below_drew1) | exact HB.out))⟩
      | succ k1 =>
      obtain ⟨A6, c6, e6⟩ := Kd.R_slice HO.out
      subst e6
      have hpl : (pre.length : Int) < (nn : Int) := by have := HX.out; omega
      have hk8 : k1 ≤ 8 := by have := HX.out; have := HNN.out; omega
      have hpk : (nn : Int) - (pre.length : Int) - 1 = (k1 : Int) := by have := HX.out; omega
      have hr0 : 0 ≤ r := HX.out.2.1
      have hr1 : r ≤ 100000000 := by
        have h := HX.out.2.2.1
        have h2 := (cB_bd (k1 + 1) (by have := HX.out; have := HNN.out; omega)).2
        omega
      have hcc : cBi (k1 : Int) = cB k1 := by rw [cBi_def]; congr 1
      obtain ⟨s1, s2, s3, s4, s5, s6⟩ := of_step nn k1 pre r (by have := HX.out.2.2.2; omega) HX.out.2.1 HX.out.2.2.1
      have hp1 := cB_pos k1
      have hp2 := (cB_bd k1 hk8).2
      have hq1_ : r / cB k1 ≤ r := Int.ediv_le_self _ hr0
      obtain ⟨q, hq⟩ : ∃ q, r / cB k1 = q := ⟨_, rfl⟩
      rw [hq] at s1 s2 s3 s6 hq1_
      have hq0 : 0 ≤ q := s1
      have hql : q < ((freeTo nn pre (2 * nn + 1)).length : Int) := by omega
      have hwq : wrap64 (Int.tdiv r (cB k1)) = q := by rw [Int.tdiv_eq_ediv_of_nonneg hr0, hq]; exact w64 (by omega) (by omega)
      have hwq2 : IntKind.i64.wrap (Int.tdiv r (cB k1)) = q := (i64_w _).trans hwq
      obtain ⟨y, hy⟩ : ∃ y, (freeTo nn pre (2 * nn + 1)).getD q.toNat 0 = y := ⟨_, rfl⟩
      have hrd : rd (freeTo nn pre (2 * nn + 1)) q = y := hy
      rw [hy] at s6
      have HE : Aside0 (ofGo nn k1 (pre ++ [y]) (r % cB k1) = total) := ⟨by have h := HT.out; rw [ofGo, hq, hy] at h; exact h⟩
      have HS := Aside0.mk (And.intro s4 (And.intro s5 s6))
      have hne : cB k1 ≠ 0 := by omega
      have hpb : (pre.length : Int) ≤ 8 := by have := HX.out; have := HNN.out; omega
      clear s1 s2 s3 s4 s5 s6 hy HT hq hq1_
      go_wp2_with (first | (go_at_call 37; (with_reducible refine (countBindings_go (k1 : Int) (by omega) (by omega) _).mono ?_); rintro e w' ⟨rfl, ⟨nd, rfl⟩⟩; rw [hcc]))
      refine start_ (n := 12) (S := fun _ => True) (ds := [9, 10]) #[false, false, false, false, false, false, false, false, false, false, false, false] (by kernel_rfl) rfl rfl trivial (fun hHeld => ?_); refine with_tabW ofTab6 ofBits6 (fun HT_ HW_ => ?_)
      clear hHeld
      refine pure_ (i := 0) (N := some 30) (v := ?_) (a' := ?_) #[true, false, false, false, false, false, false, false, false, false, false, false] rfl rfl (any_of HT_.out (by kernel_rfl)) (fun _ _ _ h => h) (Or.inl ⟨by rfl, ?_⟩) ?_ ?_
      rotate_left
      · intro w'
        go_simp
        with_reducible rfl
      rotate_left
      · simp only [Act.put, List.setIfInBounds_toArray, List.set_cons_zero, List.set_cons_succ, i64_w, i32_w]
        rfl
      refine pure_ (i := 1) (N := some 31) (v := ?_) (a' := ?_) #[true, true, false, false, false, false, false, false, false, false, false, false] rfl rfl (any_of HT_.out (by kernel_rfl)) (fun _ _ _ h => h) (Or.inl ⟨by rfl, ?_⟩) ?_ ?_
      rotate_left
      · intro w'
        go_simp
        with_reducible rfl
      rotate_left
      · simp only [Act.put, List.setIfInBounds_toArray, List.set_cons_zero, List.set_cons_succ, i64_w, i32_w]
        rfl
      refine pure_ (i := 2) (N := some 32) (v := ?_) (a' := ?_) #[true, true, true, false, false, false, false, false, false, false, false, false] rfl rfl (any_of HT_.out (by kernel_rfl)) (fun _ _ _ h => h) (Or.inl ⟨by rfl, ?_⟩) ?_ ?_
      rotate_left
      · intro w'
        go_simp
        with_reducible rfl
      rotate_left
      · simp only [Act.put, List.setIfInBounds_toArray, List.set_cons_zero, List.set_cons_succ, i64_w, i32_w]
        rfl
      refine pure_ (i := 4) (N := some 34) (v := ?_) (a' := ?_) #[true, true, true, false, true, false, false, false, false, false, false, false] rfl rfl (any_of HT_.out (by kernel_rfl)) (fun _ _ _ h => h) (Or.inl ⟨by rfl, ?_⟩) ?_ ?_
      rotate_left
      · intro w'
        go_simp
        with_reducible rfl
      rotate_left
      · simp only [Act.put, List.setIfInBounds_toArray, List.set_cons_zero, List.set_cons_succ, i64_w, i32_w]
        rfl
      refine pure_ (i := 5) (N := some 35) (v := ?_) (a' := ?_) #[true, true, true, false, true, true, false, false, false, false, false, false] rfl rfl (any_of HT_.out (by kernel_rfl)) (fun _ _ _ h => h) (Or.inl ⟨by rfl, ?_⟩) ?_ ?_
      rotate_left
      · intro w'
        go_simp
        with_reducible rfl
      rotate_left
      · simp only [Act.put, List.setIfInBounds_toArray, List.set_cons_zero, List.set_cons_succ, i64_w, i32_w]
        rfl
      refine pure_ (i := 6) (N := some 36) (v := ?_) (a' := ?_) #[true, true, true, false, true, true, true, false, false, false, false, false] rfl rfl (any_of HT_.out (by kernel_rfl)) (fun _ _ _ h => h) (Or.inl ⟨by rfl, ?_⟩) ?_ ?_
      rotate_left
      · intro w'
        go_simp
        with_reducible rfl
      rotate_left
      · simp only [Act.put, List.setIfInBounds_toArray, List.set_cons_zero, List.set_cons_succ, i64_w, i32_w]
        rfl
      refine one_ (i := 3) (N := some 33) #[true, true, true, true, true, true, true, false, false, false, false, false] rfl rfl (one_of HT_.out (by kernel_rfl)) (by decide) (fun K hK => ?_)
      refine goes_ Try.func42 (by kernel_rfl) rfl #[.int .i64 (nn : Int), .slice A6 pre.length c6] (by rfl) rfl rfl (by (try simp only [List.map_toArray, List.map_cons, List.map_nil]); first | done | rfl) ?_
      with_reducible refine (choices_go _ _ _ pre nn _ ?side1 ?side2 (by have := HNN.out; omega) (by have := HX.out; have := HNN.out; omega)).mono ?_
      (case side1 => repeat (first | exact (Kd.R_reads' HO.out).2.2 | (with_reducible refine Kd.C_alloc ?_ _) | (with_reducible refine Kd.C_drewN ?_ _) | (with_reducible refine Kd.C_drew ?_)))
      (case side2 => exact (Kd.R_reads' HO.out).2.1)
      rintro e w21 ⟨v134, rfl, ho0, hb⟩
      refine ⟨_, rfl, ?_⟩
      have n0_ := Aside0.mk (Kd.R_elder' (by (with_reducible repeat (first | apply Kd.R_alloc | apply Kd.R_drewN | apply Kd.R_drew)); exact HO.out) (Kd.R_base ho0) hb)
      have n1_ := Aside0.mk (Kd.R_lower (Kd.R_new' ho0 (Kd.R_lt (by (with_reducible repeat (first | apply Kd.R_alloc | apply Kd.R_drewN | apply Kd.R_drew)); exact HO.out))) (below_size (by repeat (first | (with_reducible first | exact HB.out | apply below_alloc | apply pw_below_drewN | apply below_drew1) | exact HB.out))))
      have n2_ := Aside0.mk (below_step (by repeat (first | (with_reducible first | exact HB.out | apply below_alloc | apply pw_below_drewN | apply below_drew1) | exact HB.out)) hb)
      clear HO HB
      have HO := n0_
      have HC := n1_
      have HB := n2_
      clear n0_ n1_ n2_ ho0 hb
      obtain ⟨A33, c33, e33⟩ := Kd.R_slice HC.out
      subst e33
      obtain ⟨ad, e36, hc36⟩ := Kd.at_int (Kd.R_reads' HC.out).2.2 q hq0 hql
      cases e36
      rw [hrd] at hc36
      refine hK.out _ _ trivial (fun hHeld => ?_)
      clear hHeld
      clear hK K
      refine norm_ (a' := ?_) ?_ ?_
      rotate_left
      · show Act.put _ (some 33) _ = _
        simp only [Act.put, List.setIfInBounds_toArray, List.set_cons_zero, List.set_cons_succ, i64_w, i32_w]
        rfl
      refine pure_ (i := 7) (N := some 37) (v := ?_) (a' := ?_) #[true, true, true, true, true, true, true, true, false, false, false, false] rfl rfl (any_of HT_.out (by kernel_rfl)) (fun _ _ _ h => h) (Or.inl ⟨by rfl, ?_⟩) ?_ ?_
      rotate_left
      · intro w'
        go_simp
        with_reducible rfl
      rotate_left
      · simp only [Act.put, List.setIfInBounds_toArray, List.set_cons_zero, List.set_cons_succ, i64_w, i32_w]
        rfl
      refine one_ (i := 8) (N := some 38) #[true, true, true, true, true, true, true, true, true, false, false, false] rfl rfl (one_of HT_.out (by kernel_rfl)) (by decide) (fun K hK => ?_)
      refine value_ (w1 := ?_) (v := ?_) (by rfl) rfl ?_ ?_
      rotate_left 2
      · go_simp
        constructor
        · rfl
        · rfl
      refine hK.out _ _ trivial (fun hHeld => ?_)
      clear hHeld
      clear hK K
      refine norm_ (a' := ?_) ?_ ?_
      rotate_left
      · show Act.put _ (some 38) _ = _
        simp only [Act.put, List.setIfInBounds_toArray, List.set_cons_zero, List.set_cons_succ, i64_w, i32_w]
        rfl
      refine last_ (i := 9) (N := some 39) #[true, true, true, true, true, true, true, true, true, true, false, false] rfl rfl (one_of HT_.out (by kernel_rfl)) (by decide) (fun K hK => ?_)
      refine value_ (w1 := ?_) (v := ?_) (by rfl) rfl ?_ ?_
      rotate_left 2
      · go_simp
        constructor
        · rfl
        · rfl
      refine hK.out _ _ ?_
      clear hK K
      refine norm_ (a' := ?_) ?_ ?_
      rotate_left
      · show Act.put _ (some 39) _ = _
        simp only [Act.put, List.setIfInBounds_toArray, List.set_cons_zero, List.set_cons_succ, i64_w, i32_w]
        rfl
      refine last_ (i := 10) (N := some 40) #[true, true, true, true, true, true, true, true, true, true, true, false] rfl rfl (one_of HT_.out (by kernel_rfl)) (by decide) (fun K hK => ?_)
      refine Kd.R_append_step (Kd.int .i64) (w0 := w) w.heap.size (by rfl) (.tmp 30) (.tmp 39) 25 3 (.int .i64 0) 8 rfl Try.underlying25 infoI rfl (by decide) (by omega) (.slice A6 pre.length c6) pre y [.int .i64 y] (fun k_ => some k_ ≠ (.slice (some ad) (freeTo nn pre (2 * nn + 1)).length c33 : Value).ownBlock) (fun _ => False) rfl rfl ?aP (fun _ hk => hk.elim) ?aF ?aO ?aB ?aS ?aL ?_
      (case aP => exact rfl)
      (case aB => exact (by repeat (first | (with_reducible first | exact HB.out | apply below_alloc | apply pw_below_drewN | apply below_drew1) | exact HB.out)))
      (case aF => exact (fun k_ hk => Kd.fresh' (Kd.R_lt (by (with_reducible repeat (first | apply Kd.R_alloc | apply Kd.R_drewN | apply Kd.R_drew)); exact HC.out)) k_ hk))
      (case aO => exact (by (with_reducible repeat (first | apply Kd.R_alloc | apply Kd.R_drewN | apply Kd.R_drew)); exact Kd.R_mono HO.out (fun _ hk => hk.2)))
      (case aS => exact (below_size (by repeat (first | (with_reducible first | exact HB.out | apply below_alloc | apply pw_below_drewN | apply below_drew1) | exact HB.out))))
      (case aL => have := HX.out; have := HNN.out; omega)
      intro v138 w23 ho hb hg hat
      have n1_ := Aside0.mk hb
      have n2_ := Aside0.mk (Kd.R_mono (ok' := fun _ => True) ho (fun _ _ => trivial))
      clear HC HB HO
      have HB := n1_
      have HO := n2_
      clear n1_ n2_ ho hb hg hat
      refine hK.out _ _ ?_
      clear hK K
      refine norm_ (a' := ?_) ?_ ?_
      rotate_left
      · show Act.put _ (some 40) _ = _
        simp only [Act.put, List.setIfInBounds_toArray, List.set_cons_zero, List.set_cons_succ, i64_w, i32_w]
        rfl
      refine pure_ (i := 11) (N := some 6) (v := ?_) (a' := ?_) #[true, true, true, true, true, true, true, true, true, true, true, true] rfl rfl (any_of HT_.out (by kernel_rfl)) (fun _ _ _ h => h) (Or.inl ⟨by rfl, ?_⟩) ?_ ?_
      rotate_left
      · intro w'
        go_simp
        with_reducible rfl
      rotate_left
      · simp only [Act.put, List.setIfInBounds_toArray, List.set_cons_zero, List.set_cons_succ, i64_w, i32_w]
        rfl
      refine done_ (done_of HT_.out (by kernel_rfl)) ?_
      go_wp2
      go_roundg k1
      case measure => omega
      case rel => exact ⟨r % cB k1, pre ++ [y], rfl, ⟨by have := HX.out; simp; omega, HS.out.1, HS.out.2.1, HS.out.2.2⟩, ⟨HE.out⟩, ⟨by ((with_reducible repeat (first | apply Kd.R_alloc | apply Kd.R_drewN | apply Kd.R_drew)); exact HO.out)⟩, ⟨(by repeat (first | (with_reducible first | exact HB.out | apply below_alloc | apply pw_below_drewN | apply below_drew1) | exact HB.out))⟩⟩
    · have hb : ofB n r0 = false := by unfold ofB; rw [decide_eq_false (fun h => h2 ⟨h.1, (by have h3 : r0 < cBi n := h.2; omega)⟩ : ¬ (0 ≤ r0 ∧ r0 < cB n.toNat))]; simp
      have H2 := Aside0.mk (decide_eq_false h2)
      rw [hb, fail hb]
      clear fail hb hcb h1 h2
      go_enter Try.func21, Try.ntmps21
      go_wp2_with (first | (go_at_call 36; (with_reducible refine (within_go _ 1 8 _ _ H1.out).mono ?_); rintro e w' ⟨rfl, ⟨nd, rfl⟩⟩) | (go_at_call 37; (with_reducible refine (countBindings_go n (by omega) (by omega) _).mono ?_); rintro e w' ⟨rfl, ⟨nd, rfl⟩⟩) | (go_at_call 36; (with_reducible refine (within_go _ 0 _ _ _ H2.out).mono ?_); rintro e w' ⟨rfl, ⟨nd, rfl⟩⟩))
      go_ret2
      exact ⟨_, rfl, Kd.R_nil _ _ _ _ _, (by repeat (first | (with_reducible first | exact HB.out | apply below_alloc | apply pw_below_drewN | apply below_drew1) | exact HB.out))⟩
  · have hb : ofB n r0 = false := by unfold ofB; rw [decide_eq_false h1]; rfl
    have H1 := Aside0.mk (decide_eq_false h1)
    rw [hb, fail hb]
    clear fail hb h1
    go_enter Try.func21, Try.ntmps21
    go_wp2_with (first | (go_at_call 36; (with_reducible refine (within_go _ 1 8 _ _ H1.out).mono ?_); rintro e w' ⟨rfl, ⟨nd, rfl⟩⟩))
    go_ret2
    exact ⟨_, rfl, Kd.R_nil _ _ _ _ _, (by repeat (first | (with_reducible first | exact HB.out | apply below_alloc | apply pw_below_drewN | apply below_drew1) | exact HB.out))⟩
end Go.Proofs.Ytdjoegkoiapoaaa.Own
