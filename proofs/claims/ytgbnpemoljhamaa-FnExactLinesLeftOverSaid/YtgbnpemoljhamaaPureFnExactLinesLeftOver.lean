/- The law FnExactLinesLeftOver holds for every list of numbers and every number of lines: program and reference leave as many lines over on each page. No condition. -/
import Derived.Test.YtgbnpemoljhamaaPFnExactLinesLeftOverx5
namespace Go.Proofs.Ytgbnpemoljhamaa.Pure
open Go.RowKit Go.Proofs.Ytgbnpemoljhamaa.PFnExactLinesLeftOver Go.Proofs.YtgbnpemoljhamaaW.PrintWords Go.Proofs.YtgbnpemoljhamaaW.PrintLast

theorem w64 {x : Int} (h1 : -9223372036854775808 ≤ x) (h2 : x ≤ 9223372036854775807) : wrap64 x = x := by
  unfold wrap64; omega
theorem ev_pos {α : Type} {c : Prop} [Decidable c] {f g : Nat → Option α} {r : α} (hc : c) (h : Ev f r) : Ev (fun k => if c then f k else g k) r := by
  simpa only [if_pos hc] using h
theorem ev_neg {α : Type} {c : Prop} [Decidable c] {f g : Nat → Option α} {r : α} (hc : ¬ c) (h : Ev g r) : Ev (fun k => if c then f k else g k) r := by
  simpa only [if_neg hc] using h
theorem ev_now {α : Type} {r s : α} (h : r = s) : Ev (fun _ => some r) s := h ▸ Ev.now r
theorem ev_some {α β : Type} {x : Option α} {f : Nat → α → Option β} {a : α} {r : β} (h : x = some a) (k : Ev (fun n => f n a) r) : Ev (fun n => x.bind (f n)) r := by
  subst h; exact k
theorem ev_val {α : Type} {g : Nat → Option α} {a b : α} (h : Ev g a) (e : a = b) : Ev g b := e ▸ h
theorem ev_suc {α : Type} {g : Nat → Option α} {r : α} (h : Ev (fun k => g (k + 1)) r) : Ev g r := Ev.step (fun _ => rfl) h
theorem drop_nil {α : Type} {xs : List α} {i : Int} (h0 : 0 ≤ i) (h : xs.drop i.toNat = []) : (xs.length : Int) ≤ i := by
  have := List.drop_eq_nil_iff.1 h
  omega
theorem drop_get {α : Type} {xs : List α} {i : Int} {y : α} {ys : List α} (h0 : 0 ≤ i) (h : xs.drop i.toNat = y :: ys) : i < (xs.length : Int) ∧ (∀ d, xs.getD i.toNat d = y) ∧ xs.drop (i + 1).toNat = ys ∧ xs.take (i + 1).toNat = xs.take i.toNat ++ [y] := by
  have hl : i.toNat < xs.length := by
    rcases Nat.lt_or_ge i.toNat xs.length with hl | hl
    · exact hl
    · rw [List.drop_eq_nil_iff.2 hl] at h; cases h
  have e := List.drop_eq_getElem_cons hl
  rw [h] at e
  injection e with e1 e2
  have h1 : (i + 1).toNat = i.toNat + 1 := by omega
  refine ⟨by omega, fun d => ?_, ?_, ?_⟩
  · rw [List.getD_eq_getElem?_getD, List.getElem?_eq_getElem hl, e1]; rfl
  · rw [h1]; exact e2.symm
  · rw [h1, List.take_add_one, List.getElem?_eq_getElem hl, e1]; rfl
theorem drop_cons {xs : List Int} {i : Int} {y : Int} {ys : List Int} (h0 : 0 ≤ i) (h : xs.drop i.toNat = y :: ys) : i < (xs.length : Int) ∧ rd xs i = y ∧ xs.drop (i + 1).toNat = ys ∧ xs.take (i + 1).toNat = xs.take i.toNat ++ [y] := by
  obtain ⟨h1, h2, h3⟩ := drop_get h0 h
  exact ⟨h1, h2 0, h3⟩

/-- The breaks behind the inner lines of a paragraph of n lines, b lines ahead of it. -/
def midL (b : Int) (m : Nat) (k : Int) : List Int := (List.range m).map (fun j : Nat => b + (k + j))
theorem midL_zero (b k : Int) : midL b 0 k = [] := rfl
theorem midL_succ (b : Int) (m : Nat) (k : Int) : midL b (m + 1) k = (b + k) :: midL b m (k + 1) := by
  unfold midL
  rw [List.range_succ_eq_map, List.map_cons, List.map_map]
  congr 1
  · simp
  · refine List.map_congr_left fun j _ => ?_
    simp only [Function.comp_apply]
    omega
theorem midL_length (b : Int) (m : Nat) (k : Int) : (midL b m k).length = m := by simp [midL]
/-- All allowed breaks, that behind all lines the last one. -/
def allowL : Int → List Int → List Int
  | _, [] => []
  | b, n :: ns => midL b (n - 3).toNat 2 ++ (b + n) :: allowL (b + n) ns
theorem allowL_length : ∀ (ns : List Int) (b : Int), (∀ n ∈ ns, n ≤ 60) → (allowL b ns).length ≤ 61 * ns.length
  | [], b, _ => by simp [allowL]
  | n :: ns, b, h => by
    have h1 := h n List.mem_cons_self
    have ih := allowL_length ns (b + n) (fun x hx => h x (List.mem_cons_of_mem _ hx))
    simp only [allowL, List.length_append, midL_length, List.length_cons]
    omega
def parB (l : List Int) (a : Int) : Bool := decide (1 ≤ (l.length : Int) ∧ (l.length : Int) ≤ 12) && (decide (∀ n ∈ l, 1 ≤ n ∧ n ≤ 60) && decide (2 ≤ a ∧ a ≤ 60))
theorem parB_true {l : List Int} {a : Int} (h : parB l a = true) : (1 ≤ (l.length : Int) ∧ (l.length : Int) ≤ 12) ∧ (∀ n ∈ l, 1 ≤ n ∧ n ≤ 60) ∧ (2 ≤ a ∧ a ≤ 60) := by
  simpa [parB, and_assoc] using h

theorem l1In_eq (a lo hi : Int) : spec_l1In.f a lo hi = some (decide (lo ≤ a ∧ a ≤ hi)) := by
  unfold spec_l1In.f
  by_cases h : a ≥ lo
  · rw [if_pos h]; congr 1; simp [show lo ≤ a from h]
  · rw [if_neg h]; congr 1; simp; omega

theorem l1All_l (lo hi : Int) (xs : List Int) (hn : xs.length < 4611686018427387904) : ∀ (ys : List Int) (i : Int), 0 ≤ i → xs.drop i.toNat = ys →
    Ev (fun k => spec_l1All.l0 k lo hi xs (xs.length : Int) i) (decide (∀ n ∈ ys, lo ≤ n ∧ n ≤ hi)) := by
  intro ys
  induction ys with
  | nil =>
    intro i h0 h
    have := drop_nil h0 h
    refine Ev.step (fun k => spec_l1All.l0.eq_2 ..) ?_
    exact ev_neg (by omega) (ev_now (by simp))
  | cons y ys ih =>
    intro i h0 h
    obtain ⟨h1, h2, h3, _⟩ := drop_cons h0 h
    refine Ev.step (fun k => spec_l1All.l0.eq_2 ..) ?_
    refine ev_pos h1 (ev_pos h0 (ev_pos h1 ?_))
    rw [h2, w64 (by omega) (by omega)]
    refine ev_some (l1In_eq ..) ?_
    by_cases hy : lo ≤ y ∧ y ≤ hi
    · exact ev_pos (by simpa using hy) (ev_val (ih _ (by omega) h3) (by simp [hy]))
    · exact ev_neg (by simpa using hy) (ev_now (by simp [hy]))
theorem l1All_ev (xs : List Int) (lo hi : Int) (hn : xs.length < 4611686018427387904) :
    Ev (fun k => spec_l1All.f k xs lo hi) (decide (∀ n ∈ xs, lo ≤ n ∧ n ≤ hi)) := l1All_l lo hi xs hn xs 0 (by omega) rfl

theorem within_eq (a lo hi : Int) : impl_within.f a lo hi = some (decide (lo ≤ a ∧ a ≤ hi)) := by
  unfold impl_within.f
  by_cases h : a ≥ lo
  · rw [if_pos h]; congr 1; simp [show lo ≤ a from h]
  · rw [if_neg h]; congr 1; simp; omega

theorem allWithin_l (lo hi : Int) (xs : List Int) (hn : xs.length < 4611686018427387904) : ∀ (ys : List Int) (i : Int), 0 ≤ i → xs.drop i.toNat = ys →
    Ev (fun k => impl_allWithin.l0 k lo hi xs (xs.length : Int) i) (decide (∀ n ∈ ys, lo ≤ n ∧ n ≤ hi)) := by
  intro ys
  induction ys with
  | nil =>
    intro i h0 h
    have := drop_nil h0 h
    refine Ev.step (fun k => impl_allWithin.l0.eq_2 ..) ?_
    exact ev_neg (by omega) (ev_now (by simp))
  | cons y ys ih =>
    intro i h0 h
    obtain ⟨h1, h2, h3, _⟩ := drop_cons h0 h
    refine Ev.step (fun k => impl_allWithin.l0.eq_2 ..) ?_
    refine ev_pos h1 (ev_pos h0 (ev_pos h1 ?_))
    rw [h2, w64 (by omega) (by omega)]
    refine ev_some (within_eq ..) ?_
    by_cases hy : lo ≤ y ∧ y ≤ hi
    · exact ev_pos (by simpa using hy) (ev_val (ih _ (by omega) h3) (by simp [hy]))
    · exact ev_neg (by simpa using hy) (ev_now (by simp [hy]))
theorem allWithin_ev (xs : List Int) (lo hi : Int) (hn : xs.length < 4611686018427387904) :
    Ev (fun k => impl_allWithin.f k xs lo hi) (decide (∀ n ∈ xs, lo ≤ n ∧ n ≤ hi)) := allWithin_l lo hi xs hn xs 0 (by omega) rfl

theorem lnPages_ev (l : List Int) (a : Int) (hn : l.length < 4611686018427387904) : Ev (fun k => spec_lnPages.f k l a) (parB l a) := by
  unfold spec_lnPages.f parB
  refine ev_some (l1In_eq ..) ?_
  by_cases h : 1 ≤ (l.length : Int) ∧ (l.length : Int) ≤ 12
  · refine ev_pos (by simpa using h) (Ev.bind (l1All_ev l 1 60 hn) ?_)
    by_cases h2 : ∀ n ∈ l, 1 ≤ n ∧ n ≤ 60
    · exact ev_pos (decide_eq_true h2) (ev_some (l1In_eq ..) (ev_now (by rw [decide_eq_true h, decide_eq_true h2]; rfl)))
    · exact ev_neg (by rw [decide_eq_false h2]; simp) (ev_now (by rw [decide_eq_false h2]; simp))
  · exact ev_neg (by simpa using h) (ev_now (by simp [h]))
theorem areParagraphs_ev (l : List Int) (a : Int) (hn : l.length < 4611686018427387904) : Ev (fun k => impl_areParagraphs.f k l a) (parB l a) := by
  unfold impl_areParagraphs.f parB
  refine ev_some (within_eq ..) ?_
  by_cases h : 1 ≤ (l.length : Int) ∧ (l.length : Int) ≤ 12
  · refine ev_pos (by simpa using h) (Ev.bind (allWithin_ev l 1 60 hn) ?_)
    by_cases h2 : ∀ n ∈ l, 1 ≤ n ∧ n ≤ 60
    · exact ev_pos (decide_eq_true h2) (ev_some (within_eq ..) (ev_now (by rw [decide_eq_true h, decide_eq_true h2]; rfl)))
    · exact ev_neg (by rw [decide_eq_false h2]; simp) (ev_now (by rw [decide_eq_false h2]; simp))
  · exact ev_neg (by simpa using h) (ev_now (by simp [h]))
theorem allowed_l1 (n : Int) (P : List Int) (idx : Int) (r : List Int) (hn0 : 1 ≤ n) (hn : n ≤ 60) : ∀ (m : Nat) (x b : Int) (out : List Int), 2 ≤ x → x ≤ 61 → 0 ≤ b → b ≤ 100000 → (n - 1 - x).toNat = m → out.length + m < 1000000 →
    Ev (fun k => impl_allowed.l0 k (out ++ midL b m x ++ [b + n]) (b + n) P (P.length : Int) (wrap64 (idx + 1))) r → Ev (fun k => impl_allowed.l1 k out b n x P (P.length : Int) idx) r := by
  intro m
  induction m with
  | zero =>
    intro x b out hx hx2 hb0 hb hm ho h
    refine Ev.step (fun k => impl_allowed.l1.eq_2 ..) ?_
    rw [w64 (x := n - 1) (by omega) (by omega), w64 (x := b + n) (by omega) (by omega)]
    refine ev_neg (by omega) (ev_pos (by omega) ?_)
    simpa [midL_zero] using h
  | succ m ih =>
    intro x b out hx hx2 hb0 hb hm ho h
    refine Ev.step (fun k => impl_allowed.l1.eq_2 ..) ?_
    rw [w64 (x := n - 1) (by omega) (by omega), w64 (x := b + x) (by omega) (by omega), w64 (x := x + 1) (by omega) (by omega)]
    refine ev_pos (by omega) (ev_pos (by omega) ?_)
    refine ih (x + 1) b (out ++ [b + x]) (by omega) (by omega) hb0 hb (by omega) (by simp; omega) ?_
    rw [midL_succ] at h
    simpa using h
theorem allowed_l0 (P : List Int) (hP : P.length ≤ 12) (hin : ∀ n ∈ P, 1 ≤ n ∧ n ≤ 60) : ∀ (ys : List Int) (i b : Int) (out : List Int), 0 ≤ i → P.drop i.toNat = ys → 0 ≤ b → b + 60 * ys.length ≤ 10000 → out.length + 61 * ys.length ≤ 10000 →
    Ev (fun k => impl_allowed.l0 k out b P (P.length : Int) i) (out ++ allowL b ys) := by
  intro ys
  induction ys with
  | nil =>
    intro i b out h0 h _ _ _
    have := drop_nil h0 h
    refine Ev.step (fun k => impl_allowed.l0.eq_2 ..) ?_
    exact ev_neg (by omega) (ev_now (by simp [allowL]))
  | cons y ys ih =>
    intro i b out h0 h hb0 hb ho
    obtain ⟨h1, h2, h3, _⟩ := drop_cons h0 h
    have hy := hin y (List.mem_of_mem_drop (by rw [h]; exact List.mem_cons_self))
    simp only [List.length_cons] at hb ho
    refine Ev.step (fun k => impl_allowed.l0.eq_2 ..) ?_
    refine ev_pos h1 (ev_pos h0 (ev_pos h1 ?_))
    rw [h2]
    refine allowed_l1 y P i _ hy.1 hy.2 (y - 3).toNat 2 b out (by omega) (by omega) hb0 (by omega) (by omega) (by omega) ?_
    rw [w64 (by omega) (by omega)]
    refine ev_val (ih (i + 1) (b + y) _ (by omega) h3 (by omega) (by omega) ?_) (by simp [allowL])
    simp only [List.length_append, midL_length, List.length_cons, List.length_nil]
    omega
theorem allowed_ev (P : List Int) (hP : P.length ≤ 12) (hin : ∀ n ∈ P, 1 ≤ n ∧ n ≤ 60) : Ev (fun k => impl_allowed.f k P) (allowL 0 P) := by
  unfold impl_allowed.f
  exact allowed_l0 P hP hin P 0 0 [] (by omega) rfl (by omega) (by omega) (by simp; omega)

/-- The reference's lines of one paragraph from line x on: the last one of all is told by 'last'. -/
theorem lnAllowed_l1 (P : List Int) (idx n : Int) (hidx : 0 ≤ idx) (hi2 : idx < P.length) (hP : P.length ≤ 12) (r : List Int) (hn0 : 1 ≤ n) (hn : n ≤ 60) (b : Int) (hb0 : 0 ≤ b) (hb : b ≤ 100000) : ∀ (m : Nat) (x : Int) (out : List Int), 1 ≤ x → (n + 1 - x).toNat = m → x ≤ n + 1 → out.length + m < 1000000 →
    Ev (fun k => spec_lnAllowed.l0 k P (out ++ (((List.range m).map (fun j : Nat => x + j)).filter (fun v => decide (v = n ∧ idx ≠ (P.length : Int) - 1) || decide (1 < v ∧ v < n - 1))).map (fun v => b + v)) (b + n) P (P.length : Int) (idx + 1)) r →
    Ev (fun k => spec_lnAllowed.l1 k P out b idx n x P (P.length : Int) idx) r := by
  intro m
  induction m with
  | zero =>
    intro x out hx hm hx2 ho h
    refine Ev.step (fun k => spec_lnAllowed.l1.eq_2 ..) ?_
    rw [w64 (x := b + n) (by omega) (by omega), w64 (x := idx + 1) (by omega) (by omega)]
    refine ev_neg (by omega) ?_
    simpa using h
  | succ m ih =>
    intro x out hx hm hx2 ho h
    refine Ev.step (fun k => spec_lnAllowed.l1.eq_2 ..) ?_
    rw [w64 (x := n - 1) (by omega) (by omega), w64 (x := b + x) (by omega) (by omega), w64 (x := x + 1) (by omega) (by omega), w64 (x := (P.length : Int) - 1) (by omega) (by omega)]
    have er : (List.range (m + 1)).map (fun j : Nat => x + (j : Int)) = x :: (List.range m).map (fun j : Nat => (x + 1) + (j : Int)) := by
      rw [List.range_succ_eq_map, List.map_cons, List.map_map]
      congr 1
      · simp
      · refine List.map_congr_left fun j _ => ?_
        simp only [Function.comp_apply]
        omega
    rw [er] at h
    have skip : ∀ (_ : ¬ (x = n ∧ idx ≠ (P.length : Int) - 1)) (_ : ¬ (1 < x ∧ x < n - 1)), Ev (fun k => spec_lnAllowed.l1 k P out b idx n (x + 1) P (P.length : Int) idx) r := fun c1 c2 => by
      refine ih (x + 1) out (by omega) (by omega) (by omega) (by omega) ?_
      rw [List.filter_cons_of_neg (by simp [c1, c2])] at h
      exact h
    have take : ∀ (_ : (x = n ∧ idx ≠ (P.length : Int) - 1) ∨ (1 < x ∧ x < n - 1)), Ev (fun k => spec_lnAllowed.l1 k P (out ++ [b + x]) b idx n (x + 1) P (P.length : Int) idx) r := fun c => by
      refine ih (x + 1) (out ++ [b + x]) (by omega) (by omega) (by omega) (by simp; omega) ?_
      rw [List.filter_cons_of_pos (by simpa using c)] at h
      simpa using h
    refine ev_pos (by omega) ?_
    by_cases c1 : x < n
    · refine ev_pos c1 ?_
      by_cases c2 : x = 1
      · exact ev_pos c2 (skip (by omega) (by omega))
      · refine ev_neg c2 ?_
        by_cases c3 : x = n - 1
        · exact ev_pos c3 (skip (by omega) (by omega))
        · exact ev_neg c3 (ev_neg (by omega) (ev_pos (by omega) (take (by omega))))
    · refine ev_neg c1 (ev_pos (by omega) ?_)
      by_cases c4 : idx = (P.length : Int) - 1
      · exact ev_pos c4 (skip (by omega) (by omega))
      · exact ev_neg c4 (ev_pos (by omega) (take (by omega)))
theorem filter_lines (b n : Int) (hn0 : 1 ≤ n) (last : Bool) : (((List.range n.toNat).map (fun j : Nat => 1 + (j : Int))).filter (fun v => decide (v = n ∧ last = false) || decide (1 < v ∧ v < n - 1))).map (fun v => b + v) = midL b (n - 3).toNat 2 ++ (if last then [] else [b + n]) := by
  obtain ⟨N, rfl⟩ : ∃ N : Nat, n = (N : Int) + 1 := ⟨(n - 1).toNat, by omega⟩
  have e1 : ((N : Int) + 1).toNat = N + 1 := by omega
  rw [e1, List.range_succ, List.map_append, List.filter_append, List.map_append]
  congr 1
  · -- the lines ahead of the last one
    rcases Nat.lt_or_ge N 2 with h | h
    · have e2 : ((N : Int) + 1 - 3).toNat = 0 := by omega
      rw [e2, midL_zero]
      have : N = 0 ∨ N = 1 := by omega
      rcases this with rfl | rfl <;> simp
    · obtain ⟨M, rfl⟩ : ∃ M, N = M + 2 := ⟨N - 2, by omega⟩
      have e2 : (((M + 2 : Nat) : Int) + 1 - 3).toNat = M := by omega
      rw [e2, List.range_succ_eq_map, List.map_cons, List.filter_cons_of_neg (by simp; omega), List.range_succ, List.map_append, List.map_append, List.filter_append, List.map_append]
      have e3 : List.filter (fun v => decide (v = ((M + 2 : Nat) : Int) + 1 ∧ last = false) || decide (1 < v ∧ v < ((M + 2 : Nat) : Int) + 1 - 1)) (List.map (fun j : Nat => 1 + (j : Int)) (List.map Nat.succ [M])) = [] := by
        simp; omega
      rw [e3, List.map_nil, List.append_nil, List.filter_eq_self.2]
      · unfold midL
        rw [List.map_map, List.map_map]
        refine List.map_congr_left fun j _ => ?_
        simp only [Function.comp_apply]
        omega
      · intro a ha
        simp only [List.mem_map, List.mem_range] at ha
        obtain ⟨j, ⟨i, hi, rfl⟩, rfl⟩ := ha
        simp
        omega
  · have hv : (1 : Int) + (N : Int) = (N : Int) + 1 := by omega
    simp only [List.map_cons, List.map_nil, hv]
    cases last
    · rw [List.filter_cons_of_pos (by simp)]; simp
    · rw [List.filter_cons_of_neg (by simp; omega)]; simp
theorem lnAllowed_l0 (P : List Int) (hP : P.length ≤ 12) (hin : ∀ n ∈ P, 1 ≤ n ∧ n ≤ 60) : ∀ (ys : List Int) (i b : Int) (out : List Int), 0 ≤ i → P.drop i.toNat = ys → 0 ≤ b → b + 60 * ys.length ≤ 10000 → out.length + 61 * ys.length ≤ 10000 →
    Ev (fun k => spec_lnAllowed.l0 k P out b P (P.length : Int) i) (out ++ (allowL b ys).dropLast) := by
  intro ys
  induction ys with
  | nil =>
    intro i b out h0 h _ _ _
    have := drop_nil h0 h
    refine Ev.step (fun k => spec_lnAllowed.l0.eq_2 ..) ?_
    exact ev_neg (by omega) (ev_now (by simp [allowL]))
  | cons y ys ih =>
    intro i b out h0 h hb0 hb ho
    obtain ⟨h1, h2, h3, _⟩ := drop_cons h0 h
    have hy := hin y (List.mem_of_mem_drop (by rw [h]; exact List.mem_cons_self))
    simp only [List.length_cons] at hb ho
    have hlen : (P.length : Int) = i + 1 + ys.length := by
      have := congrArg List.length h
      rw [List.length_drop, List.length_cons] at this
      omega
    refine Ev.step (fun k => spec_lnAllowed.l0.eq_2 ..) ?_
    refine ev_pos h1 (ev_pos h0 (ev_pos h1 ?_))
    rw [h2]
    refine lnAllowed_l1 P i y h0 h1 hP _ hy.1 hy.2 b hb0 (by omega) y.toNat 1 out (by omega) (by omega) (by omega) (by omega) ?_
    have hf := filter_lines b y hy.1 (decide (i = (P.length : Int) - 1))
    have ef : (fun v : Int => decide (v = y ∧ i ≠ (P.length : Int) - 1) || decide (1 < v ∧ v < y - 1)) = (fun v => decide (v = y ∧ decide (i = (P.length : Int) - 1) = false) || decide (1 < v ∧ v < y - 1)) := by
      funext v; simp
    rw [ef, hf]
    cases ys with
    | nil =>
      have hl : decide (i = (P.length : Int) - 1) = true := by simp at hlen ⊢; omega
      rw [hl]
      refine ev_val (ih (i + 1) (b + y) _ (by omega) h3 (by omega) (by simp; omega) ?_) ?_
      · simp [midL_length]; omega
      · simp [allowL]
    | cons z zs =>
      have hl : decide (i = (P.length : Int) - 1) = false := by simp at hlen ⊢; omega
      rw [hl]
      simp only [List.length_cons] at hb ho
      refine ev_val (ih (i + 1) (b + y) _ (by omega) h3 (by omega) (by simp only [List.length_cons]; omega) ?_) ?_
      · simp [midL_length]; omega
      · have hne : allowL (b + y) (z :: zs) ≠ [] := by simp [allowL]
        have e : allowL b (y :: z :: zs) = midL b (y - 3).toNat 2 ++ (b + y) :: allowL (b + y) (z :: zs) := rfl
        rw [e, List.dropLast_append_of_ne_nil (by simp), List.dropLast_cons_of_ne_nil hne]
        simp
theorem lnAllowed_ev (P : List Int) (hP : P.length ≤ 12) (hin : ∀ n ∈ P, 1 ≤ n ∧ n ≤ 60) : Ev (fun k => spec_lnAllowed.f k P) (allowL 0 P).dropLast := by
  unfold spec_lnAllowed.f
  exact lnAllowed_l0 P hP hin P 0 0 [] (by omega) rfl (by omega) (by omega) (by simp; omega)

theorem total_l (xs : List Int) (hn : xs.length ≤ 12) (hin : ∀ n ∈ xs, 1 ≤ n ∧ n ≤ 60) : ∀ (ys : List Int) (i s : Int), 0 ≤ i → xs.drop i.toNat = ys → 0 ≤ s → s + 60 * ys.length ≤ 10000 →
    Ev (fun k => impl_total.l0 k s xs (xs.length : Int) i) (s + ys.sum) := by
  intro ys
  induction ys with
  | nil =>
    intro i s h0 h _ _
    have := drop_nil h0 h
    refine Ev.step (fun k => impl_total.l0.eq_2 ..) ?_
    exact ev_neg (by omega) (ev_now (by simp))
  | cons y ys ih =>
    intro i s h0 h hs hb
    obtain ⟨h1, h2, h3, _⟩ := drop_cons h0 h
    have hy := hin y (List.mem_of_mem_drop (by rw [h]; exact List.mem_cons_self))
    simp only [List.length_cons] at hb
    refine Ev.step (fun k => impl_total.l0.eq_2 ..) ?_
    refine ev_pos h1 (ev_pos h0 (ev_pos h1 ?_))
    rw [h2, w64 (x := i + 1) (by omega) (by omega), w64 (by omega) (by omega)]
    exact ev_val (ih (i + 1) (s + y) (by omega) h3 (by omega) (by omega)) (by rw [List.sum_cons]; omega)
theorem total_ev (xs : List Int) (hn : xs.length ≤ 12) (hin : ∀ n ∈ xs, 1 ≤ n ∧ n ≤ 60) : Ev (fun k => impl_total.f k xs) xs.sum :=
  ev_val (total_l xs hn hin xs 0 0 (by omega) rfl (by omega) (by omega)) (by omega)
theorem sum_bound : ∀ (xs : List Int), (∀ n ∈ xs, 1 ≤ n ∧ n ≤ 60) → (xs.length : Int) ≤ xs.sum ∧ xs.sum ≤ 60 * xs.length
  | [], _ => by simp
  | x :: xs, h => by
    have h1 := h x List.mem_cons_self
    have ih := sum_bound xs (fun n hn => h n (List.mem_cons_of_mem _ hn))
    rw [List.sum_cons, List.length_cons]; omega
theorem midL_mem {b : Int} {m : Nat} {k z : Int} (h : z ∈ midL b m k) : b + k ≤ z ∧ z < b + k + m := by
  unfold midL at h
  obtain ⟨j, hj, rfl⟩ := List.mem_map.1 h
  have := List.mem_range.1 hj
  omega
theorem allowL_mem : ∀ (ns : List Int) (b z : Int), (∀ n ∈ ns, 1 ≤ n ∧ n ≤ 60) → z ∈ allowL b ns → b < z ∧ z ≤ b + ns.sum
  | [], b, z, _, h => by simp [allowL] at h
  | n :: ns, b, z, hin, h => by
    have hn := hin n List.mem_cons_self
    have hin2 := fun x hx => hin x (List.mem_cons_of_mem n hx)
    have hs := sum_bound ns hin2
    rw [allowL, List.mem_append, List.mem_cons] at h
    rw [List.sum_cons]
    rcases h with h | rfl | h
    · have := midL_mem h; omega
    · omega
    · have := allowL_mem ns (b + n) z hin2 h; omega
theorem allowL_sorted : ∀ (ns : List Int) (b : Int), (∀ n ∈ ns, 1 ≤ n ∧ n ≤ 60) → (allowL b ns).Pairwise (· < ·)
  | [], b, _ => by simp [allowL]
  | n :: ns, b, hin => by
    have hn := hin n List.mem_cons_self
    have hin2 := fun x hx => hin x (List.mem_cons_of_mem n hx)
    rw [allowL, List.pairwise_append]
    refine ⟨?_, ?_, ?_⟩
    · unfold midL
      rw [List.pairwise_map]
      exact List.pairwise_lt_range.imp (fun h => by omega)
    · rw [List.pairwise_cons]
      exact ⟨fun z hz => (allowL_mem ns (b + n) z hin2 hz).1, allowL_sorted ns (b + n) hin2⟩
    · intro x hx y hy
      have h1 := midL_mem hx
      rw [List.mem_cons] at hy
      rcases hy with rfl | hy
      · omega
      · have := allowL_mem ns (b + n) y hin2 hy; omega
theorem allowL_last : ∀ (ns : List Int) (b : Int), ns ≠ [] → allowL b ns = (allowL b ns).dropLast ++ [b + ns.sum]
  | [], _, h => absurd rfl h
  | [n], b, _ => by simp [allowL]
  | n :: z :: zs, b, _ => by
    have ih := allowL_last (z :: zs) (b + n) (by simp)
    have e : allowL b (n :: z :: zs) = midL b (n - 3).toNat 2 ++ (b + n) :: allowL (b + n) (z :: zs) := rfl
    have hne : allowL (b + n) (z :: zs) ≠ [] := by simp [allowL]
    rw [e, List.dropLast_append_of_ne_nil (by simp), List.dropLast_cons_of_ne_nil hne, List.append_assoc, List.cons_append, List.sum_cons]
    have e2 : b + (n + (z :: zs).sum) = b + n + (z :: zs).sum := by omega
    rw [e2, ← ih]
/-- The last one that is not greater than c, as the program seeks it. -/
def lastLe (c : Int) : Int → List Int → Int
  | e, [] => e
  | e, b :: bs => lastLe c (if b ≤ c then b else e) bs
/-- The greatest one that is not greater than c, as the reference seeks it. -/
def mostLe (c : Int) : Int → List Int → Int
  | e, [] => e
  | e, b :: bs => mostLe c (if b ≤ c then max e b else e) bs
theorem most_last (c : Int) : ∀ (bs : List Int) (d e : Int), bs.Pairwise (· < ·) → (∀ x ∈ bs, e ≤ x) → mostLe c (max d e) bs = max d (lastLe c e bs)
  | [], d, e, _, _ => rfl
  | b :: bs, d, e, hs, he => by
    rw [List.pairwise_cons] at hs
    have hb := he b List.mem_cons_self
    simp only [mostLe, lastLe]
    by_cases h : b ≤ c
    · rw [if_pos h, if_pos h]
      have e1 : max (max d e) b = max d b := by omega
      rw [e1]
      exact most_last c bs d b hs.2 (fun x hx => by have := hs.1 x hx; omega)
    · rw [if_neg h, if_neg h]
      exact most_last c bs d e hs.2 (fun x hx => he x (List.mem_cons_of_mem _ hx))
theorem last_start (c : Int) : ∀ (bs : List Int) (d e : Int), (∀ x ∈ bs, c < x) ∧ lastLe c d bs = d ∧ lastLe c e bs = e ∨ lastLe c d bs = lastLe c e bs
  | [], d, e => .inl ⟨by simp, rfl, rfl⟩
  | b :: bs, d, e => by
    simp only [lastLe]
    by_cases h : b ≤ c
    · rw [if_pos h, if_pos h]; exact .inr rfl
    · rw [if_neg h, if_neg h]
      rcases last_start c bs d e with ⟨h1, h2, h3⟩ | h1
      · exact .inl ⟨fun x hx => by rcases List.mem_cons.1 hx with rfl | hx; omega; exact h1 x hx, h2, h3⟩
      · exact .inr h1
theorem lastLe_snoc (c z : Int) (hz : c < z) : ∀ (bs : List Int) (e : Int), lastLe c e (bs ++ [z]) = lastLe c e bs
  | [], e => by simp [lastLe]; omega
  | b :: bs, e => by simp only [List.cons_append, lastLe]; exact lastLe_snoc c z hz bs _
theorem lastLe_le (c : Int) : ∀ (bs : List Int) (e : Int), lastLe c e bs ≤ max e c
  | [], e => by simp only [lastLe]; omega
  | b :: bs, e => by
    simp only [lastLe]
    have := lastLe_le c bs (if b ≤ c then b else e)
    split at this <;> rename_i h <;> simp only [h, if_true, if_false] <;> omega

theorem implBreaks_l1 (P : List Int) (lines : Int) (out A : List Int) (from_ : Int) (r : List Int × Bool) (hA : A.length < 100000) (hl : 2 ≤ lines ∧ lines ≤ 60) (hf : 0 ≤ from_ ∧ from_ ≤ 10000) (z : Int) (hr : Ev (fun k => if z ≤ from_ then some (([] : List Int), false) else if out.length < 17592186044416 then impl_ParagraphBreaks.l0 k P lines (out ++ [z]) A z else none) r) : ∀ (ys : List Int) (i e : Int), 0 ≤ i → A.drop i.toNat = ys → lastLe (from_ + lines) e ys = z →
    Ev (fun k => impl_ParagraphBreaks.l1 k P lines out A from_ e A (A.length : Int) i) r := by
  intro ys
  induction ys with
  | nil =>
    intro i e h0 h hz
    have := drop_nil h0 h
    simp only [lastLe] at hz
    subst hz
    refine Ev.step (fun k => impl_ParagraphBreaks.l1.eq_2 ..) ?_
    exact ev_neg (by omega) hr
  | cons y ys ih =>
    intro i e h0 h hz
    obtain ⟨h1, h2, h3, _⟩ := drop_cons h0 h
    refine Ev.step (fun k => impl_ParagraphBreaks.l1.eq_2 ..) ?_
    refine ev_pos h1 (ev_pos h0 (ev_pos h1 ?_))
    rw [h2, w64 (x := from_ + lines) (by omega) (by omega), w64 (x := i + 1) (by omega) (by omega)]
    simp only [lastLe] at hz
    by_cases hy : y ≤ from_ + lines
    · rw [if_pos hy] at hz
      exact ev_pos hy (ih (i + 1) y (by omega) h3 hz)
    · rw [if_neg hy] at hz
      exact ev_neg hy (ih (i + 1) e (by omega) h3 hz)
theorem most_eq (a b : Int) : spec_l1Most.f a b = some (max a b) := by
  unfold spec_l1Most.f
  split
  · congr 1; omega
  · congr 1; omega
theorem specBreaks_l2 (lines T : Int) (out A : List Int) (from_ : Int) (r : List Int × Bool) (hA : A.length < 100000) (hl : 2 ≤ lines ∧ lines ≤ 60) (hf : 0 ≤ from_ ∧ from_ ≤ 10000) (z : Int) (hr : Ev (fun k => if z = from_ then some (([] : List Int), false) else if out.length < 17592186044416 then spec_lnBreaks.l1 k lines T A (out ++ [z]) z else none) r) : ∀ (ys : List Int) (i e : Int), 0 ≤ i → A.drop i.toNat = ys → mostLe (from_ + lines) e ys = z →
    Ev (fun k => spec_lnBreaks.l2 k lines T A out from_ e A (A.length : Int) i) r := by
  intro ys
  induction ys with
  | nil =>
    intro i e h0 h hz
    have := drop_nil h0 h
    simp only [mostLe] at hz
    subst hz
    refine Ev.step (fun k => spec_lnBreaks.l2.eq_2 ..) ?_
    exact ev_neg (by omega) hr
  | cons y ys ih =>
    intro i e h0 h hz
    obtain ⟨h1, h2, h3, _⟩ := drop_cons h0 h
    refine Ev.step (fun k => spec_lnBreaks.l2.eq_2 ..) ?_
    refine ev_pos h1 (ev_pos h0 (ev_pos h1 ?_))
    rw [h2, w64 (x := from_ + lines) (by omega) (by omega), w64 (x := i + 1) (by omega) (by omega)]
    simp only [mostLe] at hz
    by_cases hy : y ≤ from_ + lines
    · rw [if_pos hy] at hz
      exact ev_pos hy (ev_some (most_eq ..) (ih (i + 1) (max e y) (by omega) h3 hz))
    · rw [if_neg hy] at hz
      exact ev_neg hy (ih (i + 1) e (by omega) h3 hz)
/-- Both find the same breaks, from any break on. -/
theorem breaks_same (P : List Int) (lines : Int) (hP : P.length ≤ 12) (hP1 : 1 ≤ P.length) (hin : ∀ n ∈ P, 1 ≤ n ∧ n ≤ 60) (hl : 2 ≤ lines ∧ lines ≤ 60) : ∀ (m : Nat) (from_ : Int) (out : List Int), 0 ≤ from_ → from_ ≤ P.sum → P.sum - from_ ≤ m → out.length + m ≤ 10000 →
    ∃ r : List Int × Bool, Ev (fun k => impl_ParagraphBreaks.l0 k P lines out (allowL 0 P) from_) r ∧ Ev (fun k => spec_lnBreaks.l1 k lines P.sum (allowL 0 P).dropLast out from_) r ∧ r.1.length ≤ out.length + m ∧ (r.2 = false → r.1 = []) := by
  intro m
  have hsb := sum_bound P hin
  have hne : P ≠ [] := by intro e; rw [e] at hP1; simp at hP1
  have hA := allowL_length P 0 (fun n hn => (hin n hn).2)
  have hlast := allowL_last P 0 hne
  have hsort := allowL_sorted P 0 hin
  have hmem := fun z hz => allowL_mem P 0 z hin hz
  induction m with
  | zero =>
    intro from_ out h0 h1 h2 h3
    refine ⟨(out, true), ?_, ?_, by simp, by simp⟩
    · refine Ev.step (fun k => impl_ParagraphBreaks.l0.eq_2 ..) (Ev.bind (total_ev P hP hin) ?_)
      rw [w64 (by omega) (by omega)]
      exact ev_neg (by omega) (ev_now rfl)
    · refine Ev.step (fun k => spec_lnBreaks.l1.eq_2 ..) ?_
      rw [w64 (by omega) (by omega)]
      exact ev_neg (by omega) (ev_now rfl)
  | succ m ih =>
    intro from_ out h0 h1 h2 h3
    by_cases hc : P.sum - from_ > lines
    · -- the next break
      have hz : lastLe (from_ + lines) from_ (allowL 0 P) = lastLe (from_ + lines) from_ (allowL 0 P).dropLast := by
        conv => lhs; rw [hlast]
        exact lastLe_snoc _ _ (by omega) _ _
      have hs2 : (allowL 0 P).dropLast.Pairwise (· < ·) := hsort.sublist (List.dropLast_sublist _)
      have hm2 := most_last (from_ + lines) (allowL 0 P).dropLast from_ 0 hs2 (fun x hx => by have := hmem x ((List.dropLast_sublist _).subset hx); omega)
      have e0 : max from_ 0 = from_ := by omega
      rw [e0] at hm2
      have hst := last_start (from_ + lines) (allowL 0 P).dropLast from_ 0
      have hle := lastLe_le (from_ + lines) (allowL 0 P).dropLast from_
      generalize hE : lastLe (from_ + lines) from_ (allowL 0 P).dropLast = E at hz hst hle
      generalize hM : mostLe (from_ + lines) from_ (allowL 0 P).dropLast = M at hm2
      generalize hZ : lastLe (from_ + lines) 0 (allowL 0 P).dropLast = Z at hm2 hst
      have hrel : (E ≤ from_ ∧ M = from_) ∨ (from_ < E ∧ M = E) := by
        rcases hst with ⟨_, r1, r2⟩ | r1
        · left; omega
        · by_cases h : from_ < E
          · right; omega
          · left; omega
      rcases hrel with ⟨hr1, hr2⟩ | ⟨hr1, hr2⟩
      · refine ⟨([], false), ?_, ?_, by simp, by simp⟩
        · refine Ev.step (fun k => impl_ParagraphBreaks.l0.eq_2 ..) (Ev.bind (total_ev P hP hin) ?_)
          rw [w64 (by omega) (by omega)]
          refine ev_pos hc (implBreaks_l1 P lines out (allowL 0 P) from_ _ (by omega) hl ⟨h0, by omega⟩ E ?_ (allowL 0 P) 0 from_ (by omega) rfl hz)
          exact ev_pos hr1 (ev_now rfl)
        · refine Ev.step (fun k => spec_lnBreaks.l1.eq_2 ..) ?_
          rw [w64 (by omega) (by omega)]
          refine ev_pos hc (specBreaks_l2 lines P.sum out (allowL 0 P).dropLast from_ _ (by rw [List.length_dropLast]; omega) hl ⟨h0, by omega⟩ M ?_ (allowL 0 P).dropLast 0 from_ (by omega) rfl hM)
          exact ev_pos hr2 (ev_now rfl)
      · obtain ⟨r, q1, q2, q3, q4⟩ := ih E (out ++ [E]) (by omega) (by omega) (by omega) (by simp; omega)
        refine ⟨r, ?_, ?_, by simp at q3; omega, q4⟩
        · refine Ev.step (fun k => impl_ParagraphBreaks.l0.eq_2 ..) (Ev.bind (total_ev P hP hin) ?_)
          rw [w64 (by omega) (by omega)]
          refine ev_pos hc (implBreaks_l1 P lines out (allowL 0 P) from_ _ (by omega) hl ⟨h0, by omega⟩ E ?_ (allowL 0 P) 0 from_ (by omega) rfl hz)
          exact ev_neg (by omega) (ev_pos (by omega) q1)
        · refine Ev.step (fun k => spec_lnBreaks.l1.eq_2 ..) ?_
          rw [w64 (by omega) (by omega)]
          refine ev_pos hc (specBreaks_l2 lines P.sum out (allowL 0 P).dropLast from_ _ (by rw [List.length_dropLast]; omega) hl ⟨h0, by omega⟩ E ?_ (allowL 0 P).dropLast 0 from_ (by omega) rfl (hM.trans hr2))
          exact ev_neg (by omega) (ev_pos (by omega) q2)
    · refine ⟨(out, true), ?_, ?_, by simp, by simp⟩
      · refine Ev.step (fun k => impl_ParagraphBreaks.l0.eq_2 ..) (Ev.bind (total_ev P hP hin) ?_)
        rw [w64 (by omega) (by omega)]
        exact ev_neg hc (ev_now rfl)
      · refine Ev.step (fun k => spec_lnBreaks.l1.eq_2 ..) ?_
        rw [w64 (by omega) (by omega)]
        exact ev_neg hc (ev_now rfl)

theorem lnBreaks_l0 (P : List Int) (lines : Int) (hP : P.length ≤ 12) (hin : ∀ n ∈ P, 1 ≤ n ∧ n ≤ 60) (r : List Int × Bool) (hr : Ev (fun k => spec_lnBreaks.l1 k lines P.sum (allowL 0 P).dropLast [] 0) r) : ∀ (ys : List Int) (i s : Int), 0 ≤ i → P.drop i.toNat = ys → 0 ≤ s → s + 60 * ys.length ≤ 10000 → s + ys.sum = P.sum →
    Ev (fun k => spec_lnBreaks.l0 k P lines s P (P.length : Int) i) r := by
  intro ys
  induction ys with
  | nil =>
    intro i s h0 h _ _ hs
    have := drop_nil h0 h
    refine Ev.step (fun k => spec_lnBreaks.l0.eq_2 ..) ?_
    refine ev_neg (by omega) (Ev.bind (lnAllowed_ev P hP hin) ?_)
    have e : s = P.sum := by simpa using hs
    rw [e]
    exact hr
  | cons y ys ih =>
    intro i s h0 h hs0 hb hs
    obtain ⟨h1, h2, h3, _⟩ := drop_cons h0 h
    have hy := hin y (List.mem_of_mem_drop (by rw [h]; exact List.mem_cons_self))
    simp only [List.length_cons] at hb
    rw [List.sum_cons] at hs
    refine Ev.step (fun k => spec_lnBreaks.l0.eq_2 ..) ?_
    refine ev_pos h1 (ev_pos h0 (ev_pos h1 ?_))
    rw [h2, w64 (x := i + 1) (by omega) (by omega), w64 (by omega) (by omega)]
    exact ih (i + 1) (s + y) (by omega) h3 (by omega) (by omega) (by omega)
/-- Program and reference tell the same breaks. -/
theorem breaksPair (l : List Int) (a : Int) (hn : l.length ≤ 1048576) : ∃ r : List Int × Bool, Ev (fun k => impl_ParagraphBreaks.f k l a) r ∧ Ev (fun k => spec_ParagraphBreaks.f k l a) r ∧ r.1.length ≤ 1000 ∧ (r.2 = true → parB l a = true) ∧ (r.2 = false → r.1 = []) := by
  by_cases h : parB l a = true
  · obtain ⟨h1, h2, h3⟩ := parB_true h
    have hs := sum_bound l h2
    obtain ⟨r, q1, q2, q3, q4⟩ := breaks_same l a (by omega) (by omega) h2 h3 720 0 [] (by omega) (by omega) (by omega) (by simp)
    refine ⟨r, ?_, ?_, by simp at q3; omega, fun _ => h, q4⟩
    · unfold impl_ParagraphBreaks.f
      exact Ev.bind (areParagraphs_ev l a (by omega)) (ev_pos h (Ev.bind (allowed_ev l (by omega) h2) q1))
    · unfold spec_ParagraphBreaks.f
      refine Ev.bind (lnPages_ev l a (by omega)) (ev_pos h (Ev.bind (a := r) ?_ (ev_now rfl)))
      unfold spec_lnBreaks.f
      exact lnBreaks_l0 l a (by omega) h2 r q2 l 0 0 (by omega) rfl (by omega) (by omega) (by omega)
  · refine ⟨([], false), ?_, ?_, by simp, by simp, by simp⟩
    · unfold impl_ParagraphBreaks.f
      exact Ev.bind (areParagraphs_ev l a (by omega)) (ev_neg h (ev_now rfl))
    · unfold spec_ParagraphBreaks.f
      exact Ev.bind (lnPages_ev l a (by omega)) (ev_neg h (ev_now rfl))

theorem toIntS_l (xs : List Int) (hn : xs.length < 4611686018427387904) : ∀ (ys : List Int) (i : Int) (zs : List Int), 0 ≤ i → xs.drop i.toNat = ys → zs.length = ys.length →
    Ev (fun k => laws_toIntS.l0 k xs (xs.take i.toNat ++ zs) i) xs := by
  intro ys
  induction ys with
  | nil =>
    intro i zs h0 h hz
    have := drop_nil h0 h
    refine Ev.step (fun k => laws_toIntS.l0.eq_2 ..) ?_
    have hz : zs = [] := List.eq_nil_of_length_eq_zero hz
    refine ev_neg (by omega) (ev_now ?_)
    rw [hz, List.append_nil, List.take_of_length_le (by omega)]
  | cons y ys ih =>
    intro i zs h0 h hz
    obtain ⟨h1, h2, h3, h4⟩ := drop_cons h0 h
    obtain ⟨z, zs, rfl⟩ : ∃ z zs', zs = z :: zs' := List.exists_cons_of_length_eq_add_one hz
    have hl : (xs.take i.toNat).length = i.toNat := by rw [List.length_take]; omega
    refine Ev.step (fun k => laws_toIntS.l0.eq_2 ..) ?_
    refine ev_pos h1 (ev_pos h0 (ev_pos (by rw [List.length_append, hl, List.length_cons]; omega) ?_))
    rw [h2, w64 (by omega) (by omega)]
    have e : (xs.take i.toNat ++ z :: zs).set i.toNat y = xs.take (i + 1).toNat ++ zs := by
      rw [h4, List.set_append_right _ _ (by omega), hl, Nat.sub_self, List.set_cons_zero, List.append_assoc]; rfl
    rw [e]
    exact ih (i + 1) zs (by omega) h3 (by simpa using hz)
theorem toIntS_ev (xs : List Int) (hn : xs.length ≤ 1048576) : Ev (fun k => laws_toIntS.f k xs) xs := by
  unfold laws_toIntS.f
  refine ev_pos (by omega) (ev_pos (by omega) ?_)
  exact toIntS_l xs (by omega) xs 0 _ (by omega) rfl (by simp)

theorem eqIntS_l (xs : List Int) (hn : xs.length < 4611686018427387904) : ∀ (ys : List Int) (i : Int), 0 ≤ i → xs.drop i.toNat = ys →
    Ev (fun k => laws_eqIntS.l0 k xs xs i) true := by
  intro ys
  induction ys with
  | nil =>
    intro i h0 h
    have := drop_nil h0 h
    refine Ev.step (fun k => laws_eqIntS.l0.eq_2 ..) ?_
    exact ev_neg (by omega) (ev_now rfl)
  | cons y ys ih =>
    intro i h0 h
    obtain ⟨h1, h2, h3, _⟩ := drop_cons h0 h
    refine Ev.step (fun k => laws_eqIntS.l0.eq_2 ..) ?_
    refine ev_pos h1 (ev_pos h0 (ev_pos h1 (ev_pos rfl ?_)))
    rw [w64 (by omega) (by omega)]
    exact ih _ (by omega) h3
theorem eqIntS_ev (xs : List Int) (hn : xs.length < 4611686018427387904) : Ev (fun k => laws_eqIntS.f k xs xs) true := by
  unfold laws_eqIntS.f
  exact ev_pos rfl (eqIntS_l xs hn xs 0 (by omega) rfl)

/-- What a list reads as behind the marking. -/
def marks (n : Nat) : List Int := (List.range n).map (fun i : Nat => (1 : Int) + i)
theorem marks_length (n : Nat) : (marks n).length = n := by simp [marks]
theorem marks_succ (n : Nat) : marks (n + 1) = marks n ++ [(1 : Int) + n] := by simp [marks, List.range_succ]
/-- A list whose first x elements are marked. -/
def marked (l : List Int) (x : Nat) : List Int := marks x ++ l.drop x
theorem marked_zero (l : List Int) : marked l 0 = l := by simp [marked, marks]
theorem marked_length (l : List Int) (x : Nat) (h : x ≤ l.length) : (marked l x).length = l.length := by simp [marked, marks_length]; omega
theorem marked_all (l : List Int) (x : Nat) (h : l.length ≤ x) (h2 : x ≤ l.length) : marked l x = marks l.length := by
  have e : x = l.length := by omega
  subst e
  simp [marked]
theorem marked_set (l : List Int) (x : Nat) (h : x < l.length) : (marked l x).set x (1 + (x : Int)) = marked l (x + 1) := by
  unfold marked
  rw [List.set_append_right _ _ (by rw [marks_length]; exact Nat.le_refl _), marks_length, Nat.sub_self, List.drop_eq_getElem_cons h, List.set_cons_zero, marks_succ, List.append_assoc]
  rfl

theorem markIntS_l (n : Nat) (hn : n < 1073741824) : ∀ (ys : List Int) (i : Nat), i + ys.length = n →
    Ev (fun k => laws_markIntS.l0 k (marks i ++ ys) (1 + (i : Int)) (i : Int)) ((1 : Int) + n, marks n) := by
  intro ys
  induction ys with
  | nil =>
    intro i h
    refine Ev.step (fun k => laws_markIntS.l0.eq_2 ..) ?_
    simp at h
    subst h
    exact ev_neg (by simp [marks_length]) (ev_now (by simp))
  | cons y ys ih =>
    intro i h
    simp at h
    refine Ev.step (fun k => laws_markIntS.l0.eq_2 ..) ?_
    refine ev_pos (by simp [marks_length]; omega) (ev_pos (by omega) ?_)
    rw [w64 (by omega) (by omega), w64 (by omega) (by omega)]
    have e : (marks i ++ y :: ys).set (i : Int).toNat (1 + (i : Int)) = marks (i + 1) ++ ys := by
      rw [marks_succ, Int.toNat_natCast, List.set_append_right _ _ (by rw [marks_length]; exact Nat.le_refl _), marks_length, Nat.sub_self, List.set_cons_zero, List.append_assoc]; rfl
    rw [e]
    have h2 := ih (i + 1) (by omega)
    have e2 : (1 : Int) + ((i + 1 : Nat) : Int) = 1 + (i : Int) + 1 := by omega
    have e3 : ((i + 1 : Nat) : Int) = (i : Int) + 1 := by omega
    rw [e2, e3] at h2
    exact h2
theorem markIntS_ev (xs : List Int) (hn : xs.length < 1073741824) : Ev (fun k => laws_markIntS.f k xs 1) ((1 : Int) + xs.length, marks xs.length) := markIntS_l xs.length hn xs 0 (by omega)

theorem heldIntS_l (n : Nat) (hn : n < 1073741824) : ∀ (m i : Nat), i + m = n →
    Ev (fun k => laws_heldIntS.l0 k (marks n) (1 + (i : Int)) (i : Int)) ((1 : Int) + n) := by
  intro m
  induction m with
  | zero =>
    intro i h
    refine Ev.step (fun k => laws_heldIntS.l0.eq_2 ..) ?_
    exact ev_neg (by rw [marks_length]; omega) (ev_now (by omega))
  | succ m ih =>
    intro i h
    refine Ev.step (fun k => laws_heldIntS.l0.eq_2 ..) ?_
    have hr : rd (marks n) (i : Int) = 1 + (i : Int) := by
      simp [rd, marks, List.getD_eq_getElem?_getD, List.getElem?_range (show i < n by omega)]
    refine ev_pos (by rw [marks_length]; omega) (ev_pos (by omega) (ev_pos hr ?_))
    rw [w64 (by omega) (by omega), w64 (by omega) (by omega)]
    have h2 := ih (i + 1) (by omega)
    have e2 : (1 : Int) + ((i + 1 : Nat) : Int) = 1 + (i : Int) + 1 := by omega
    have e3 : ((i + 1 : Nat) : Int) = (i : Int) + 1 := by omega
    rw [e2, e3] at h2
    exact h2
theorem heldIntS_ev (n : Nat) (hn : n < 1073741824) : Ev (fun k => laws_heldIntS.f k (marks n) 1) ((1 : Int) + n) := heldIntS_l n hn n 0 (by omega)

def leftL (lines : Int) : Int → List Int → List Int
  | _, [] => []
  | at_, b :: bs => wrap64 (lines - wrap64 (b - at_)) :: leftL lines b bs
theorem leftL_length (lines : Int) : ∀ (bs : List Int) (at_ : Int), (leftL lines at_ bs).length = bs.length
  | [], _ => rfl
  | b :: bs, _ => by simp [leftL, leftL_length lines bs b]
theorem wrap_side (x y z : Int) : wrap64 (wrap64 (x - y) + z) = wrap64 (x - wrap64 (y - z)) := by unfold wrap64; omega
theorem implLeft_l (lines : Int) (B : List Int) (hB : B.length ≤ 100000) : ∀ (ys : List Int) (i at_ : Int) (out : List Int), 0 ≤ i → B.drop i.toNat = ys → out.length + ys.length ≤ 100000 →
    Ev (fun k => impl_LinesLeftOver.l0 k lines out at_ B (B.length : Int) i) (out ++ leftL lines at_ ys, true) := by
  intro ys
  induction ys with
  | nil =>
    intro i at_ out h0 h ho
    have := drop_nil h0 h
    refine Ev.step (fun k => impl_LinesLeftOver.l0.eq_2 ..) ?_
    exact ev_neg (by omega) (ev_now (by simp [leftL]))
  | cons y ys ih =>
    intro i at_ out h0 h ho
    obtain ⟨h1, h2, h3, _⟩ := drop_cons h0 h
    simp only [List.length_cons] at ho
    refine Ev.step (fun k => impl_LinesLeftOver.l0.eq_2 ..) ?_
    refine ev_pos h1 (ev_pos h0 (ev_pos h1 (ev_pos (by omega) ?_)))
    rw [h2, w64 (x := i + 1) (by omega) (by omega)]
    exact ev_val (ih (i + 1) y _ (by omega) h3 (by simp; omega)) (by simp [leftL])
theorem specLeft_l (lines : Int) (B : List Int) (hB : B.length ≤ 100000) : ∀ (ys : List Int) (i at_ : Int) (out : List Int), 0 ≤ i → B.drop i.toNat = ys → out.length + ys.length ≤ 100000 →
    Ev (fun k => spec_LinesLeftOver.l1 k lines at_ out B (B.length : Int) i) (out ++ leftL lines at_ ys, true) := by
  intro ys
  induction ys with
  | nil =>
    intro i at_ out h0 h ho
    have := drop_nil h0 h
    refine Ev.step (fun k => spec_LinesLeftOver.l1.eq_2 ..) ?_
    exact ev_neg (by omega) (ev_now (by simp [leftL]))
  | cons y ys ih =>
    intro i at_ out h0 h ho
    obtain ⟨h1, h2, h3, _⟩ := drop_cons h0 h
    simp only [List.length_cons] at ho
    refine Ev.step (fun k => spec_LinesLeftOver.l1.eq_2 ..) ?_
    refine ev_pos h1 (ev_pos h0 (ev_pos h1 (ev_pos (by omega) ?_)))
    rw [h2, w64 (x := i + 1) (by omega) (by omega), wrap_side]
    exact ev_val (ih (i + 1) y _ (by omega) h3 (by simp; omega)) (by simp [leftL])
theorem specLeft_l0 (lines : Int) (P B : List Int) (r : List Int × Bool) (hB : B.length ≤ 1000) (hP : P.length ≤ 12) (hin : ∀ n ∈ P, 1 ≤ n ∧ n ≤ 60) (hr : r = (leftL lines 0 (B ++ [P.sum]), true)) : ∀ (ys : List Int) (i s : Int), 0 ≤ i → P.drop i.toNat = ys → 0 ≤ s → s + 60 * ys.length ≤ 10000 → s + ys.sum = P.sum →
    Ev (fun k => spec_LinesLeftOver.l0 k lines B s 0 P (P.length : Int) i) r := by
  intro ys
  induction ys with
  | nil =>
    intro i s h0 h _ _ hs
    have := drop_nil h0 h
    have e : s = P.sum := by simpa using hs
    refine Ev.step (fun k => spec_LinesLeftOver.l0.eq_2 ..) ?_
    refine ev_neg (by omega) (ev_some (a := B) ?_ (ev_pos (by omega) (ev_some rfl ?_)))
    · unfold spec_l1Own.f
      simp only [Option.bind_some, List.length_nil, List.nil_append]
      rw [if_pos (by omega)]
    · rw [e]
      exact ev_val (specLeft_l lines (B ++ [P.sum]) (by simp; omega) (B ++ [P.sum]) 0 0 [] (by omega) rfl (by simp; omega)) (by rw [hr, List.nil_append])
  | cons y ys ih =>
    intro i s h0 h hs0 hb hs
    obtain ⟨h1, h2, h3, _⟩ := drop_cons h0 h
    have hy := hin y (List.mem_of_mem_drop (by rw [h]; exact List.mem_cons_self))
    simp only [List.length_cons] at hb
    rw [List.sum_cons] at hs
    refine Ev.step (fun k => spec_LinesLeftOver.l0.eq_2 ..) ?_
    refine ev_pos h1 (ev_pos h0 (ev_pos h1 ?_))
    rw [h2, w64 (x := i + 1) (by omega) (by omega), w64 (by omega) (by omega)]
    exact ih (i + 1) (s + y) (by omega) h3 (by omega) (by omega) (by omega)
theorem leftPair (l : List Int) (a : Int) (hn : l.length ≤ 1048576) : ∃ q : List Int × Bool, Ev (fun k => spec_LinesLeftOver.f k l a) q ∧ Ev (fun k => impl_LinesLeftOver.f k l a) q ∧ q.1.length ≤ 10000 := by
  obtain ⟨r, hi, hs, hW, hp, _⟩ := breaksPair l a hn
  by_cases hr : r.2 = true
  · obtain ⟨h1, h2, _⟩ := parB_true (hp hr)
    have hsb := sum_bound l h2
    refine ⟨(leftL a 0 (r.1 ++ [l.sum]), true), ?_, ?_, by rw [leftL_length]; simp; omega⟩
    · unfold spec_LinesLeftOver.f
      exact Ev.bind hs (ev_pos hr (specLeft_l0 a l r.1 _ hW (by omega) h2 rfl l 0 0 (by omega) rfl (by omega) (by omega) (by omega)))
    · unfold impl_LinesLeftOver.f
      refine Ev.bind hi (ev_pos hr (Ev.bind (total_ev l (by omega) h2) (ev_pos (by omega) (ev_some rfl ?_))))
      exact ev_val (implLeft_l a (r.1 ++ [l.sum]) (by simp; omega) (r.1 ++ [l.sum]) 0 0 [] (by omega) rfl (by simp; omega)) (by rw [List.nil_append])
  · refine ⟨([], false), ?_, ?_, by simp⟩
    · unfold spec_LinesLeftOver.f
      exact Ev.bind hs (ev_neg hr (ev_now rfl))
    · unfold impl_LinesLeftOver.f
      exact Ev.bind hi (ev_neg hr (ev_now rfl))
theorem FnExactLinesLeftOver (l : List Int) (a : Int) : ∃ k, laws_FnExactLinesLeftOver.f k l a = some true := by
  refine Ev.rounds ?_
  unfold laws_FnExactLinesLeftOver.f
  by_cases h : (l.length : Int) > 1048576
  · exact ev_pos h (ev_now rfl)
  obtain ⟨r, hs, hi, hW⟩ := leftPair l a (by omega)
  refine ev_neg h (Ev.bind (toIntS_ev l (by omega)) (Ev.bind hs (Ev.bind (toIntS_ev l (by omega)) (Ev.bind hi (Ev.bind (eqIntS_ev r.1 (by omega)) (ev_pos rfl ?_))))))
  refine Ev.step (fun k => laws_FnExactLinesLeftOver.j0.eq_2 ..) ?_
  refine ev_neg (by simp) (Ev.bind (toIntS_ev l (by omega)) (Ev.bind (eqIntS_ev l (by omega)) (ev_pos rfl ?_)))
  refine Ev.bind (markIntS_ev l (by omega)) (ev_neg (by simp only; omega) (Ev.bind (eqIntS_ev r.1 (by omega)) (ev_pos rfl ?_)))
  refine Ev.step (fun k => laws_FnExactLinesLeftOver.j1.eq_2 ..) ?_
  refine ev_neg (by simp) (Ev.bind (markIntS_ev r.1 (by omega)) (Ev.bind (heldIntS_ev r.1.length (by omega)) (ev_neg (by omega) (ev_pos rfl ?_))))
  refine Ev.bind (toIntS_ev l (by omega)) (Ev.bind hi (Ev.bind (eqIntS_ev r.1 (by omega)) (ev_pos rfl ?_)))
  refine Ev.step (fun k => laws_FnExactLinesLeftOver.j2.eq_2 ..) ?_
  exact ev_neg (by simp) (Ev.bind (heldIntS_ev r.1.length (by omega)) (ev_neg (by omega) (ev_pos rfl (ev_now rfl))))

end Go.Proofs.Ytgbnpemoljhamaa.Pure
