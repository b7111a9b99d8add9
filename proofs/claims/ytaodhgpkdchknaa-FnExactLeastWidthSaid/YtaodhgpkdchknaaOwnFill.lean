import Derived.Test.YtaodhgpkdchknaaOwnWork
import Derived.Test.YtaodhgpkdchknaaPFnExactFillLinesx3
namespace Go.Proofs.Ytaodhgpkdchknaa.Own
open Go.RowKit Go.Proofs.YtaodhgpkdchknaaW.PrintWords Go.Proofs.YtaodhgpkdchknaaW.PrintLast Go.Proofs.YtaodhgpkdchknaaW.PrintMore
attribute [local go_sem] max2_int min2_int max_two min_two max_three min_three max_four min_four
set_option linter.unusedVariables false
set_option linter.unusedSimpArgs false
def fillK (wide : Int) (ws : List Int) : Nat → Nat → Nat
  | 0, k => k
  | f + 1, k => if needL (ws.take (k + 1)) ≤ wide then fillK wide ws f (k + 1) else k
theorem fillK_ge (wide : Int) (ws : List Int) : ∀ (f k : Nat), k ≤ fillK wide ws f k ∧ fillK wide ws f k ≤ k + f
  | 0, k => by simp [fillK]
  | f + 1, k => by
    rw [fillK]
    split
    · have := fillK_ge wide ws f (k + 1); omega
    · omega
def fillL (wide : Int) : Nat → List Int → List Int
  | 0, _ => []
  | _ + 1, [] => []
  | f + 1, w :: ws => (fillK wide (w :: ws) ws.length 1 : Int) :: fillL wide f ((w :: ws).drop (fillK wide (w :: ws) ws.length 1))
theorem fillL_length (wide : Int) : ∀ (f : Nat) (ws : List Int), (fillL wide f ws).length ≤ f
  | 0, _ => by simp [fillL]
  | f + 1, [] => by simp [fillL]
  | f + 1, w :: ws => by
    have := fillL_length wide f ((w :: ws).drop (fillK wide (w :: ws) ws.length 1))
    simp only [fillL, List.length_cons]; omega
def fillM (wide : Int) (ws : List Int) : List Int := fillL wide ws.length ws
def linesM (l : List Int) (wide : Int) : List Int := if settingB l wide = true then fillM wide l else []
theorem linesM_small (l : List Int) (wide : Int) : (linesM l wide).length ≤ 1048576 := by
  unfold linesM
  split
  · rename_i h
    have := (wordsB_true (settingB_true h).1).1
    have h2 := fillL_length wide l.length l
    unfold fillM; omega
  · simp
section
open Go.Proofs.Ytaodhgpkdchknaa.PFnExactFillLines
namespace Fi
theorem l1In_eq (a lo hi : Int) : spec_l1In.f a lo hi = some (decide (lo ≤ a ∧ a ≤ hi)) := by
  unfold spec_l1In.f
  by_cases h : a ≥ lo
  · rw [if_pos h]; congr 1; simp [show lo ≤ a from h]
  · rw [if_neg h]; congr 1; simp; omega
theorem l1All_l (lo hi : Int) (xs : List Int) (hn : xs.length < 4611686018427387904) : ∀ (ys : List Int) (i : Int), 0 ≤ i → xs.drop i.toNat = ys →
    Ev (fun k => spec_l1All.l0 k lo hi xs (xs.length : Int) i) (decide (∀ n ∈ ys, lo ≤ n ∧ n ≤ hi)) := by
  intro ys
  induction ys with
  | nil =>
    intro i h0 h
    have := drop_nil h0 h
    refine Ev.step (fun k => spec_l1All.l0.eq_2 ..) ?_
    exact ev_neg (by omega) (ev_now (by simp))
  | cons y ys ih =>
    intro i h0 h
    obtain ⟨h1, h2, h3, _⟩ := drop_cons h0 h
    refine Ev.step (fun k => spec_l1All.l0.eq_2 ..) ?_
    refine ev_pos h1 (ev_pos h0 (ev_pos h1 ?_))
    rw [h2, w64 (by omega) (by omega)]
    refine ev_some (l1In_eq ..) ?_
    by_cases hy : lo ≤ y ∧ y ≤ hi
    · exact ev_pos (by simpa using hy) (ev_val (ih _ (by omega) h3) (by simp [hy]))
    · exact ev_neg (by simpa using hy) (ev_now (by simp [hy]))
theorem l1All_ev (xs : List Int) (lo hi : Int) (hn : xs.length < 4611686018427387904) :
    Ev (fun k => spec_l1All.f k xs lo hi) (decide (∀ n ∈ xs, lo ≤ n ∧ n ≤ hi)) := l1All_l lo hi xs hn xs 0 (by omega) rfl
theorem lnNeed_l (xs : List Int) (hn : xs.length ≤ 1000) (hin : ∀ n ∈ xs, 1 ≤ n ∧ n ≤ 80) : ∀ (ys : List Int) (i s : Int), 0 ≤ i → xs.drop i.toNat = ys → -1 ≤ s → s + 80 * ys.length ≤ 1000000 →
    Ev (fun k => spec_lnNeed.l0 k s xs (xs.length : Int) i) (s + ys.sum) := by
  intro ys
  induction ys with
  | nil =>
    intro i s h0 h _ _
    have := drop_nil h0 h
    refine Ev.step (fun k => spec_lnNeed.l0.eq_2 ..) ?_
    exact ev_neg (by omega) (ev_now (by simp))
  | cons y ys ih =>
    intro i s h0 h hs hb
    obtain ⟨h1, h2, h3, _⟩ := drop_cons h0 h
    have hy := hin y (List.mem_of_mem_drop (by rw [h]; exact List.mem_cons_self))
    simp only [List.length_cons] at hb
    refine Ev.step (fun k => spec_lnNeed.l0.eq_2 ..) ?_
    refine ev_pos h1 (ev_pos h0 (ev_pos h1 ?_))
    rw [h2, w64 (x := i + 1) (by omega) (by omega), w64 (by omega) (by omega)]
    exact ev_val (ih (i + 1) (s + y) (by omega) h3 (by omega) (by omega)) (by rw [List.sum_cons]; omega)
theorem lnNeed_ev (xs : List Int) (hn : xs.length ≤ 1000) (hin : ∀ n ∈ xs, 1 ≤ n ∧ n ≤ 80) : Ev (fun k => spec_lnNeed.f k xs) (needL xs) := by
  unfold spec_lnNeed.f needL
  rw [w64 (by omega) (by omega)]
  exact ev_val (lnNeed_l xs hn hin xs 0 ((xs.length : Int) - 1) (by omega) rfl (by omega) (by omega)) (by omega)
theorem lnFill_l1 (wide : Int) (ws : List Int) (hw : ws.length ≤ 30) (hin : ∀ n ∈ ws, 1 ≤ n ∧ n ≤ 80) (out : List Int) (ho : out.length ≤ 1000) (r : List Int) : ∀ (m x : Nat), 1 ≤ x → x + m = ws.length →
    Ev (fun k => spec_lnFill.l0 k (ws.drop (fillK wide ws m x)) wide (out ++ [(fillK wide ws m x : Int)])) r → Ev (fun k => spec_lnFill.l1 k ws wide out (x : Int)) r := by
  intro m
  induction m with
  | zero =>
    intro x hx hm hr
    simp only [fillK] at hr
    refine Ev.step (fun k => spec_lnFill.l1.eq_2 ..) ?_
    refine ev_neg (by omega) (ev_pos (by omega) (ev_pos (by omega) (ev_pos (by omega) ?_)))
    rw [Int.toNat_natCast]
    exact hr
  | succ m ih =>
    intro x hx hm hr
    have e1 : ((x : Int) + 1).toNat = x + 1 := by omega
    refine Ev.step (fun k => spec_lnFill.l1.eq_2 ..) ?_
    rw [w64 (x := (x : Int) + 1) (by omega) (by omega), e1]
    refine ev_pos (by omega) (ev_pos (by omega) (ev_pos (by omega) (Ev.bind (lnNeed_ev (ws.take (x + 1)) (by rw [List.length_take]; omega) (fun n hn => hin n (List.mem_of_mem_take hn))) ?_)))
    rw [fillK] at hr
    by_cases h : needL (ws.take (x + 1)) ≤ wide
    · rw [if_pos h] at hr
      refine ev_pos h ?_
      have e2 : (x : Int) + 1 = ((x + 1 : Nat) : Int) := by omega
      rw [e2]
      exact ih (x + 1) (by omega) (by omega) hr
    · rw [if_neg h] at hr
      refine ev_neg h (ev_pos (by omega) (ev_pos (by omega) (ev_pos (by omega) ?_)))
      rw [Int.toNat_natCast]
      exact hr
theorem lnFill_l0 (wide : Int) : ∀ (f : Nat) (ws out : List Int), ws.length ≤ f → ws.length ≤ 30 → (∀ n ∈ ws, 1 ≤ n ∧ n ≤ 80) → out.length + f ≤ 1000 →
    Ev (fun k => spec_lnFill.l0 k ws wide out) (out ++ fillL wide f ws) := by
  intro f
  induction f with
  | zero =>
    intro ws out hf hw hin ho
    refine Ev.step (fun k => spec_lnFill.l0.eq_2 ..) ?_
    exact ev_neg (by omega) (ev_now (by simp [fillL]))
  | succ f ih =>
    intro ws out hf hw hin ho
    rcases ws with _ | ⟨w, ws⟩
    · refine Ev.step (fun k => spec_lnFill.l0.eq_2 ..) ?_
      exact ev_neg (by simp) (ev_now (by simp [fillL]))
    · refine Ev.step (fun k => spec_lnFill.l0.eq_2 ..) ?_
      have hk := fillK_ge wide (w :: ws) ws.length 1
      simp only [List.length_cons] at hf hw
      refine ev_pos (by simp only [List.length_cons]; omega) (lnFill_l1 wide (w :: ws) (by simp; omega) hin out (by omega) _ ws.length 1 (by omega) (by simp only [List.length_cons]; omega) ?_)
      refine ev_val (ih _ (out ++ [(fillK wide (w :: ws) ws.length 1 : Int)]) ?_ ?_ (fun n hn => hin n (List.mem_of_mem_drop hn)) (by simp; omega)) (by simp [fillL])
      · rw [List.length_drop, List.length_cons]; omega
      · rw [List.length_drop, List.length_cons]; omega
theorem lnFill_ev (wide : Int) (ws : List Int) (hw : ws.length ≤ 30) (hin : ∀ n ∈ ws, 1 ≤ n ∧ n ≤ 80) : Ev (fun k => spec_lnFill.f k ws wide) (fillM wide ws) :=
  lnFill_l0 wide ws.length ws [] (Nat.le_refl _) hw hin (by simp; omega)
theorem total_lw (xs : List Int) (hn : xs.length ≤ 1000) (hin : ∀ n ∈ xs, 1 ≤ n ∧ n ≤ 80) : ∀ (ys : List Int) (i s : Int), 0 ≤ i → xs.drop i.toNat = ys → 0 ≤ s → s + 80 * ys.length ≤ 1000000 →
    Ev (fun k => impl_total.l0 k s xs (xs.length : Int) i) (s + ys.sum) := by
  intro ys
  induction ys with
  | nil =>
    intro i s h0 h _ _
    have := drop_nil h0 h
    refine Ev.step (fun k => impl_total.l0.eq_2 ..) ?_
    exact ev_neg (by omega) (ev_now (by simp))
  | cons y ys ih =>
    intro i s h0 h hs hb
    obtain ⟨h1, h2, h3, _⟩ := drop_cons h0 h
    have hy := hin y (List.mem_of_mem_drop (by rw [h]; exact List.mem_cons_self))
    simp only [List.length_cons] at hb
    refine Ev.step (fun k => impl_total.l0.eq_2 ..) ?_
    refine ev_pos h1 (ev_pos h0 (ev_pos h1 ?_))
    rw [h2, w64 (x := i + 1) (by omega) (by omega), w64 (by omega) (by omega)]
    exact ev_val (ih (i + 1) (s + y) (by omega) h3 (by omega) (by omega)) (by rw [List.sum_cons]; omega)
theorem totalW_ev (xs : List Int) (hn : xs.length ≤ 1000) (hin : ∀ n ∈ xs, 1 ≤ n ∧ n ≤ 80) : Ev (fun k => impl_total.f k xs) xs.sum :=
  ev_val (total_lw xs hn hin xs 0 0 (by omega) rfl (by omega) (by omega)) (by omega)
theorem needs_ev (xs : List Int) (hn : xs.length ≤ 1000) (hin : ∀ n ∈ xs, 1 ≤ n ∧ n ≤ 80) : Ev (fun k => impl_needs.f k xs) (needL xs) := by
  have hs := sum_bd xs hin
  unfold impl_needs.f needL
  refine Ev.bind (totalW_ev xs hn hin) (ev_now ?_)
  rw [w64 (x := xs.sum + (xs.length : Int)) (by omega) (by omega), w64 (by omega) (by omega)]
theorem filled_l1 (wide : Int) (ws : List Int) (hw : ws.length ≤ 30) (hin : ∀ n ∈ ws, 1 ≤ n ∧ n ≤ 80) (out : List Int) (ho : out.length ≤ 1000) (r : List Int) : ∀ (m x : Nat), 1 ≤ x → x + m = ws.length →
    Ev (fun k => impl_filled.l0 k (ws.drop (fillK wide ws m x)) wide (out ++ [(fillK wide ws m x : Int)])) r → Ev (fun k => impl_filled.l1 k ws wide out (x : Int)) r := by
  intro m
  induction m with
  | zero =>
    intro x hx hm hr
    simp only [fillK] at hr
    refine Ev.step (fun k => impl_filled.l1.eq_2 ..) ?_
    refine ev_neg (by omega) (ev_pos (by omega) (ev_pos (by omega) (ev_pos (by omega) ?_)))
    rw [Int.toNat_natCast]
    exact hr
  | succ m ih =>
    intro x hx hm hr
    have e1 : ((x : Int) + 1).toNat = x + 1 := by omega
    refine Ev.step (fun k => impl_filled.l1.eq_2 ..) ?_
    rw [w64 (x := (x : Int) + 1) (by omega) (by omega), e1]
    refine ev_pos (by omega) (ev_pos (by omega) (ev_pos (by omega) (Ev.bind (needs_ev (ws.take (x + 1)) (by rw [List.length_take]; omega) (fun n hn => hin n (List.mem_of_mem_take hn))) ?_)))
    rw [fillK] at hr
    by_cases h : needL (ws.take (x + 1)) ≤ wide
    · rw [if_pos h] at hr
      refine ev_pos h ?_
      have e2 : (x : Int) + 1 = ((x + 1 : Nat) : Int) := by omega
      rw [e2]
      exact ih (x + 1) (by omega) (by omega) hr
    · rw [if_neg h] at hr
      refine ev_neg h (ev_pos (by omega) (ev_pos (by omega) (ev_pos (by omega) ?_)))
      rw [Int.toNat_natCast]
      exact hr
theorem filled_l0 (wide : Int) : ∀ (f : Nat) (ws out : List Int), ws.length ≤ f → ws.length ≤ 30 → (∀ n ∈ ws, 1 ≤ n ∧ n ≤ 80) → out.length + f ≤ 1000 →
    Ev (fun k => impl_filled.l0 k ws wide out) (out ++ fillL wide f ws) := by
  intro f
  induction f with
  | zero =>
    intro ws out hf hw hin ho
    refine Ev.step (fun k => impl_filled.l0.eq_2 ..) ?_
    exact ev_neg (by omega) (ev_now (by simp [fillL]))
  | succ f ih =>
    intro ws out hf hw hin ho
    rcases ws with _ | ⟨w, ws⟩
    · refine Ev.step (fun k => impl_filled.l0.eq_2 ..) ?_
      exact ev_neg (by simp) (ev_now (by simp [fillL]))
    · refine Ev.step (fun k => impl_filled.l0.eq_2 ..) ?_
      have hk := fillK_ge wide (w :: ws) ws.length 1
      simp only [List.length_cons] at hf hw
      refine ev_pos (by simp only [List.length_cons]; omega) (filled_l1 wide (w :: ws) (by simp; omega) hin out (by omega) _ ws.length 1 (by omega) (by simp only [List.length_cons]; omega) ?_)
      refine ev_val (ih _ (out ++ [(fillK wide (w :: ws) ws.length 1 : Int)]) ?_ ?_ (fun n hn => hin n (List.mem_of_mem_drop hn)) (by simp; omega)) (by simp [fillL])
      · rw [List.length_drop, List.length_cons]; omega
      · rw [List.length_drop, List.length_cons]; omega
theorem filled_ev (wide : Int) (ws : List Int) (hw : ws.length ≤ 30) (hin : ∀ n ∈ ws, 1 ≤ n ∧ n ≤ 80) : Ev (fun k => impl_filled.f k ws wide) (fillM wide ws) :=
  filled_l0 wide ws.length ws [] (Nat.le_refl _) hw hin (by simp; omega)
theorem lnGood_evF (xs : List Int) (hn : xs.length < 4611686018427387904) : Ev (fun k => spec_lnGood.f k xs) (wordsB xs) := by
  unfold spec_lnGood.f wordsB
  refine ev_some (l1In_eq ..) ?_
  by_cases h : 1 ≤ (xs.length : Int) ∧ (xs.length : Int) ≤ 30
  · refine ev_pos (by simpa using h) (Ev.bind (l1All_ev xs 1 80 hn) (ev_now (by simp [h])))
  · exact ev_neg (by simpa using h) (ev_now (by simp [h]))
theorem lnWide_eq (w : Int) : spec_lnWide.f w = some (decide (1 ≤ w ∧ w ≤ 80)) := by
  unfold spec_lnWide.f
  rw [l1In_eq]; rfl
theorem lnFits_ev (xs : List Int) (wide : Int) (hn : xs.length < 4611686018427387904) : Ev (fun k => spec_lnFits.f k xs wide) (settingB xs wide) := by
  unfold spec_lnFits.f settingB
  refine Ev.bind (lnGood_evF xs hn) ?_
  by_cases h : wordsB xs = true
  · refine ev_pos h (ev_some (lnWide_eq wide) ?_)
    have hw := (wordsB_true h).2
    by_cases h2 : 1 ≤ wide ∧ wide ≤ 80
    · refine ev_pos (decide_eq_true h2) (Ev.bind (l1All_ev xs 1 wide hn) (ev_now ?_))
      rw [h, decide_eq_true h2]
      simp only [Bool.true_and]
      exact decide_eq_decide.2 ⟨fun hh n hm => (hh n hm).2, fun hh n hm => ⟨(hw n hm).1, hh n hm⟩⟩
    · exact ev_neg (by rw [decide_eq_false h2]; simp) (ev_now (by rw [decide_eq_false h2]; simp))
  · exact ev_neg h (ev_now (by rw [Bool.eq_false_iff.mpr h]; rfl))
theorem specFill_ev (l : List Int) (wide : Int) (hn : l.length ≤ 1048576) : Ev (fun k => spec_FillLines.f k l wide) (linesM l wide, settingB l wide) := by
  unfold spec_FillLines.f linesM
  refine Ev.bind (lnFits_ev l wide (by omega)) ?_
  by_cases h : settingB l wide = true
  · have hw := wordsB_true (settingB_true h).1
    exact ev_pos h (Ev.bind (lnFill_ev wide l (by omega) hw.2) (ev_now (by rw [if_pos h, h])))
  · exact ev_neg h (ev_now (by rw [if_neg h, Bool.eq_false_iff.mpr h]))
end Fi
theorem specFill_go (A0 : Option Addr) (n c0 : Nat) (l0 : List Int) (wide : Int) (w : World) (hr0 : Kd.C (Kd.int .i64) w A0 n l0) (hc0 : n ≤ c0) (hn : n ≤ 1048576) :
    Calls Try.prog 39 #[.slice A0 n c0, .int .i64 wide] w fun e w' => ∃ v : Value, e = .returned (.tuple #[v, .bool (settingB l0 wide)]) ∧ Kd.R (Kd.int .i64) 3 w' w.heap.size (fun _ => True) v (linesM l0 wide) ∧ Below w.heap.size w w' := by
  obtain rfl : l0.length = n := hr0.1
  obtain ⟨k, hk⟩ := (Fi.specFill_ev l0 wide hn).rounds
  exact spec_FillLines.calls k A0 c0 l0 wide _ _ w hr0 hc0 hk
theorem filled_go (A0 : Option Addr) (n c0 : Nat) (l0 : List Int) (wide : Int) (w : World) (hr0 : Kd.C (Kd.int .i64) w A0 n l0) (hc0 : n ≤ c0) (hw : wordsB l0 = true) :
    Calls Try.prog 60 #[.slice A0 n c0, .int .i64 wide] w fun e w' => ∃ v : Value, e = .returned v ∧ Kd.R (Kd.int .i64) 3 w' w.heap.size (fun _ => True) v (fillM wide l0) ∧ Below w.heap.size w w' := by
  obtain rfl : l0.length = n := hr0.1
  have hw2 := wordsB_true hw
  obtain ⟨k, hk⟩ := (Fi.filled_ev wide l0 (by omega) hw2.2).rounds
  refine (impl_filled.calls k (fun k_ => k_ < w.heap.size) A0 c0 l0 wide _ w (Kd.V_mk hc0 (Kd.C_F (Kd.heap_int _) hr0)) hk).mono ?_
  rintro e w' ⟨v, rfl, h1, h2⟩
  exact ⟨v, rfl, Kd.R_mono h1 (fun _ _ => trivial), h2⟩
end
set_option maxHeartbeats 8000000 in
set_option maxRecDepth 100000 in
theorem implFill_go (A0 : Option Addr) (n c0 : Nat) (l0 : List Int) (wide : Int) (w : World) (hr0 : Kd.C (Kd.int .i64) w A0 n l0) (hc0 : n ≤ c0) (hn : n < 1073741824) :
    Calls Try.prog 40 #[.slice A0 n c0, .int .i64 wide] w fun e w' => ∃ v : Value, e = .returned (.tuple #[v, .bool (settingB l0 wide)]) ∧ Kd.R (Kd.int .i64) 3 w' w.heap.size (fun _ => True) v (linesM l0 wide) ∧ Below w.heap.size w w' := by
  have HR0 := Aside0.mk hr0
  have HC0 := Aside0.mk hc0
  have HN := Aside0.mk hn
  have HB := Aside0.mk (Below.refl w.heap.size w)
  clear hr0 hc0 hn
  by_cases hg : settingB l0 wide = true
  · have HG := Aside0.mk hg
    have HW := Aside0.mk (settingB_true hg).1
    have hM : linesM l0 wide = fillM wide l0 := by unfold linesM; rw [if_pos hg]
    clear hg
    rw [HG.out, hM]
    clear hM
    go_enter Try.func40, Try.ntmps40
    go_wp2_with (first | (go_at_call 52; (with_reducible refine (isSetting_go _ _ _ l0 wide true _ ?side1 HC0.out HN.out HG.out).mono ?_); (case side1 => repeat (first | exact HR0.out | (with_reducible refine Kd.C_alloc ?_ _) | (with_reducible refine Kd.C_drewN ?_ _) | (with_reducible refine Kd.C_drew ?_))); rintro e w' ⟨rfl, ⟨nd, rfl⟩⟩) | ((with_reducible refine gate_callee (f := 60) rfl ?_); refine goesL_ (some 12) rfl rfl Try.func60 (by kernel_rfl) rfl #[.slice A0 n c0, .int .i64 wide] rfl (by (try simp only [List.map_toArray, List.map_cons, List.map_nil]); first | done | rfl) ?_; (with_reducible refine (filled_go _ _ _ l0 wide _ ?side1 HC0.out HW.out).mono ?_); (case side1 => repeat (first | exact HR0.out | (with_reducible refine Kd.C_alloc ?_ _) | (with_reducible refine Kd.C_drewN ?_ _) | (with_reducible refine Kd.C_drew ?_))); rintro e w12 ⟨v12, rfl, ho, hb⟩; refine ⟨_, rfl, ?_⟩; have HO := Aside0.mk (Kd.R_lower ho (below_size (by repeat (first | (with_reducible first | exact HB.out | apply below_alloc | apply pw_below_drewN | apply below_drew1) | exact HB.out)))); have HBq := Aside0.mk (below_step (by repeat (first | (with_reducible first | exact HB.out | apply below_alloc | apply pw_below_drewN | apply below_drew1) | exact HB.out)) hb); clear HB; have HB := HBq; clear HBq hb ho))
    go_ret2
    exact ⟨_, rfl, HO.out, (by repeat (first | (with_reducible first | exact HB.out | apply below_alloc | apply pw_below_drewN | apply below_drew1) | exact HB.out))⟩
  · have HG := Aside0.mk (Bool.eq_false_iff.mpr hg)
    have hM : linesM l0 wide = [] := by unfold linesM; rw [if_neg hg]
    clear hg
    rw [HG.out, hM]
    clear hM
    go_enter Try.func40, Try.ntmps40
    go_wp2_with (go_at_call 52; (with_reducible refine (isSetting_go _ _ _ l0 wide false _ ?side1 HC0.out HN.out HG.out).mono ?_); (case side1 => repeat (first | exact HR0.out | (with_reducible refine Kd.C_alloc ?_ _) | (with_reducible refine Kd.C_drewN ?_ _) | (with_reducible refine Kd.C_drew ?_))); rintro e w' ⟨rfl, ⟨nd, rfl⟩⟩)
    go_ret2
    exact ⟨_, rfl, Kd.R_nil _ _ _ _ _, (by repeat (first | (with_reducible first | exact HB.out | apply below_alloc | apply pw_below_drewN | apply below_drew1) | exact HB.out))⟩
end Go.Proofs.Ytaodhgpkdchknaa.Own
