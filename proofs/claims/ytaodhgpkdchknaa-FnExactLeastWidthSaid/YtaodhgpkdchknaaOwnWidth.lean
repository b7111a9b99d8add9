import Derived.Test.YtaodhgpkdchknaaOwnFill
import Derived.Test.YtaodhgpkdchknaaPFnExactLeastWidthx3
namespace Go.Proofs.Ytaodhgpkdchknaa.Own
open Go.RowKit Go.Proofs.YtaodhgpkdchknaaW.PrintWords Go.Proofs.YtaodhgpkdchknaaW.PrintLast Go.Proofs.YtaodhgpkdchknaaW.PrintMore
attribute [local go_sem] max2_int min2_int max_two min_two max_three min_three max_four min_four
set_option linter.unusedVariables false
set_option linter.unusedSimpArgs false
/-- The least width from one on. -/
def leastFrom (l : List Int) (k : Int) : Nat → Int → Int × Bool
  | 0, _ => (0, false)
  | f + 1, x => if ((fillM x l).length : Int) ≤ k then (x, true) else leastFrom l k f (x + 1)
def leastB (l : List Int) (k : Int) : Bool := wordsB l && decide (1 ≤ k ∧ k ≤ 30)
def leastW (l : List Int) (k : Int) : Int × Bool := if leastB l k = true then leastFrom l k (81 - maxL l).toNat (maxL l) else (0, false)
section
open Go.Proofs.Ytaodhgpkdchknaa.PFnExactLeastWidth
namespace Wi
theorem l1In_eq (a lo hi : Int) : spec_l1In.f a lo hi = some (decide (lo ≤ a ∧ a ≤ hi)) := by
  unfold spec_l1In.f
  by_cases h : a ≥ lo
  · rw [if_pos h]; congr 1; simp [show lo ≤ a from h]
  · rw [if_neg h]; congr 1; simp; omega
theorem l1All_l (lo hi : Int) (xs : List Int) (hn : xs.length < 4611686018427387904) : ∀ (ys : List Int) (i : Int), 0 ≤ i → xs.drop i.toNat = ys →
    Ev (fun k => spec_l1All.l0 k lo hi xs (xs.length : Int) i) (decide (∀ n ∈ ys, lo ≤ n ∧ n ≤ hi)) := by
  intro ys
  induction ys with
  | nil =>
    intro i h0 h
    have := drop_nil h0 h
    refine Ev.step (fun k => spec_l1All.l0.eq_2 ..) ?_
    exact ev_neg (by omega) (ev_now (by simp))
  | cons y ys ih =>
    intro i h0 h
    obtain ⟨h1, h2, h3, _⟩ := drop_cons h0 h
    refine Ev.step (fun k => spec_l1All.l0.eq_2 ..) ?_
    refine ev_pos h1 (ev_pos h0 (ev_pos h1 ?_))
    rw [h2, w64 (by omega) (by omega)]
    refine ev_some (l1In_eq ..) ?_
    by_cases hy : lo ≤ y ∧ y ≤ hi
    · exact ev_pos (by simpa using hy) (ev_val (ih _ (by omega) h3) (by simp [hy]))
    · exact ev_neg (by simpa using hy) (ev_now (by simp [hy]))
theorem l1All_ev (xs : List Int) (lo hi : Int) (hn : xs.length < 4611686018427387904) :
    Ev (fun k => spec_l1All.f k xs lo hi) (decide (∀ n ∈ xs, lo ≤ n ∧ n ≤ hi)) := l1All_l lo hi xs hn xs 0 (by omega) rfl
theorem lnNeed_l (xs : List Int) (hn : xs.length ≤ 1000) (hin : ∀ n ∈ xs, 1 ≤ n ∧ n ≤ 80) : ∀ (ys : List Int) (i s : Int), 0 ≤ i → xs.drop i.toNat = ys → -1 ≤ s → s + 80 * ys.length ≤ 1000000 →
    Ev (fun k => spec_lnNeed.l0 k s xs (xs.length : Int) i) (s + ys.sum) := by
  intro ys
  induction ys with
  | nil =>
    intro i s h0 h _ _
    have := drop_nil h0 h
    refine Ev.step (fun k => spec_lnNeed.l0.eq_2 ..) ?_
    exact ev_neg (by omega) (ev_now (by simp))
  | cons y ys ih =>
    intro i s h0 h hs hb
    obtain ⟨h1, h2, h3, _⟩ := drop_cons h0 h
    have hy := hin y (List.mem_of_mem_drop (by rw [h]; exact List.mem_cons_self))
    simp only [List.length_cons] at hb
    refine Ev.step (fun k => spec_lnNeed.l0.eq_2 ..) ?_
    refine ev_pos h1 (ev_pos h0 (ev_pos h1 ?_))
    rw [h2, w64 (x := i + 1) (by omega) (by omega), w64 (by omega) (by omega)]
    exact ev_val (ih (i + 1) (s + y) (by omega) h3 (by omega) (by omega)) (by rw [List.sum_cons]; omega)
theorem lnNeed_ev (xs : List Int) (hn : xs.length ≤ 1000) (hin : ∀ n ∈ xs, 1 ≤ n ∧ n ≤ 80) : Ev (fun k => spec_lnNeed.f k xs) (needL xs) := by
  unfold spec_lnNeed.f needL
  rw [w64 (by omega) (by omega)]
  exact ev_val (lnNeed_l xs hn hin xs 0 ((xs.length : Int) - 1) (by omega) rfl (by omega) (by omega)) (by omega)
theorem lnFill_l1 (wide : Int) (ws : List Int) (hw : ws.length ≤ 30) (hin : ∀ n ∈ ws, 1 ≤ n ∧ n ≤ 80) (out : List Int) (ho : out.length ≤ 1000) (r : List Int) : ∀ (m x : Nat), 1 ≤ x → x + m = ws.length →
    Ev (fun k => spec_lnFill.l0 k (ws.drop (fillK wide ws m x)) wide (out ++ [(fillK wide ws m x : Int)])) r → Ev (fun k => spec_lnFill.l1 k ws wide out (x : Int)) r := by
  intro m
  induction m with
  | zero =>
    intro x hx hm hr
    simp only [fillK] at hr
    refine Ev.step (fun k => spec_lnFill.l1.eq_2 ..) ?_
    refine ev_neg (by omega) (ev_pos (by omega) (ev_pos (by omega) (ev_pos (by omega) ?_)))
    rw [Int.toNat_natCast]
    exact hr
  | succ m ih =>
    intro x hx hm hr
    have e1 : ((x : Int) + 1).toNat = x + 1 := by omega
    refine Ev.step (fun k => spec_lnFill.l1.eq_2 ..) ?_
    rw [w64 (x := (x : Int) + 1) (by omega) (by omega), e1]
    refine ev_pos (by omega) (ev_pos (by omega) (ev_pos (by omega) (Ev.bind (lnNeed_ev (ws.take (x + 1)) (by rw [List.length_take]; omega) (fun n hn => hin n (List.mem_of_mem_take hn))) ?_)))
    rw [fillK] at hr
    by_cases h : needL (ws.take (x + 1)) ≤ wide
    · rw [if_pos h] at hr
      refine ev_pos h ?_
      have e2 : (x : Int) + 1 = ((x + 1 : Nat) : Int) := by omega
      rw [e2]
      exact ih (x + 1) (by omega) (by omega) hr
    · rw [if_neg h] at hr
      refine ev_neg h (ev_pos (by omega) (ev_pos (by omega) (ev_pos (by omega) ?_)))
      rw [Int.toNat_natCast]
      exact hr
theorem lnFill_l0 (wide : Int) : ∀ (f : Nat) (ws out : List Int), ws.length ≤ f → ws.length ≤ 30 → (∀ n ∈ ws, 1 ≤ n ∧ n ≤ 80) → out.length + f ≤ 1000 →
    Ev (fun k => spec_lnFill.l0 k ws wide out) (out ++ fillL wide f ws) := by
  intro f
  induction f with
  | zero =>
    intro ws out hf hw hin ho
    refine Ev.step (fun k => spec_lnFill.l0.eq_2 ..) ?_
    exact ev_neg (by omega) (ev_now (by simp [fillL]))
  | succ f ih =>
    intro ws out hf hw hin ho
    rcases ws with _ | ⟨w, ws⟩
    · refine Ev.step (fun k => spec_lnFill.l0.eq_2 ..) ?_
      exact ev_neg (by simp) (ev_now (by simp [fillL]))
    · refine Ev.step (fun k => spec_lnFill.l0.eq_2 ..) ?_
      have hk := fillK_ge wide (w :: ws) ws.length 1
      simp only [List.length_cons] at hf hw
      refine ev_pos (by simp only [List.length_cons]; omega) (lnFill_l1 wide (w :: ws) (by simp; omega) hin out (by omega) _ ws.length 1 (by omega) (by simp only [List.length_cons]; omega) ?_)
      refine ev_val (ih _ (out ++ [(fillK wide (w :: ws) ws.length 1 : Int)]) ?_ ?_ (fun n hn => hin n (List.mem_of_mem_drop hn)) (by simp; omega)) (by simp [fillL])
      · rw [List.length_drop, List.length_cons]; omega
      · rw [List.length_drop, List.length_cons]; omega
theorem lnFill_ev (wide : Int) (ws : List Int) (hw : ws.length ≤ 30) (hin : ∀ n ∈ ws, 1 ≤ n ∧ n ≤ 80) : Ev (fun k => spec_lnFill.f k ws wide) (fillM wide ws) :=
  lnFill_l0 wide ws.length ws [] (Nat.le_refl _) hw hin (by simp; omega)
theorem lnGood_evF (xs : List Int) (hn : xs.length < 4611686018427387904) : Ev (fun k => spec_lnGood.f k xs) (wordsB xs) := by
  unfold spec_lnGood.f wordsB
  refine ev_some (l1In_eq ..) ?_
  by_cases h : 1 ≤ (xs.length : Int) ∧ (xs.length : Int) ≤ 30
  · refine ev_pos (by simpa using h) (Ev.bind (l1All_ev xs 1 80 hn) (ev_now (by simp [h])))
  · exact ev_neg (by simpa using h) (ev_now (by simp [h]))
theorem lnWide_eq (w : Int) : spec_lnWide.f w = some (decide (1 ≤ w ∧ w ≤ 80)) := by
  unfold spec_lnWide.f
  rw [l1In_eq]; rfl
theorem lnFits_ev (xs : List Int) (wide : Int) (hn : xs.length < 4611686018427387904) : Ev (fun k => spec_lnFits.f k xs wide) (settingB xs wide) := by
  unfold spec_lnFits.f settingB
  refine Ev.bind (lnGood_evF xs hn) ?_
  by_cases h : wordsB xs = true
  · refine ev_pos h (ev_some (lnWide_eq wide) ?_)
    have hw := (wordsB_true h).2
    by_cases h2 : 1 ≤ wide ∧ wide ≤ 80
    · refine ev_pos (decide_eq_true h2) (Ev.bind (l1All_ev xs 1 wide hn) (ev_now ?_))
      rw [h, decide_eq_true h2]
      simp only [Bool.true_and]
      exact decide_eq_decide.2 ⟨fun hh n hm => (hh n hm).2, fun hh n hm => ⟨(hw n hm).1, hh n hm⟩⟩
    · exact ev_neg (by rw [decide_eq_false h2]; simp) (ev_now (by rw [decide_eq_false h2]; simp))
  · exact ev_neg h (ev_now (by rw [Bool.eq_false_iff.mpr h]; rfl))
theorem spec_l0 (l : List Int) (k : Int) (hl : wordsB l = true) : ∀ (f : Nat) (x : Int), x + f = 81 → maxL l ≤ x → 1 ≤ x →
    Ev (fun r => spec_LeastWidth.l0 r l k x) (leastFrom l k f x) := by
  have hw := wordsB_true hl
  intro f
  induction f with
  | zero =>
    intro x hx _ _
    refine Ev.step (fun r => spec_LeastWidth.l0.eq_2 ..) ?_
    exact ev_neg (by omega) (ev_now rfl)
  | succ f ih =>
    intro x hx hm h1
    have hs : settingB l x = true := by
      unfold settingB
      rw [hl, decide_eq_true (⟨h1, by omega⟩ : 1 ≤ x ∧ x ≤ 80), decide_eq_true ((maxL_le x l (by omega)).1 hm)]; rfl
    refine Ev.step (fun r => spec_LeastWidth.l0.eq_2 ..) ?_
    refine ev_pos (by omega) (Ev.bind (lnFits_ev l x (by omega)) ?_)
    rw [hs]
    refine ev_pos rfl (Ev.bind (lnFill_ev x l (by omega) hw.2) ?_)
    rw [w64 (by omega) (by omega)]
    unfold leastFrom
    by_cases c : ((fillM x l).length : Int) ≤ k
    · exact ev_pos c (ev_now (by rw [if_pos c]))
    · rw [if_neg c]
      exact ev_neg c (ih (x + 1) (by omega) (by omega) (by omega))
theorem spec_pre (l : List Int) (k : Int) (hl : wordsB l = true) : ∀ (f : Nat) (x : Int), x + f = maxL l → 1 ≤ x →
    Ev (fun r => spec_LeastWidth.l0 r l k x) (leastFrom l k (81 - maxL l).toNat (maxL l)) := by
  have hw := wordsB_true hl
  have hm := hw.2 _ (maxL_mem l (by omega))
  intro f
  induction f with
  | zero =>
    intro x hx h1
    obtain rfl : x = maxL l := by omega
    exact spec_l0 l k hl _ _ (by omega) (by omega) (by omega)
  | succ f ih =>
    intro x hx h1
    have hs : settingB l x = false := by
      rw [← Bool.not_eq_true]
      intro h
      have := (maxL_le x l (by omega)).2 (settingB_true h).2.2
      omega
    refine Ev.step (fun r => spec_LeastWidth.l0.eq_2 ..) ?_
    refine ev_pos (by omega) (Ev.bind (lnFits_ev l x (by omega)) ?_)
    rw [hs]
    refine ev_neg (by simp) ?_
    rw [w64 (by omega) (by omega)]
    exact ih (x + 1) (by omega) (by omega)
theorem spec_ev (l : List Int) (k : Int) (hn : l.length ≤ 1048576) : Ev (fun r => spec_LeastWidth.f r l k) (leastW l k) := by
  unfold spec_LeastWidth.f leastW leastB
  refine Ev.bind (lnGood_evF l (by omega)) ?_
  by_cases h : wordsB l = true
  · refine ev_pos h (ev_some (l1In_eq ..) ?_)
    have hm := (wordsB_true h).2 _ (maxL_mem l (by have := (wordsB_true h).1; omega))
    by_cases h2 : 1 ≤ k ∧ k ≤ 30
    · rw [decide_eq_true h2, h]
      refine Ev.step (fun k => spec_LeastWidth.j0.eq_2 ..) (ev_neg (by simp) ?_)
      exact ev_val (spec_pre l k h (maxL l - 1).toNat 1 (by omega) (by omega)) (by simp)
    · rw [decide_eq_false h2]
      exact Ev.step (fun k => spec_LeastWidth.j0.eq_2 ..) (ev_pos rfl (ev_now (by simp)))
  · refine ev_neg h (Ev.step (fun k => spec_LeastWidth.j0.eq_2 ..) (ev_pos rfl (ev_now ?_)))
    rw [Bool.eq_false_iff.mpr h]; rfl
end Wi
theorem specWidth_go (A0 : Option Addr) (n c0 : Nat) (l0 : List Int) (k : Int) (w : World) (hr0 : Kd.C (Kd.int .i64) w A0 n l0) (hc0 : n ≤ c0) (hn : n ≤ 1048576) :
    Calls Try.prog 29 #[.slice A0 n c0, .int .i64 k] w fun e w' => e = .returned (.tuple #[.int .i64 (leastW l0 k).1, .bool (leastW l0 k).2]) ∧ Below w.heap.size w w' := by
  obtain rfl : l0.length = n := hr0.1
  obtain ⟨r, hk⟩ := (Wi.spec_ev l0 k hn).rounds
  exact spec_LeastWidth.calls r A0 c0 l0 k _ _ w hr0 hc0 hk
end
set_option maxHeartbeats 8000000 in
set_option maxRecDepth 100000 in
theorem implWidth_go (A0 : Option Addr) (n c0 : Nat) (l0 : List Int) (k : Int) (w : World) (hr0 : Kd.C (Kd.int .i64) w A0 n l0) (hc0 : n ≤ c0) (hn : n < 1073741824) :
    Calls Try.prog 30 #[.slice A0 n c0, .int .i64 k] w fun e w' => e = .returned (.tuple #[.int .i64 (leastW l0 k).1, .bool (leastW l0 k).2]) ∧ Below w.heap.size w w' := by
  obtain rfl : l0.length = n := hr0.1
  have HR0 := Aside0.mk hr0
  have HC0 := Aside0.mk hc0
  have HN := Aside0.mk hn
  have HB := Aside0.mk (Below.refl w.heap.size w)
  clear hr0 hc0 hn
  by_cases h1 : wordsB l0 = true
  · have H1 := Aside0.mk h1
    have hw1 := (wordsB_true h1).1.1
    have hmx := (wordsB_true h1).2 _ (maxL_mem l0 (by omega))
    have HMX := Aside0.mk hmx
    have hfl : ∀ x, ((fillM x l0).length : Int) ≤ 30 := fun x => by have := fillL_length x l0.length l0; have := (wordsB_true h1).1; unfold fillM; omega
    have HFL := Aside0.mk hfl
    by_cases h2 : 1 ≤ k ∧ k ≤ 30
    · have H2 := Aside0.mk (decide_eq_true h2)
      have HM : Aside0 (leastW l0 k = leastFrom l0 k (81 - maxL l0).toNat (maxL l0)) := ⟨by unfold leastW leastB; rw [h1, decide_eq_true h2]; rfl⟩
      clear h1 h2 hmx hfl
      rw [HM.out]
      generalize hgo : leastFrom l0 k (81 - maxL l0).toNat (maxL l0) = out
      have HGO := Aside0.mk hgo
      clear HM hgo
      obtain ⟨o1, o2⟩ := out
      go_enter Try.func30, Try.ntmps30
      go_wp2_with (first | (go_at_call 17; (with_reducible refine (AreWords_go _ _ _ l0 true _ ?side1 HC0.out HN.out H1.out).mono ?_); (case side1 => repeat (first | exact HR0.out | (with_reducible refine Kd.C_alloc ?_ _) | (with_reducible refine Kd.C_drewN ?_ _) | (with_reducible refine Kd.C_drew ?_))); rintro e w' ⟨rfl, ⟨nd, rfl⟩⟩) | (go_at_call 44; (with_reducible refine (within_go _ _ _ true _ H2.out).mono ?_); rintro e w' ⟨rfl, ⟨nd, rfl⟩⟩) | (go_at_call 59; (with_reducible refine (Max_go _ _ _ l0 _ ?side1 HC0.out HN.out ?side2).mono ?_); (case side1 => repeat (first | exact HR0.out | (with_reducible refine Kd.C_alloc ?_ _) | (with_reducible refine Kd.C_drewN ?_ _) | (with_reducible refine Kd.C_drew ?_))); (case side2 => omega); rintro e w' ⟨rfl, ⟨nd, rfl⟩⟩))
      go_loopg [6] (81 - maxL l0).toNat (fun kq v6 w' => ∃ x : Int, v6 = .int .i64 x ∧ Aside0 (x + kq = 81 ∧ 1 ≤ x ∧ maxL l0 ≤ x) ∧ Aside0 (leastFrom l0 k kq x = (o1, o2)) ∧ Aside0 (Kd.C (Kd.int .i64) w' A0 l0.length l0) ∧ Aside0 (Below w.heap.size w w'))
      case atStart => exact ⟨maxL l0, rfl, ⟨by have := HMX.out; omega⟩, ⟨HGO.out⟩, ⟨by repeat (first | exact HR0.out | (with_reducible refine Kd.C_alloc ?_ _) | (with_reducible refine Kd.C_drewN ?_ _) | (with_reducible refine Kd.C_drew ?_))⟩, ⟨(by repeat (first | (with_reducible first | exact HB.out | apply below_alloc | apply pw_below_drewN | apply below_drew1) | exact HB.out))⟩⟩
      case round =>
        clear HR0 HB HGO
        obtain ⟨x, rfl, HX, HG, HR0, HB⟩ := hrel
        have hx1 := HX.out
        have hlen := HFL.out x
        cases gk with
        | zero =>
          have HE : Aside0 (o1 = 0 ∧ o2 = false) := ⟨by have h := HG.out; simp only [leastFrom] at h; simp only [Prod.mk.injEq] at h; exact ⟨h.1.symm, h.2.symm⟩⟩
          have hx : (80 : Int) < x := by omega
          go_wp2
          go_ret2
          exact ⟨ret_ib HE.out.1.symm HE.out.2.symm, (by repeat (first | (with_reducible first | exact HB.out | apply below_alloc | apply pw_below_drewN | apply below_drew1) | exact HB.out))⟩
        | succ k1 =>
          have hx : x ≤ (80 : Int) := by omega
          by_cases c : ((fillM x l0).length : Int) ≤ k
          · have HE : Aside0 (o1 = x ∧ o2 = true) := ⟨by have h := HG.out; unfold leastFrom at h; rw [if_pos c] at h; simp only [Prod.mk.injEq] at h; exact ⟨h.1.symm, h.2.symm⟩⟩
            go_wp2_with (first | ((with_reducible refine gate_callee (f := 60) rfl ?_); refine goesL_ (some 23) rfl rfl Try.func60 (by kernel_rfl) rfl #[.slice A0 l0.length c0, .int .i64 x] rfl (by (try simp only [List.map_toArray, List.map_cons, List.map_nil]); first | done | rfl) ?_; (with_reducible refine (filled_go _ _ _ l0 x _ ?side1 HC0.out H1.out).mono ?_); (case side1 => repeat (first | exact HR0.out | (with_reducible refine Kd.C_alloc ?_ _) | (with_reducible refine Kd.C_drewN ?_ _) | (with_reducible refine Kd.C_drew ?_))); rintro e w12 ⟨v12, rfl, ho, hb⟩; refine ⟨_, rfl, ?_⟩; have HBq := Aside0.mk (below_step (by repeat (first | (with_reducible first | exact HB.out | apply below_alloc | apply pw_below_drewN | apply below_drew1) | exact HB.out)) hb); have HRq := Aside0.mk (Kd.C_below (by repeat (first | exact HR0.out | (with_reducible refine Kd.C_alloc ?_ _) | (with_reducible refine Kd.C_drewN ?_ _) | (with_reducible refine Kd.C_drew ?_))) hb); clear HB HR0; have HB := HBq; have HR0 := HRq; clear HBq HRq hb; obtain ⟨A12, c12, e12⟩ := Kd.R_slice ho; subst e12; clear ho))
            go_ret2
            exact ⟨ret_ib HE.out.1.symm HE.out.2.symm, (by repeat (first | (with_reducible first | exact HB.out | apply below_alloc | apply pw_below_drewN | apply below_drew1) | exact HB.out))⟩
          · have HE : Aside0 (leastFrom l0 k k1 (x + 1) = (o1, o2)) := ⟨by have h := HG.out; unfold leastFrom at h; rw [if_neg c] at h; exact h⟩
            go_wp2_with (first | ((with_reducible refine gate_callee (f := 60) rfl ?_); refine goesL_ (some 23) rfl rfl Try.func60 (by kernel_rfl) rfl #[.slice A0 l0.length c0, .int .i64 x] rfl (by (try simp only [List.map_toArray, List.map_cons, List.map_nil]); first | done | rfl) ?_; (with_reducible refine (filled_go _ _ _ l0 x _ ?side1 HC0.out H1.out).mono ?_); (case side1 => repeat (first | exact HR0.out | (with_reducible refine Kd.C_alloc ?_ _) | (with_reducible refine Kd.C_drewN ?_ _) | (with_reducible refine Kd.C_drew ?_))); rintro e w12 ⟨v12, rfl, ho, hb⟩; refine ⟨_, rfl, ?_⟩; have HBq := Aside0.mk (below_step (by repeat (first | (with_reducible first | exact HB.out | apply below_alloc | apply pw_below_drewN | apply below_drew1) | exact HB.out)) hb); have HRq := Aside0.mk (Kd.C_below (by repeat (first | exact HR0.out | (with_reducible refine Kd.C_alloc ?_ _) | (with_reducible refine Kd.C_drewN ?_ _) | (with_reducible refine Kd.C_drew ?_))) hb); clear HB HR0; have HB := HBq; have HR0 := HRq; clear HBq HRq hb; obtain ⟨A12, c12, e12⟩ := Kd.R_slice ho; subst e12; clear ho))
            go_roundg k1
            case measure => omega
            case rel => exact ⟨x + 1, rfl, ⟨by have := HX.out; omega⟩, ⟨HE.out⟩, ⟨by repeat (first | exact HR0.out | (with_reducible refine Kd.C_alloc ?_ _) | (with_reducible refine Kd.C_drewN ?_ _) | (with_reducible refine Kd.C_drew ?_))⟩, ⟨(by repeat (first | (with_reducible first | exact HB.out | apply below_alloc | apply pw_below_drewN | apply below_drew1) | exact HB.out))⟩⟩
    · have H2 := Aside0.mk (decide_eq_false h2)
      have HM : Aside0 (leastW l0 k = (0, false)) := ⟨by unfold leastW leastB; rw [decide_eq_false h2]; simp⟩
      clear h1 h2 hmx hfl
      rw [HM.out]
      clear HM
      go_enter Try.func30, Try.ntmps30
      go_wp2_with (first | (go_at_call 17; (with_reducible refine (AreWords_go _ _ _ l0 true _ ?side1 HC0.out HN.out H1.out).mono ?_); (case side1 => repeat (first | exact HR0.out | (with_reducible refine Kd.C_alloc ?_ _) | (with_reducible refine Kd.C_drewN ?_ _) | (with_reducible refine Kd.C_drew ?_))); rintro e w' ⟨rfl, ⟨nd, rfl⟩⟩) | (go_at_call 44; (with_reducible refine (within_go _ _ _ false _ H2.out).mono ?_); rintro e w' ⟨rfl, ⟨nd, rfl⟩⟩))
      go_ret2
      exact ⟨rfl, (by repeat (first | (with_reducible first | exact HB.out | apply below_alloc | apply pw_below_drewN | apply below_drew1) | exact HB.out))⟩
  · have H1 := Aside0.mk (Bool.eq_false_iff.mpr h1)
    have HM : Aside0 (leastW l0 k = (0, false)) := ⟨by unfold leastW leastB; rw [H1.out]; rfl⟩
    clear h1
    rw [HM.out]
    clear HM
    go_enter Try.func30, Try.ntmps30
    go_wp2_with (go_at_call 17; (with_reducible refine (AreWords_go _ _ _ l0 false _ ?side1 HC0.out HN.out H1.out).mono ?_); (case side1 => repeat (first | exact HR0.out | (with_reducible refine Kd.C_alloc ?_ _) | (with_reducible refine Kd.C_drewN ?_ _) | (with_reducible refine Kd.C_drew ?_))); rintro e w' ⟨rfl, ⟨nd, rfl⟩⟩)
    go_ret2
    exact ⟨rfl, (by repeat (first | (with_reducible first | exact HB.out | apply below_alloc | apply pw_below_drewN | apply below_drew1) | exact HB.out))⟩
end Go.Proofs.Ytaodhgpkdchknaa.Own
