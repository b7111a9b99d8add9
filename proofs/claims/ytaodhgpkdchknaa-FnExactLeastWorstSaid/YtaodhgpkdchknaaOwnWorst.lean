import Derived.Test.YtaodhgpkdchknaaOwnLeast
namespace Go.Proofs.Ytaodhgpkdchknaa.Own
open Go.RowKit Go.Proofs.YtaodhgpkdchknaaW.PrintWords Go.Proofs.YtaodhgpkdchknaaW.PrintLast Go.Proofs.YtaodhgpkdchknaaW.PrintMore
attribute [local go_sem] max2_int min2_int max_two min_two max_three min_three max_four min_four
set_option linter.unusedVariables false
set_option linter.unusedSimpArgs false
/-- The last one of the ways is that behind all words. -/
theorem canL_last (wide most : Int) : ∀ l : List Int, (canL wide most l).getD l.length 0 = 1
  | [] => rfl
  | w :: ws => by rw [canL, List.length_cons, List.getD_cons_succ]; exact canL_last wide most ws
theorem worst_step {m acc accb cw b : Int} (hm : 0 ≤ m) (h1 : 0 ≤ acc) (h3 : 0 < acc ↔ 0 ≤ accb ∧ accb ≤ m) (h2 : -1 ≤ accb) (hc : 0 ≤ cw) (hb : 0 ≤ b) (hcb : 0 < cw ↔ b ≤ m) (r : Int) (hr : 0 ≤ r) :
    0 < (if r ≤ m then acc + cw else acc) ↔ 0 ≤ (if accb < 0 ∨ maxPut r b < accb then maxPut r b else accb) ∧ (if accb < 0 ∨ maxPut r b < accb then maxPut r b else accb) ≤ m := by
  unfold maxPut
  constructor
  · intro h
    split at h <;> (repeat' split) <;> omega
  · intro h
    split <;> (repeat' split at h) <;> omega
theorem worst_K (wide m : Int) (hm : 0 ≤ m) (ws rc rb : List Int) (hw : ∀ n ∈ ws, 1 ≤ n ∧ n ≤ 80) (hl : 1 ≤ ws.length)
    (hk : ∀ k, k + 1 < ws.length → 0 ≤ rc.getD k 0 ∧ 0 ≤ rb.getD k 0 ∧ (0 < rc.getD k 0 ↔ rb.getD k 0 ≤ m)) (hlast : rc.getD (ws.length - 1) 0 = 1) :
    ∀ (f k : Nat) (acc accb : Int), 1 ≤ k → f + k = ws.length + 1 → 0 ≤ acc → -1 ≤ accb → (0 < acc ↔ 0 ≤ accb ∧ accb ≤ m) →
      0 ≤ canK wide m ws rc f k acc ∧ (0 < canK wide m ws rc f k acc ↔ 0 ≤ bestK maxPut wide ws rb f k accb ∧ bestK maxPut wide ws rb f k accb ≤ m) := by
  intro f
  induction f with
  | zero => intro k acc accb _ _ h1 h2 h3; exact ⟨h1, h3⟩
  | succ f ih =>
    intro k acc accb hk1 hfk h1 h2 h3
    rw [canK, bestK]
    by_cases c : needL (ws.take k) ≤ wide
    · rw [if_pos c, if_pos c]
      have hn := needL_pos ws hw k hk1 hl
      by_cases d : k < ws.length
      · have hkk := hk (k - 1) (by omega)
        have e : (k = ws.length ∨ wide - needL (ws.take k) ≤ m) ↔ wide - needL (ws.take k) ≤ m := ⟨fun h => h.elim (fun h => by omega) id, Or.inr⟩
        simp only [if_pos d, e]
        have hs := worst_step hm h1 h3 h2 hkk.1 hkk.2.1 hkk.2.2 (wide - needL (ws.take k)) (by omega)
        refine ih (k + 1) _ _ (by omega) (by omega) ?_ ?_ hs
        · split <;> omega
        · have : 0 ≤ maxPut (wide - needL (ws.take k)) (rb.getD (k - 1) 0) := by unfold maxPut; split <;> omega
          split <;> omega
      · have e : k = ws.length := by omega
        simp only [if_neg d, if_pos (Or.inl e : k = ws.length ∨ wide - needL (ws.take k) ≤ m)]
        rw [show k - 1 = ws.length - 1 from by omega, hlast]
        refine ih (k + 1) _ _ (by omega) (by omega) (by omega) ?_ ?_
        · split <;> omega
        · constructor
          · intro _; split <;> omega
          · intro _; omega
    · rw [if_neg c, if_neg c]; exact ⟨h1, h3⟩
/-- Once a line has been found, the cost stays one. -/
theorem bestK_nonneg (wide : Int) (ws rb : List Int) (hw : ∀ n ∈ ws, 1 ≤ n ∧ n ≤ 80) (hl : 1 ≤ ws.length) (hb : ∀ k, k + 1 < ws.length → 0 ≤ rb.getD k 0) :
    ∀ (f k : Nat) (acc : Int), 1 ≤ k → 0 ≤ acc → 0 ≤ bestK maxPut wide ws rb f k acc := by
  intro f
  induction f with
  | zero => intro k acc _ h; exact h
  | succ f ih =>
    intro k acc hk h
    rw [bestK]
    split
    · rename_i c
      have hn := needL_pos ws hw k hk hl
      refine ih (k + 1) _ (by omega) ?_
      by_cases d : k < ws.length
      · simp only [if_pos d]
        have := hb (k - 1) (by omega)
        have : 0 ≤ maxPut (wide - needL (ws.take k)) (rb.getD (k - 1) 0) := by unfold maxPut; split <;> omega
        split <;> omega
      · simp only [if_neg d]; split <;> omega
    · exact h
theorem worst_L (wide m : Int) (hm : 0 ≤ m) : ∀ l : List Int, (∀ n ∈ l, 1 ≤ n ∧ n ≤ 80) → (∀ n ∈ l, n ≤ wide) → ∀ k, k ≤ l.length → 0 ≤ (canL wide m l).getD k 0 ∧ 0 ≤ (bestL maxPut wide l).getD k 0 ∧ (0 < (canL wide m l).getD k 0 ↔ (bestL maxPut wide l).getD k 0 ≤ m)
  | [], _, _, k, hk => by
    obtain rfl : k = 0 := by simpa using hk
    simp [canL, bestL]; omega
  | w :: ws, hw, hf, k, hk => by
    have ih := worst_L wide m hm ws (fun n hn => hw n (List.mem_cons_of_mem _ hn)) (fun n hn => hf n (List.mem_cons_of_mem _ hn))
    rw [canL, bestL]
    cases k with
    | zero =>
      rw [List.getD_cons_zero, List.getD_cons_zero]
      have hl : (w :: ws).length = ws.length + 1 := rfl
      have hK := worst_K wide m hm (w :: ws) (canL wide m ws) (bestL maxPut wide ws) hw (by simp) (fun k h => ih k (by rw [hl] at h; omega)) (by rw [hl, Nat.add_sub_cancel]; exact canL_last wide m ws) (ws.length + 1) 1 0 (-1) (by omega) (by omega) (by omega) (by omega) (by omega)
      have hN : 0 ≤ bestK maxPut wide (w :: ws) (bestL maxPut wide ws) (ws.length + 1) 1 (-1) := by
        have hw1 := hf w List.mem_cons_self
        have hw2 := hw w List.mem_cons_self
        have hn1 : needL ((w :: ws).take 1) = w := by simp [needL]
        rw [bestK, if_pos (by rw [hn1]; exact hw1), if_pos (Or.inl (by omega)), hn1]
        refine bestK_nonneg wide (w :: ws) (bestL maxPut wide ws) hw (by simp) (fun k h => (ih k (by rw [hl] at h; omega)).2.1) _ _ _ (by omega) ?_
        split
        · unfold maxPut; split <;> omega
        · omega
      exact ⟨hK.1, hN, hK.2.trans ⟨fun h => h.2, fun h => ⟨hN, h⟩⟩⟩
    | succ k =>
      rw [List.getD_cons_succ, List.getD_cons_succ]
      exact ih k (by rw [List.length_cons] at hk; omega)
theorem worst_M (l : List Int) (wide m : Int) (hs : settingB l wide = true) (hm : 0 ≤ m) : 0 ≤ canM l wide m ∧ 0 ≤ bestM maxPut l wide ∧ (0 < canM l wide m ↔ bestM maxPut l wide ≤ m) := by
  obtain ⟨h1, h2, h3⟩ := settingB_true hs
  exact worst_L wide m hm l (wordsB_true h1).2 h3 0 (by omega)
set_option maxHeartbeats 8000000 in
set_option maxRecDepth 100000 in
theorem specLeastWor_go (A0 : Option Addr) (n c0 : Nat) (l0 : List Int) (wide : Int) (w : World) (hr0 : Kd.C (Kd.int .i64) w A0 n l0) (hc0 : n ≤ c0) (hn : n < 1073741824) :
    Calls Try.prog 31 #[.slice A0 n c0, .int .i64 wide] w fun e w' => e = .returned (.tuple #[.int .i64 (leastWorM l0 wide), .bool (settingB l0 wide)]) ∧ Below w.heap.size w w' := by
  obtain rfl : l0.length = n := hr0.1
  have HR0 := Aside0.mk hr0
  have HRW := Aside0.mk hr0
  have HC0 := Aside0.mk hc0
  have HN := Aside0.mk hn
  have HB := Aside0.mk (Below.refl w.heap.size w)
  clear hr0 hc0 hn
  by_cases hg : settingB l0 wide = true
  · have HW := Aside0.mk (settingB_true hg).1
    have HWW := Aside0.mk (settingB_true hg).2.1
    have HG := Aside0.mk hg
    have hM : leastWorM l0 wide = bestM maxPut l0 wide := if_pos hg
    rw [hM]
    have HWM : Aside0 (∀ m, 0 ≤ m → 0 ≤ canM l0 wide m ∧ 0 ≤ bestM maxPut l0 wide ∧ (0 < canM l0 wide m ↔ bestM maxPut l0 wide ≤ m)) := ⟨fun m hm => worst_M l0 wide m hg hm⟩
    have HBD : Aside0 (bestM maxPut l0 wide ≤ 192000) := ⟨by
      have hws := wordsB_true HW.out
      have := (bestL_bd maxPut maxPut_ok wide HWW.out.2 l0 hws.2 0).2
      have h2 : bestM maxPut l0 wide ≤ 6400 * l0.length := this
      omega⟩
    rw [hg]
    clear hM hg
    obtain ⟨B, hB⟩ : ∃ B, bestM maxPut l0 wide = B := ⟨_, rfl⟩
    rw [hB] at HWM HBD ⊢
    have hB0 := (HWM.out 0 (by omega)).2.1
    have hB1 := HBD.out
    clear hB
    go_enter Try.func31, Try.ntmps31
    go_wp2_with (first | (go_at_call 50; (with_reducible refine (lnFits_go _ _ _ l0 wide true _ ?side1 HC0.out HN.out HG.out).mono ?_); (case side1 => repeat (first | exact HR0.out | (with_reducible refine Kd.C_alloc ?_ _) | (with_reducible refine Kd.C_drewN ?_ _) | (with_reducible refine Kd.C_drew ?_))); rintro e w' ⟨rfl, ⟨nd, rfl⟩⟩))
    go_loopg [6] B.toNat (fun kq v6 w' => ∃ x : Int, v6 = .int .i64 x ∧ Aside0 (0 ≤ x ∧ x + kq = B) ∧ Aside0 (Kd.C (Kd.int .i64) w' A0 l0.length l0) ∧ Aside0 (Below w.heap.size w w'))
    case atStart => exact ⟨0, rfl, ⟨by omega⟩, ⟨by repeat (first | exact HR0.out | (with_reducible refine Kd.C_alloc ?_ _) | (with_reducible refine Kd.C_drewN ?_ _) | (with_reducible refine Kd.C_drew ?_))⟩, ⟨(by repeat (first | (with_reducible first | exact HB.out | apply below_alloc | apply pw_below_drewN | apply below_drew1) | exact HB.out))⟩⟩
    case round =>
      clear HR0 HB
      obtain ⟨x, rfl, HX, HR0, HB⟩ := hrel
      have hx0 := HX.out.1
      have hw2 := HWM.out x hx0
      have hwx : x ≤ 192000 := by have := HX.out; omega
      cases gk with
      | zero =>
        have HXB : Aside0 (x = B) := ⟨by have := HX.out; omega⟩
        have he : (canM l0 wide x == 0) = false := beq_eq_false_iff_ne.mpr (by have := hw2.2.2.2 (by have := HXB.out; omega); omega)
        clear hw2
        go_wp2_with (first | ((with_reducible refine gate_callee (f := 51) rfl ?_); refine goesL_ (some 14) rfl rfl Try.func51 (by kernel_rfl) rfl #[.slice A0 l0.length c0, .int .i64 wide, .int .i64 x] rfl (by (try simp only [List.map_toArray, List.map_cons, List.map_nil]); first | done | rfl) ?_; (with_reducible refine (lnCan_go _ _ _ l0 wide x _ ?side2 HC0.out HW.out HWW.out).mono ?_); (case side2 => repeat (first | exact HR0.out | (with_reducible refine Kd.C_alloc ?_ _) | (with_reducible refine Kd.C_drewN ?_ _) | (with_reducible refine Kd.C_drew ?_))); rintro e w12 ⟨rfl, hb⟩; refine ⟨_, rfl, ?_⟩; have HBq := Aside0.mk (below_step (by repeat (first | (with_reducible first | exact HB.out | apply below_alloc | apply pw_below_drewN | apply below_drew1) | exact HB.out)) hb); clear HB; have HB := HBq; have HRq := Aside0.mk (Kd.C_below HRW.out HB.out); clear HR0; have HR0 := HRq; clear HBq HRq hb))
        go_ret2
        exact ⟨ret_ib HXB.out rfl, (by repeat (first | (with_reducible first | exact HB.out | apply below_alloc | apply pw_below_drewN | apply below_drew1) | exact HB.out))⟩
      | succ k1 =>
        have he : (canM l0 wide x == 0) = true := beq_iff_eq.mpr (by have := HX.out; have h3 := hw2.1; have h4 := hw2.2.2; omega)
        clear hw2
        go_wp2_with (first | ((with_reducible refine gate_callee (f := 51) rfl ?_); refine goesL_ (some 14) rfl rfl Try.func51 (by kernel_rfl) rfl #[.slice A0 l0.length c0, .int .i64 wide, .int .i64 x] rfl (by (try simp only [List.map_toArray, List.map_cons, List.map_nil]); first | done | rfl) ?_; (with_reducible refine (lnCan_go _ _ _ l0 wide x _ ?side2 HC0.out HW.out HWW.out).mono ?_); (case side2 => repeat (first | exact HR0.out | (with_reducible refine Kd.C_alloc ?_ _) | (with_reducible refine Kd.C_drewN ?_ _) | (with_reducible refine Kd.C_drew ?_))); rintro e w12 ⟨rfl, hb⟩; refine ⟨_, rfl, ?_⟩; have HBq := Aside0.mk (below_step (by repeat (first | (with_reducible first | exact HB.out | apply below_alloc | apply pw_below_drewN | apply below_drew1) | exact HB.out)) hb); clear HB; have HB := HBq; have HRq := Aside0.mk (Kd.C_below HRW.out HB.out); clear HR0; have HR0 := HRq; clear HBq HRq hb))
        go_roundg k1
        case measure => omega
        case rel => exact ⟨x + 1, rfl, ⟨by have := HX.out; omega⟩, ⟨by repeat (first | exact HR0.out | (with_reducible refine Kd.C_alloc ?_ _) | (with_reducible refine Kd.C_drewN ?_ _) | (with_reducible refine Kd.C_drew ?_))⟩, ⟨(by repeat (first | (with_reducible first | exact HB.out | apply below_alloc | apply pw_below_drewN | apply below_drew1) | exact HB.out))⟩⟩
  · have HG := Aside0.mk (Bool.eq_false_iff.mpr hg)
    have hM : leastWorM l0 wide = 0 := if_neg hg
    rw [hM, HG.out]
    clear hM hg
    go_enter Try.func31, Try.ntmps31
    go_wp2_with (first | (go_at_call 50; (with_reducible refine (lnFits_go _ _ _ l0 wide false _ ?side1 HC0.out HN.out HG.out).mono ?_); (case side1 => repeat (first | exact HR0.out | (with_reducible refine Kd.C_alloc ?_ _) | (with_reducible refine Kd.C_drewN ?_ _) | (with_reducible refine Kd.C_drew ?_))); rintro e w' ⟨rfl, ⟨nd, rfl⟩⟩))
    go_ret2
    exact ⟨rfl, (by repeat (first | (with_reducible first | exact HB.out | apply below_alloc | apply pw_below_drewN | apply below_drew1) | exact HB.out))⟩
end Go.Proofs.Ytaodhgpkdchknaa.Own
