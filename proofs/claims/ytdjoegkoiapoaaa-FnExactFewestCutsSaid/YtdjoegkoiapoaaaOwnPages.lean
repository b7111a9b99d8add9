import Derived.Test.YtdjoegkoiapoaaaOwnMark
namespace Go.Proofs.Ytdjoegkoiapoaaa.Own
open Go.RowKit Go.Proofs.YtdjoegkoiapoaaaW.PrintWords Go.Proofs.YtdjoegkoiapoaaaW.PrintLast Go.Proofs.YtdjoegkoiapoaaaW.PrintMore
attribute [local go_sem] max2_int min2_int max_two min_two max_three min_three max_four min_four
set_option linter.unusedVariables false
set_option linter.unusedSimpArgs false
section
variable {P : Program} {ops : Array Oper} {rest : List Oper} {o : Oper} {a : Act} {Q : Exit → Act → World → Prop}
/-- append(v, q), the one just laid into a block of its own. -/
theorem R_append1 {w0 W : World} (base : Nat) (hgd : o.guard = none) (s x : Operand) (t e : TypeId)
    (ho : o.op = .call { callee := .builtin .append, args := #[s, x], argTypes := #[t, t] })
    (ht : P.underlying t = some (.slice e)) (hinfo : (P.info? e).map (fun i => (i.zero, i.size, i.bytes)) = some (some (.int .i64 0), 1, 8))
    (v : Value) (xs : List Int) (q : Int) (hs : a.eval s = v) (hx : a.eval x = .slice (some ⟨W.heap.size, 0, none⟩) 1 1)
    (HO : Kd.R (Kd.int .i64) e W base (fun _ => True) v xs) (HB : Below base w0 W) (hbase : base ≤ W.heap.size) (hl : (xs.length + 1) * 8 ≤ 140737488355328)
    (h : ∀ v1 w1, Kd.R (Kd.int .i64) e w1 base (fun _ => True) v1 (xs ++ [q]) → Below base w0 w1 → wpList P ops Q rest (a.put o.dst v1) w1) :
    wpList P ops Q (o :: rest) a (W.alloc (.cells #[.int .i64 q] e)) := by
  refine Kd.R_append (Kd.int .i64) (w0 := w0) base hgd s x t e (.int .i64 0) 8 ho ht hinfo rfl (by decide) (by omega) v xs q [.int .i64 q] (fun _ => True) (fun _ => False) hs hx rfl (fun _ hk => hk.elim) (fun _ _ => trivial) HO HB hbase hl ?_
  intro v1 w1 h1 h2 _ _
  exact h v1 w1 h1 h2
end
section
variable {P : Program} {ops : Array Oper} {rest : List Oper} {o : Oper} {a : Act} {Q : Exit → Act → World → Prop}
/-- append(v, p, q), the pair just laid into a block of its own. -/
theorem R_append2 {w0 W : World} (base : Nat) (hgd : o.guard = none) (s x : Operand) (t e : TypeId)
    (ho : o.op = .call { callee := .builtin .append, args := #[s, x], argTypes := #[t, t] })
    (ht : P.underlying t = some (.slice e)) (hinfo : (P.info? e).map (fun i => (i.zero, i.size, i.bytes)) = some (some (.int .i64 0), 1, 8))
    (v : Value) (xs : List Int) (p q : Int) (hs : a.eval s = v) (hx : a.eval x = .slice (some ⟨W.heap.size, 0, none⟩) 2 2)
    (HO : Kd.R (Kd.int .i64) e W base (fun _ => True) v xs) (HB : Below base w0 W) (hbase : base ≤ W.heap.size) (hl : (xs.length + 2) * 8 ≤ 140737488355328)
    (h : ∀ v1 w1, Kd.R (Kd.int .i64) e w1 base (fun _ => True) v1 (xs ++ [p, q]) → Below base w0 w1 → wpList P ops Q rest (a.put o.dst v1) w1) :
    wpList P ops Q (o :: rest) a (W.alloc (.cells #[.int .i64 p, .int .i64 q] e)) := by
  obtain ⟨i0, hi, hzz⟩ := Option.map_eq_some_iff.1 hinfo
  simp only [Prod.mk.injEq] at hzz
  obtain ⟨hz0, hz1, hz2⟩ := hzz
  have ho' := Kd.own_of_R HO
  have hlen : xs.length + 2 ≤ 140737488355328 := by omega
  refine wpList_append_own_at (W.alloc (.cells #[.int .i64 p, .int .i64 q] e)) hgd s x t ho base e i0 (.int .i64 0) 1 8 ht hi hz0 hz1 hz2 rfl (by decide) v xs.length _ hs (ho'.alloc _) ⟨W.heap.size, 0, none⟩ 2 2 [.int .i64 p, .int .i64 q] hx rfl
    (by simpa using World.news_of_block (cs := #[.int .i64 p, .int .i64 q]) (t := e) (fr := (0, 0)) (heap_alloc_new W (.cells #[.int .i64 p, .int .i64 q] e))) (by intro u hu; simp at hu; rcases hu with rfl | rfl <;> rfl) (by simp only [maxLen]; omega) hl (by simp; omega) ?_
  intro v1 w1 hown hg _ hat
  refine h v1 w1 (Kd.R_of_own ?_ (fun _ _ => trivial)) ((HB.alloc hbase _).grown hg (by simp; omega) (own_base ho'))
  simpa [encs] using hown
end
theorem infoI : (Try.prog.info? 3).map (fun i => (i.zero, i.size, i.bytes)) = some (some (.int .i64 0), 1, 8) := by kernel_rfl
/-- The pages of a leaf, as they are read. -/
def pg1 (n : Int) : Int := if n < 0 then -2 * n else 2 * n - 1
def pg2 (n : Int) : Int := if n < 0 then -2 * n - 1 else 2 * n
def pagesL : List Int → List Int
  | [] => []
  | y :: ys => pg1 y :: pg2 y :: pagesL ys
theorem pagesL_snoc : ∀ (l : List Int) (y : Int), pagesL (l ++ [y]) = pagesL l ++ [pg1 y, pg2 y]
  | [], y => rfl
  | x :: xs, y => by simp [pagesL, pagesL_snoc xs y]
theorem pagesL_length : ∀ l : List Int, (pagesL l).length = 2 * l.length
  | [] => rfl
  | x :: xs => by simp [pagesL, pagesL_length xs]; omega
def pagesM (l : List Int) : List Int := if goodB l = true then pagesL l else []
theorem pagesM_small (l : List Int) : (pagesM l).length ≤ 1048576 := by
  unfold pagesM
  split
  · rename_i h
    have hp : goodP l := of_decide_eq_true h
    have := hp.2.1
    rw [pagesL_length]; omega
  · simp
set_option maxHeartbeats 8000000 in
set_option maxRecDepth 100000 in
theorem biPages_go (n : Int) (w : World) (h1 : -8 ≤ n) (h2 : n ≤ 8) :
    Calls Try.prog 47 #[.int .i64 n] w fun e w' => e = .returned (.tuple #[.int .i64 (pg1 n), .int .i64 (pg2 n)]) ∧ w = w' := by
  by_cases hn : n < 0
  · have e1 : pg1 n = -2 * n := by unfold pg1; rw [if_pos hn]
    have e2 : pg2 n = -2 * n - 1 := by unfold pg2; rw [if_pos hn]
    rw [e1, e2]
    clear e1 e2
    go_enter Try.func47, Try.ntmps47
    go_wp2
    go_ret2
    exact ⟨rfl, rfl⟩
  · have e1 : pg1 n = 2 * n - 1 := by unfold pg1; rw [if_neg hn]
    have e2 : pg2 n = 2 * n := by unfold pg2; rw [if_neg hn]
    rw [e1, e2]
    clear e1 e2
    go_enter Try.func47, Try.ntmps47
    go_wp2
    go_ret2
    exact ⟨rfl, rfl⟩
set_option maxHeartbeats 8000000 in
set_option maxRecDepth 100000 in
theorem pagesOf_go (n : Int) (w : World) (h1 : -8 ≤ n) (h2 : n ≤ 8) :
    Calls Try.prog 48 #[.int .i64 n] w fun e w' => e = .returned (.tuple #[.int .i64 (pg1 n), .int .i64 (pg2 n)]) ∧ w = w' := by
  by_cases hn : n < 0
  · have e1 : pg1 n = -2 * n := by unfold pg1; rw [if_pos hn]
    have e2 : pg2 n = -2 * n - 1 := by unfold pg2; rw [if_pos hn]
    rw [e1, e2]
    clear e1 e2
    go_enter Try.func48, Try.ntmps48
    go_wp2
    go_ret2
    exact ⟨rfl, rfl⟩
  · have e1 : pg1 n = 2 * n - 1 := by unfold pg1; rw [if_neg hn]
    have e2 : pg2 n = 2 * n := by unfold pg2; rw [if_neg hn]
    rw [e1, e2]
    clear e1 e2
    go_enter Try.func48, Try.ntmps48
    go_wp2
    go_ret2
    exact ⟨rfl, rfl⟩
set_option maxHeartbeats 8000000 in
set_option maxRecDepth 100000 in
theorem specPagesRead_go (A0 : Option Addr) (n c0 : Nat) (l0 : List Int) (w : World) (hr0 : Kd.C (Kd.int .i64) w A0 n l0) (hc0 : n ≤ c0) (hn : n < 1073741824) :
    Calls Try.prog 32 #[.slice A0 n c0] w fun e w' => ∃ v : Value, e = .returned (.tuple #[v, .bool (goodB l0)]) ∧ Kd.R (Kd.int .i64) 3 w' w.heap.size (fun _ => True) v (pagesM l0) ∧ Below w.heap.size w w' := by
  obtain rfl : l0.length = n := hr0.1
  have HR0 := Aside0.mk hr0
  have HC0 := Aside0.mk hc0
  have HN := Aside0.mk hn
  have HB := Aside0.mk (Below.refl w.heap.size w)
  clear hr0 hc0 hn
  by_cases hg : goodB l0 = true
  · have HG := Aside0.mk hg
    have hM : Aside0 (pagesM l0 = pagesL l0) := ⟨by unfold pagesM; rw [if_pos hg]⟩
    have HP : Aside0 (goodP l0) := ⟨of_decide_eq_true hg⟩
    clear hg
    rw [HG.out, hM.out]
    go_enter Try.func32, Try.ntmps32
    go_wp2_with (first | (go_at_call 38; (with_reducible refine (biGood_go _ _ _ l0 true _ ?side1 HC0.out ?side2 HG.out).mono ?_); (case side1 => repeat (first | exact HR0.out | (with_reducible refine Kd.C_alloc ?_ _) | (with_reducible refine Kd.C_drewN ?_ _) | (with_reducible refine Kd.C_drew ?_))); (case side2 => have := HN.out; omega); rintro e w' ⟨rfl, ⟨nd, rfl⟩⟩))
    go_loopg [4, 14] (l0.length) (fun kq v4 vx w' => ∃ x : Int, vx = .int .i64 x ∧ Aside0 (0 ≤ x ∧ x + kq = l0.length) ∧ Aside0 (Kd.R (Kd.int .i64) 3 w' w.heap.size (fun _ => True) v4 (pagesL (l0.take x.toNat))) ∧ Aside0 (Below w.heap.size w w'))
    case atStart => exact ⟨0, rfl, ⟨by omega, by omega⟩, ⟨Kd.R_nil _ _ _ _ _⟩, ⟨(by repeat (first | (with_reducible first | exact HB.out | apply below_alloc | apply pw_below_drewN | apply below_drew1) | exact HB.out))⟩⟩
    case round =>
      clear HB
      try clear HO0
      obtain ⟨x, rfl, HX, HO, HB⟩ := hrel
      have hx0 := HX.out.1
      have hxk := HX.out.2
      rcases hdr : l0.drop x.toNat with _ | ⟨y, ys⟩
      · have hlen := drop_nil hx0 hdr
        have HTK := Aside0.mk (List.take_of_length_le (l := l0) (i := x.toNat) (by omega))
        rw [HTK.out] at HO
        clear hdr hxk
        go_wp2
        go_ret2
        exact ⟨_, rfl, by ((with_reducible repeat (first | apply Kd.R_alloc | apply Kd.R_drewN | apply Kd.R_drew)); exact HO.out), (by repeat (first | (with_reducible first | exact HB.out | apply below_alloc | apply pw_below_drewN | apply below_drew1) | exact HB.out))⟩
      · obtain ⟨h1, h2, h3, h4⟩ := drop_cons hx0 hdr
        obtain ⟨ad, rfl, hc⟩ := Kd.at_int HR0.out x hx0 h1
        rw [h2] at hc
        replace hc := (HB.out.cell (World.block_lt_of_cell? w _ hc)).trans hc
        have hy := HP.out.2.2.1 y (List.mem_of_mem_drop (by rw [hdr]; exact List.mem_cons_self))
        have hy8 := HP.out.2.1
        have HY1 : Aside0 (-8 ≤ y) := ⟨by omega⟩
        have HY2 : Aside0 (y ≤ 8) := ⟨by omega⟩
        have HS := Aside0.mk (pagesL_snoc (l0.take x.toNat) y)
        rw [← h4] at HS
        have HL : Aside0 ((pagesL (l0.take x.toNat)).length ≤ 16) := ⟨by rw [pagesL_length, List.length_take]; omega⟩
        have HXK := Aside0.mk hxk
        have hN := HN.out
        clear h2 h3 h4 hdr hxk hy hy8
        go_wp2_with (first | (go_at_call 47; (with_reducible refine (biPages_go y _ HY1.out HY2.out).mono ?_); rintro e w' ⟨rfl, rfl⟩) | ((with_reducible refine gate_builtin (b := .append) (xs := #[.tmp 23, .tmp 26]) rfl ?_); at_builtin; refine R_append2 (w0 := w) w.heap.size rfl (.tmp 23) (.tmp 26) 25 3 rfl Try.underlying25 infoI _ (pagesL (l0.take x.toNat)) (pg1 y) (pg2 y) rfl rfl ?aO ?aB ?aS ?aL ?_; (case aO => ((with_reducible repeat (first | apply Kd.R_alloc | apply Kd.R_drewN | apply Kd.R_drew)); exact HO.out)); (case aB => exact (by repeat (first | (with_reducible first | exact HB.out | apply below_alloc | apply pw_below_drewN | apply below_drew1) | exact HB.out))); (case aS => exact (below_size (by repeat (first | (with_reducible first | exact HB.out | apply below_alloc | apply pw_below_drewN | apply below_drew1) | exact HB.out)))); (case aL => have := HL.out; omega); intro v1 w1 ho hb; rw [← HS.out] at ho; clear HO HB; have HO := Aside0.mk ho; have HB := Aside0.mk hb; clear ho hb))
        cases gk with
        | zero => exact absurd HXK.out (by omega)
        | succ k1 =>
          go_roundg k1
          case measure => omega
          case rel => exact ⟨x + 1, rfl, ⟨by omega, by have := HXK.out; omega⟩, ⟨by ((with_reducible repeat (first | apply Kd.R_alloc | apply Kd.R_drewN | apply Kd.R_drew)); exact HO.out)⟩, ⟨(by repeat (first | (with_reducible first | exact HB.out | apply below_alloc | apply pw_below_drewN | apply below_drew1) | exact HB.out))⟩⟩
  · have HG := Aside0.mk (Bool.eq_false_iff.mpr hg)
    have hM : Aside0 (pagesM l0 = []) := ⟨by unfold pagesM; rw [if_neg hg]⟩
    clear hg
    rw [HG.out, hM.out]
    go_enter Try.func32, Try.ntmps32
    go_wp2_with (go_at_call 38; (with_reducible refine (biGood_go _ _ _ l0 false _ ?side1 HC0.out ?side2 HG.out).mono ?_); (case side1 => repeat (first | exact HR0.out | (with_reducible refine Kd.C_alloc ?_ _) | (with_reducible refine Kd.C_drewN ?_ _) | (with_reducible refine Kd.C_drew ?_))); (case side2 => have := HN.out; omega); rintro e w' ⟨rfl, ⟨nd, rfl⟩⟩)
    go_ret2
    exact ⟨_, rfl, Kd.R_nil _ _ _ _ _, (by repeat (first | (with_reducible first | exact HB.out | apply below_alloc | apply pw_below_drewN | apply below_drew1) | exact HB.out))⟩
set_option maxHeartbeats 8000000 in
set_option maxRecDepth 100000 in
theorem implPagesRead_go (A0 : Option Addr) (n c0 : Nat) (l0 : List Int) (w : World) (hr0 : Kd.C (Kd.int .i64) w A0 n l0) (hc0 : n ≤ c0) (hn : n < 1073741824) :
    Calls Try.prog 33 #[.slice A0 n c0] w fun e w' => ∃ v : Value, e = .returned (.tuple #[v, .bool (goodB l0)]) ∧ Kd.R (Kd.int .i64) 3 w' w.heap.size (fun _ => True) v (pagesM l0) ∧ Below w.heap.size w w' := by
  obtain rfl : l0.length = n := hr0.1
  have HR0 := Aside0.mk hr0
  have HC0 := Aside0.mk hc0
  have HN := Aside0.mk hn
  have HB := Aside0.mk (Below.refl w.heap.size w)
  clear hr0 hc0 hn
  by_cases hg : goodB l0 = true
  · have HG := Aside0.mk hg
    have hM : Aside0 (pagesM l0 = pagesL l0) := ⟨by unfold pagesM; rw [if_pos hg]⟩
    have HP : Aside0 (goodP l0) := ⟨of_decide_eq_true hg⟩
    clear hg
    rw [HG.out, hM.out]
    go_enter Try.func33, Try.ntmps33
    go_wp2_with (first | (go_at_call 16; (with_reducible refine (implIsBinding_go _ _ _ l0 _ ?side1 HC0.out HN.out).mono ?_); (case side1 => repeat (first | exact HR0.out | (with_reducible refine Kd.C_alloc ?_ _) | (with_reducible refine Kd.C_drewN ?_ _) | (with_reducible refine Kd.C_drew ?_))); rintro e w1 ⟨rfl, hb⟩; rw [HG.out]; clear HB; have HB := Aside0.mk hb; clear hb) | ((with_reducible refine gate_dst (N := 12) rfl ?_); refine Kd.R_lit (Kd.int .i64) _ 3 ?hg (N := 12) ?hd (xs := ([] : List Int)) (inner := []) (ok := fun _ => True) (okp := fun _ => True) ?hr ?hp (fun _ hk => hk) trivial (Below.refl _ _) (Nat.le_refl _) (by simp) ?_; (case hd => rfl); (case hg => rfl); (case hr => first | (go_simp; done) | (go_simp; rfl)); (case hp => exact (Reps.none _ _)); intro v12 w2 ho hb hg_ hnew_; clear hg_ hnew_; have HO0 := Aside0.mk (Kd.R_lower ho (below_size (by repeat (first | (with_reducible first | exact HB.out | apply below_alloc | apply pw_below_drewN | apply below_drew1) | exact HB.out)))); have n1_ := Aside0.mk (below_step (by repeat (first | (with_reducible first | exact HB.out | apply below_alloc | apply pw_below_drewN | apply below_drew1) | exact HB.out)) hb); clear HB; have HB := n1_; clear n1_ hb ho))
    go_loopg [4, 15] (l0.length) (fun kq v4 vx w' => ∃ x : Int, vx = .int .i64 x ∧ Aside0 (0 ≤ x ∧ x + kq = l0.length) ∧ Aside0 (Kd.R (Kd.int .i64) 3 w' w.heap.size (fun _ => True) v4 (pagesL (l0.take x.toNat))) ∧ Aside0 (Below w.heap.size w w'))
    case atStart => exact ⟨0, rfl, ⟨by omega, by omega⟩, ⟨by ((with_reducible repeat (first | apply Kd.R_alloc | apply Kd.R_drewN | apply Kd.R_drew)); exact HO0.out)⟩, ⟨(by repeat (first | (with_reducible first | exact HB.out | apply below_alloc | apply pw_below_drewN | apply below_drew1) | exact HB.out))⟩⟩
    case round =>
      clear HB
      try clear HO0
      obtain ⟨x, rfl, HX, HO, HB⟩ := hrel
      have hx0 := HX.out.1
      have hxk := HX.out.2
      rcases hdr : l0.drop x.toNat with _ | ⟨y, ys⟩
      · have hlen := drop_nil hx0 hdr
        have HTK := Aside0.mk (List.take_of_length_le (l := l0) (i := x.toNat) (by omega))
        rw [HTK.out] at HO
        clear hdr hxk
        go_wp2
        go_ret2
        exact ⟨_, rfl, by ((with_reducible repeat (first | apply Kd.R_alloc | apply Kd.R_drewN | apply Kd.R_drew)); exact HO.out), (by repeat (first | (with_reducible first | exact HB.out | apply below_alloc | apply pw_below_drewN | apply below_drew1) | exact HB.out))⟩
      · obtain ⟨h1, h2, h3, h4⟩ := drop_cons hx0 hdr
        obtain ⟨ad, rfl, hc⟩ := Kd.at_int HR0.out x hx0 h1
        rw [h2] at hc
        replace hc := (HB.out.cell (World.block_lt_of_cell? w _ hc)).trans hc
        have hy := HP.out.2.2.1 y (List.mem_of_mem_drop (by rw [hdr]; exact List.mem_cons_self))
        have hy8 := HP.out.2.1
        have HY1 : Aside0 (-8 ≤ y) := ⟨by omega⟩
        have HY2 : Aside0 (y ≤ 8) := ⟨by omega⟩
        have HS := Aside0.mk (pagesL_snoc (l0.take x.toNat) y)
        rw [← h4] at HS
        have HL : Aside0 ((pagesL (l0.take x.toNat)).length ≤ 16) := ⟨by rw [pagesL_length, List.length_take]; omega⟩
        have HXK := Aside0.mk hxk
        have hN := HN.out
        clear h2 h3 h4 hdr hxk hy hy8
        go_wp2_with (first | (go_at_call 48; (with_reducible refine (pagesOf_go y _ HY1.out HY2.out).mono ?_); rintro e w' ⟨rfl, rfl⟩) | ((with_reducible refine gate_builtin (b := .append) (xs := #[.tmp 24, .tmp 27]) rfl ?_); at_builtin; refine R_append2 (w0 := w) w.heap.size rfl (.tmp 24) (.tmp 27) 25 3 rfl Try.underlying25 infoI _ (pagesL (l0.take x.toNat)) (pg1 y) (pg2 y) rfl rfl ?aO ?aB ?aS ?aL ?_; (case aO => ((with_reducible repeat (first | apply Kd.R_alloc | apply Kd.R_drewN | apply Kd.R_drew)); exact HO.out)); (case aB => exact (by repeat (first | (with_reducible first | exact HB.out | apply below_alloc | apply pw_below_drewN | apply below_drew1) | exact HB.out))); (case aS => exact (below_size (by repeat (first | (with_reducible first | exact HB.out | apply below_alloc | apply pw_below_drewN | apply below_drew1) | exact HB.out)))); (case aL => have := HL.out; omega); intro v1 w1 ho hb; rw [← HS.out] at ho; clear HO HB; have HO := Aside0.mk ho; have HB := Aside0.mk hb; clear ho hb))
        cases gk with
        | zero => exact absurd HXK.out (by omega)
        | succ k1 =>
          go_roundg k1
          case measure => omega
          case rel => exact ⟨x + 1, rfl, ⟨by omega, by have := HXK.out; omega⟩, ⟨by ((with_reducible repeat (first | apply Kd.R_alloc | apply Kd.R_drewN | apply Kd.R_drew)); exact HO.out)⟩, ⟨(by repeat (first | (with_reducible first | exact HB.out | apply below_alloc | apply pw_below_drewN | apply below_drew1) | exact HB.out))⟩⟩
  · have HG := Aside0.mk (Bool.eq_false_iff.mpr hg)
    have hM : Aside0 (pagesM l0 = []) := ⟨by unfold pagesM; rw [if_neg hg]⟩
    clear hg
    rw [HG.out, hM.out]
    go_enter Try.func33, Try.ntmps33
    go_wp2_with (go_at_call 16; (with_reducible refine (implIsBinding_go _ _ _ l0 _ ?side1 HC0.out HN.out).mono ?_); (case side1 => repeat (first | exact HR0.out | (with_reducible refine Kd.C_alloc ?_ _) | (with_reducible refine Kd.C_drewN ?_ _) | (with_reducible refine Kd.C_drew ?_))); rintro e w1 ⟨rfl, hb⟩; rw [HG.out]; clear HB; have HB := Aside0.mk hb; clear hb)
    go_ret2
    exact ⟨_, rfl, Kd.R_nil _ _ _ _ _, (by repeat (first | (with_reducible first | exact HB.out | apply below_alloc | apply pw_below_drewN | apply below_drew1) | exact HB.out))⟩
end Go.Proofs.Ytdjoegkoiapoaaa.Own
