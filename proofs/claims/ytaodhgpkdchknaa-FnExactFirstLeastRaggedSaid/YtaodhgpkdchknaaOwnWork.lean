import Derived.Test.YtaodhgpkdchknaaOwnMax
import Derived.Test.YtaodhgpkdchknaaPtoIntSx1
import Derived.Test.YtaodhgpkdchknaaPeqIntSx1
import Derived.Test.YtaodhgpkdchknaaPheldIntSx1
namespace Go.Proofs.Ytaodhgpkdchknaa.Own
open Go.RowKit Go.Proofs.YtaodhgpkdchknaaW.PrintWords Go.Proofs.YtaodhgpkdchknaaW.PrintLast Go.Proofs.YtaodhgpkdchknaaW.PrintMore
attribute [local go_sem] max2_int min2_int max_two min_two max_three min_three max_four min_four
set_option linter.unusedVariables false
set_option linter.unusedSimpArgs false
theorem infoI : (Try.prog.info? 3).map (fun i => (i.zero, i.size, i.bytes)) = some (some (.int .i64 0), 1, 8) := by kernel_rfl
section
variable {P : Program} {ops : Array Oper} {rest : List Oper} {o : Oper} {a : Act} {Q : Exit → Act → World → Prop}
/-- append(v, q), the one just laid into a block of its own. -/
theorem R_append1 {w0 W : World} (base : Nat) (hgd : o.guard = none) (s x : Operand) (t e : TypeId)
    (ho : o.op = .call { callee := .builtin .append, args := #[s, x], argTypes := #[t, t] })
    (ht : P.underlying t = some (.slice e)) (hinfo : (P.info? e).map (fun i => (i.zero, i.size, i.bytes)) = some (some (.int .i64 0), 1, 8))
    (v : Value) (xs : List Int) (q : Int) (hs : a.eval s = v) (hx : a.eval x = .slice (some ⟨W.heap.size, 0, none⟩) 1 1)
    (HO : Kd.R (Kd.int .i64) e W base (fun _ => True) v xs) (HB : Below base w0 W) (hbase : base ≤ W.heap.size) (hl : (xs.length + 1) * 8 ≤ 140737488355328)
    (h : ∀ v1 w1, Kd.R (Kd.int .i64) e w1 base (fun _ => True) v1 (xs ++ [q]) → Below base w0 w1 → wpList P ops Q rest (a.put o.dst v1) w1) :
    wpList P ops Q (o :: rest) a (W.alloc (.cells #[.int .i64 q] e)) := by
  refine Kd.R_append (Kd.int .i64) (w0 := w0) base hgd s x t e (.int .i64 0) 8 ho ht hinfo rfl (by decide) (by omega) v xs q [.int .i64 q] (fun _ => True) (fun _ => False) hs hx rfl (fun _ hk => hk.elim) (fun _ _ => trivial) HO HB hbase hl ?_
  intro v1 w1 h1 h2 _ _
  exact h v1 w1 h1 h2
end
section
open Go.Proofs.Ytaodhgpkdchknaa.PtoIntS
theorem toIntS_l (xs : List Int) (hn : xs.length < 4611686018427387904) : ∀ (ys : List Int) (i : Int) (zs : List Int), 0 ≤ i → xs.drop i.toNat = ys → zs.length = ys.length →
    Ev (fun k => laws_toIntS.l0 k xs (xs.take i.toNat ++ zs) i) xs := by
  intro ys
  induction ys with
  | nil =>
    intro i zs h0 h hz
    have := drop_nil h0 h
    refine Ev.step (fun k => laws_toIntS.l0.eq_2 ..) ?_
    have hz : zs = [] := List.eq_nil_of_length_eq_zero hz
    refine ev_neg (by omega) (ev_now ?_)
    rw [hz, List.append_nil, List.take_of_length_le (by omega)]
  | cons y ys ih =>
    intro i zs h0 h hz
    obtain ⟨h1, h2, h3, h4⟩ := drop_cons h0 h
    obtain ⟨z, zs, rfl⟩ : ∃ z zs', zs = z :: zs' := List.exists_cons_of_length_eq_add_one hz
    have hl : (xs.take i.toNat).length = i.toNat := by rw [List.length_take]; omega
    refine Ev.step (fun k => laws_toIntS.l0.eq_2 ..) ?_
    refine ev_pos h1 (ev_pos h0 (ev_pos (by rw [List.length_append, hl, List.length_cons]; omega) ?_))
    rw [h2, w64 (by omega) (by omega)]
    have e : (xs.take i.toNat ++ z :: zs).set i.toNat y = xs.take (i + 1).toNat ++ zs := by
      rw [h4, List.set_append_right _ _ (by omega), hl, Nat.sub_self, List.set_cons_zero, List.append_assoc]; rfl
    rw [e]
    exact ih (i + 1) zs (by omega) h3 (by simpa using hz)
theorem toIntS_ev (xs : List Int) (hn : xs.length ≤ 1048576) : Ev (fun k => laws_toIntS.f k xs) xs := by
  unfold laws_toIntS.f
  refine ev_pos (by omega) (ev_pos (by omega) ?_)
  exact toIntS_l xs (by omega) xs 0 _ (by omega) rfl (by simp)
theorem toIntS_go (A0 : Option Addr) (n c0 : Nat) (l0 : List Int) (w : World) (hr0 : Kd.C (Kd.int .i64) w A0 n l0) (hc0 : n ≤ c0) (hn : n ≤ 1048576) :
    Calls Try.prog 16 #[.slice A0 n c0] w fun e w' => ∃ v : Value, e = .returned v ∧ Kd.R (Kd.int .i64) 3 w' w.heap.size (fun _ => True) v l0 ∧ Below w.heap.size w w' := by
  obtain rfl : l0.length = n := hr0.1
  obtain ⟨k, hk⟩ := (toIntS_ev l0 hn).rounds
  exact laws_toIntS.calls k A0 c0 l0 l0 w hr0 hc0 hk
end
section
open Go.Proofs.Ytaodhgpkdchknaa.PeqIntS
theorem eqIntS_l (xs : List Int) (hn : xs.length < 4611686018427387904) : ∀ (ys : List Int) (i : Int), 0 ≤ i → xs.drop i.toNat = ys →
    Ev (fun k => laws_eqIntS.l0 k xs xs i) true := by
  intro ys
  induction ys with
  | nil =>
    intro i h0 h
    have := drop_nil h0 h
    refine Ev.step (fun k => laws_eqIntS.l0.eq_2 ..) ?_
    exact ev_neg (by omega) (ev_now rfl)
  | cons y ys ih =>
    intro i h0 h
    obtain ⟨h1, h2, h3, _⟩ := drop_cons h0 h
    refine Ev.step (fun k => laws_eqIntS.l0.eq_2 ..) ?_
    refine ev_pos h1 (ev_pos h0 (ev_pos h1 (ev_pos rfl ?_)))
    rw [w64 (by omega) (by omega)]
    exact ih _ (by omega) h3
theorem eqIntS_ev (xs : List Int) (hn : xs.length < 4611686018427387904) : Ev (fun k => laws_eqIntS.f k xs xs) true := by
  unfold laws_eqIntS.f
  exact ev_pos rfl (eqIntS_l xs hn xs 0 (by omega) rfl)
theorem eqIntS_go (A0 : Option Addr) (n0 c0 : Nat) (l0 : List Int) (A1 : Option Addr) (n1 c1 : Nat) (l1 : List Int) (w : World) (hr0 : Kd.C (Kd.int .i64) w A0 n0 l0) (hc0 : n0 ≤ c0) (hr1 : Kd.C (Kd.int .i64) w A1 n1 l1) (hc1 : n1 ≤ c1) (hn : n0 < 4611686018427387904) (he : l0 = l1) :
    Calls Try.prog 18 #[.slice A0 n0 c0, .slice A1 n1 c1] w fun e w' => e = .returned (.bool true) ∧ Drawn0 w w' := by
  subst he
  obtain rfl : l0.length = n0 := hr0.1
  obtain rfl : l0.length = n1 := hr1.1
  obtain ⟨k, hk⟩ := (eqIntS_ev l0 hn).rounds
  exact laws_eqIntS.calls k A0 c0 l0 A1 c1 l0 true w hr0 hc0 hr1 hc1 hk
end
/-- What a list reads as behind the marking. -/
def marks (n : Nat) : List Int := (List.range n).map (fun i : Nat => (1 : Int) + i)
theorem marks_length (n : Nat) : (marks n).length = n := by simp [marks]
theorem marks_succ (n : Nat) : marks (n + 1) = marks n ++ [(1 : Int) + n] := by simp [marks, List.range_succ]
/-- A list whose first x elements are marked. -/
def marked (l : List Int) (x : Nat) : List Int := marks x ++ l.drop x
theorem marked_zero (l : List Int) : marked l 0 = l := by simp [marked, marks]
theorem marked_length (l : List Int) (x : Nat) (h : x ≤ l.length) : (marked l x).length = l.length := by simp [marked, marks_length]; omega
theorem marked_all (l : List Int) (x : Nat) (h : l.length ≤ x) (h2 : x ≤ l.length) : marked l x = marks l.length := by
  have e : x = l.length := by omega
  subst e
  simp [marked]
theorem marked_set (l : List Int) (x : Nat) (h : x < l.length) : (marked l x).set x (1 + (x : Int)) = marked l (x + 1) := by
  unfold marked
  rw [List.set_append_right _ _ (by rw [marks_length]; exact Nat.le_refl _), marks_length, Nat.sub_self, List.drop_eq_getElem_cons h, List.set_cons_zero, marks_succ, List.append_assoc]
  rfl
set_option maxHeartbeats 8000000 in
set_option maxRecDepth 100000 in
theorem markIntS_go (l0 : List Int) (w0 w : World) {v : Value} {ok : Nat → Prop} (hB : Below w0.heap.size w0 w) (ho : Kd.R (Kd.int .i64) 3 w w0.heap.size ok v l0) (hn : l0.length < 1073741824) :
    Calls Try.prog 21 #[v, .int .i64 1] w fun e w' => e = .returned (.int .i64 (1 + (l0.length : Int))) ∧ Kd.R (Kd.int .i64) 3 w' w0.heap.size ok v (marks l0.length) ∧ Below w0.heap.size w0 w' ∧ Kept w w' (fun k => some k = v.ownBlock) := by
  have HO0 := Aside0.mk ho
  have HK := Aside0.mk (Kept.refl w (fun k => some k = v.ownBlock))
  have HB := Aside0.mk hB
  have HN := Aside0.mk hn
  clear hB ho hn
  go_enter Try.func21, Try.ntmps21
  go_wp2
  go_loopg [1, 5] (l0.length) (fun kq v1 v5 w' => ∃ x : Nat, v1 = .int .i64 (1 + (x : Int)) ∧ v5 = .int .i64 (x : Int) ∧ Aside0 (x + kq = l0.length) ∧ Aside0 (Kd.R (Kd.int .i64) 3 w' w0.heap.size ok v (marked l0 x)) ∧ Aside0 (Kept w w' (fun k => some k = v.ownBlock)) ∧ Aside0 (Below w0.heap.size w0 w'))
  case atStart => exact ⟨0, rfl, rfl, ⟨by omega⟩, ⟨by rw [marked_zero]; exact HO0.out⟩, ⟨HK.out⟩, ⟨HB.out⟩⟩
  case round =>
    clear HO0 HK HB
    obtain ⟨x, rfl, rfl, HX, HO, HK, HB⟩ := hrel
    have hxk := HX.out
    have hml := marked_length l0 x (by omega)
    have HL := Aside0.mk hml
    have hN := HN.out
    by_cases c3 : x < l0.length
    · have HSX := Aside0.mk (marked_set l0 x c3)
      obtain ⟨Ao, co, eo⟩ := Kd.R_slice HO.out
      rw [hml] at eo
      have hlt : (x : Int) < ((marked l0 x).length : Int) := by rw [hml]; omega
      obtain ⟨g, cap, eg, gb, gl, cl, HG⟩ := Kd.R_form HO.out (by omega)
      rw [hml] at eg
      rw [eg] at eo
      cases eo
      subst eg
      have HO2 : Aside0 (Kd.R (Kd.int .i64) 3 wr w0.heap.size ok (.slice (some ⟨g, 0, none⟩) (marked l0 x).length co) (marked l0 x)) := ⟨by rw [hml]; exact HO.out⟩
      obtain ⟨hx0, hf0⟩ := Kd.R_celln 0 HO2.out (x : Int) (by omega) hlt
      have HP := Aside0.mk (Kd.R_putg HO2.out (x : Int) (1 + (x : Int)))
      rw [Int.toNat_natCast, HSX.out, HL.out] at HP
      simp only [Int.toNat_natCast] at hx0 hf0
      have GB := Aside0.mk gb
      have HXK := Aside0.mk hxk
      have c3i : (x : Int) < (l0.length : Int) := by omega
      clear hml hlt gb gl HG cl HL HSX hxk HX HO2
      go_wp2_with (first | ((with_reducible refine gate_store (t := 3) (p := 15) rfl ?_); refine store_event (t := 3) (p := 15) (v := ?vo_) (w1 := (wr.setCell ⟨g, x, none⟩ (.int .i64 (1 + (x : Int))))) ?hg ?ho ?hn ?hr ?_; (case ho => rfl); (case hg => rfl); (case hn => rfl); (case hr => first | (go_simp; done) | (go_simp; rfl)); intro w8 hw; have HG8 : Aside0 (wr.grownBy w8 (some g)) := ⟨by rw [hw]; exact HP.out.2⟩; have n0_ : Aside0 (Kd.R (Kd.int .i64) 3 w8 w0.heap.size ok (.slice (some ⟨g, 0, none⟩) l0.length co) (marked l0 (x + 1))) := ⟨by rw [hw]; exact HP.out.1⟩; have n1_ : Aside0 (Below w0.heap.size w0 w8) := ⟨by rw [hw]; exact below_set HB.out GB.out⟩; have n2_ := Aside0.mk (Kept.of_grown (S := (fun k_ => some k_ = (Value.slice (some ⟨g, 0, none⟩) l0.length co).ownBlock)) HG8.out (by repeat (first | (with_reducible first | exact HK.out | apply Kept.alloc | apply Kept.drewN | apply Kept.drew) | exact HK.out)) (fun k_ e_ => by rw [← e_]; simp [Value.ownBlock])); clear HO HB HK HP HG8 hw; have HO := n0_; have HB := n1_; have HK := n2_; clear n0_ n1_ n2_))
      cases gk with
      | zero => exact absurd HXK.out (by omega)
      | succ k1 =>
        go_roundg k1
        case measure => omega
        case rel => exact ⟨x + 1, int_eq (by omega), int_eq (by omega), ⟨by have := HXK.out; omega⟩, ⟨by ((with_reducible repeat (first | apply Kd.R_alloc | apply Kd.R_drewN | apply Kd.R_drew)); exact HO.out)⟩, ⟨by repeat (first | (with_reducible first | exact HK.out | apply Kept.alloc | apply Kept.drewN | apply Kept.drew) | exact HK.out)⟩, ⟨by repeat (first | (with_reducible first | exact HB.out | apply below_alloc | apply pw_below_drewN | apply below_drew1) | exact HB.out)⟩⟩
    · have HE := Aside0.mk (marked_all l0 x (by omega) (by omega))
      obtain ⟨Ao, co, eo⟩ := Kd.R_slice HO.out
      rw [hml] at eo
      subst eo
      rw [HE.out] at HO
      have hxe : (x : Int) = (l0.length : Int) := by omega
      have HXE := Aside0.mk hxe
      have c3i : ¬ (x : Int) < (l0.length : Int) := by omega
      clear hml hxe HL hxk HX
      go_wp2
      go_ret
      exact ⟨ret_i (by rw [HXE.out]), HO.out, HB.out, HK.out⟩
section
open Go.Proofs.Ytaodhgpkdchknaa.PheldIntS
theorem heldIntS_l (n : Nat) (hn : n < 1073741824) : ∀ (m i : Nat), i + m = n →
    Ev (fun k => laws_heldIntS.l0 k (marks n) (1 + (i : Int)) (i : Int)) ((1 : Int) + n) := by
  intro m
  induction m with
  | zero =>
    intro i h
    refine Ev.step (fun k => laws_heldIntS.l0.eq_2 ..) ?_
    exact ev_neg (by rw [marks_length]; omega) (ev_now (by omega))
  | succ m ih =>
    intro i h
    refine Ev.step (fun k => laws_heldIntS.l0.eq_2 ..) ?_
    have hr : rd (marks n) (i : Int) = 1 + (i : Int) := by
      simp [rd, marks, List.getD_eq_getElem?_getD, List.getElem?_range (show i < n by omega)]
    refine ev_pos (by rw [marks_length]; omega) (ev_pos (by omega) (ev_pos hr ?_))
    rw [w64 (by omega) (by omega), w64 (by omega) (by omega)]
    have h2 := ih (i + 1) (by omega)
    have e2 : (1 : Int) + ((i + 1 : Nat) : Int) = 1 + (i : Int) + 1 := by omega
    have e3 : ((i + 1 : Nat) : Int) = (i : Int) + 1 := by omega
    rw [e2, e3] at h2
    exact h2
theorem heldIntS_ev (n : Nat) (hn : n < 1073741824) : Ev (fun k => laws_heldIntS.f k (marks n) 1) ((1 : Int) + n) := heldIntS_l n hn n 0 (by omega)
theorem heldIntS_go (A0 : Option Addr) (n c0 : Nat) (l0 : List Int) (m : Nat) (w : World) (hr0 : Kd.C (Kd.int .i64) w A0 n l0) (hc0 : n ≤ c0) (hm : l0 = marks m) (hn : m < 1073741824) :
    Calls Try.prog 22 #[.slice A0 n c0, .int .i64 1] w fun e w' => e = .returned (.int .i64 (1 + (m : Int))) ∧ Drawn0 w w' := by
  subst hm
  obtain rfl : (marks m).length = n := hr0.1
  obtain ⟨k, hk⟩ := (heldIntS_ev m hn).rounds
  exact laws_heldIntS.calls k A0 c0 (marks m) 1 _ w hr0 hc0 hk
end
end Go.Proofs.Ytaodhgpkdchknaa.Own
