import Derived.Test.YtdjoegkoiapoaaaOwnGood
import Derived.Test.YtdjoegkoiapoaaaPheldIntSx1
namespace Go.Proofs.Ytdjoegkoiapoaaa.Own
open Go.RowKit Go.Proofs.YtdjoegkoiapoaaaW.PrintWords Go.Proofs.YtdjoegkoiapoaaaW.PrintLast Go.Proofs.YtdjoegkoiapoaaaW.PrintMore
attribute [local go_sem] max2_int min2_int max_two min_two max_three min_three max_four min_four
set_option linter.unusedVariables false
set_option linter.unusedSimpArgs false
/-- What a list reads as behind the marking. -/
def marks (n : Nat) : List Int := (List.range n).map (fun i : Nat => (1 : Int) + i)
theorem marks_length (n : Nat) : (marks n).length = n := by simp [marks]
theorem marks_succ (n : Nat) : marks (n + 1) = marks n ++ [(1 : Int) + n] := by simp [marks, List.range_succ]
/-- A list whose first x elements are marked. -/
def marked (l : List Int) (x : Nat) : List Int := marks x ++ l.drop x
theorem marked_zero (l : List Int) : marked l 0 = l := by simp [marked, marks]
theorem marked_length (l : List Int) (x : Nat) (h : x ≤ l.length) : (marked l x).length = l.length := by simp [marked, marks_length]; omega
theorem marked_all (l : List Int) (x : Nat) (h : l.length ≤ x) (h2 : x ≤ l.length) : marked l x = marks l.length := by
  have e : x = l.length := by omega
  subst e
  simp [marked]
theorem marked_set (l : List Int) (x : Nat) (h : x < l.length) : (marked l x).set x (1 + (x : Int)) = marked l (x + 1) := by
  unfold marked
  rw [List.set_append_right _ _ (by rw [marks_length]; exact Nat.le_refl _), marks_length, Nat.sub_self, List.drop_eq_getElem_cons h, List.set_cons_zero, marks_succ, List.append_assoc]
  rfl
set_option maxHeartbeats 8000000 in
set_option maxRecDepth 100000 in
theorem markIntS_go (l0 : List Int) (w0 w : World) {v : Value} {ok : Nat → Prop} (hB : Below w0.heap.size w0 w) (ho : Kd.R (Kd.int .i64) 3 w w0.heap.size ok v l0) (hn : l0.length < 1073741824) :
    Calls Try.prog 22 #[v, .int .i64 1] w fun e w' => e = .returned (.int .i64 (1 + (l0.length : Int))) ∧ Kd.R (Kd.int .i64) 3 w' w0.heap.size ok v (marks l0.length) ∧ Below w0.heap.size w0 w' ∧ Kept w w' (fun k => some k = v.ownBlock) := by
  have HO0 := Aside0.mk ho
  have HK := Aside0.mk (Kept.refl w (fun k => some k = v.ownBlock))
  have HB := Aside0.mk hB
  have HN := Aside0.mk hn
  clear hB ho hn
  go_enter Try.func22, Try.ntmps22
  go_wp2
  go_loopg [1, 5] (l0.length) (fun kq v1 v5 w' => ∃ x : Nat, v1 = .int .i64 (1 + (x : Int)) ∧ v5 = .int .i64 (x : Int) ∧ Aside0 (x + kq = l0.length) ∧ Aside0 (Kd.R (Kd.int .i64) 3 w' w0.heap.size ok v (marked l0 x)) ∧ Aside0 (Kept w w' (fun k => some k = v.ownBlock)) ∧ Aside0 (Below w0.heap.size w0 w'))
  case atStart => exact ⟨0, rfl, rfl, ⟨by omega⟩, ⟨by rw [marked_zero]; exact HO0.out⟩, ⟨HK.out⟩, ⟨HB.out⟩⟩
  case round =>
    clear HO0 HK HB
    obtain ⟨x, rfl, rfl, HX, HO, HK, HB⟩ := hrel
    have hxk := HX.out
    have hml := marked_length l0 x (by omega)
    have HL := Aside0.mk hml
    have hN := HN.out
    by_cases c3 : x < l0.length
    · have HSX := Aside0.mk (marked_set l0 x c3)
      obtain ⟨Ao, co, eo⟩ := Kd.R_slice HO.out
      rw [hml] at eo
      have hlt : (x : Int) < ((marked l0 x).length : Int) := by rw [hml]; omega
      obtain ⟨g, cap, eg, gb, gl, cl, HG⟩ := Kd.R_form HO.out (by omega)
      rw [hml] at eg
      rw [eg] at eo
      cases eo
      subst eg
      have HO2 : Aside0 (Kd.R (Kd.int .i64) 3 wr w0.heap.size ok (.slice (some ⟨g, 0, none⟩) (marked l0 x).length co) (marked l0 x)) := ⟨by rw [hml]; exact HO.out⟩
      obtain ⟨hx0, hf0⟩ := Kd.R_celln 0 HO2.out (x : Int) (by omega) hlt
      have HP := Aside0.mk (Kd.R_putg HO2.out (x : Int) (1 + (x : Int)))
      rw [Int.toNat_natCast, HSX.out, HL.out] at HP
      simp only [Int.toNat_natCast] at hx0 hf0
      have GB := Aside0.mk gb
      have HXK := Aside0.mk hxk
      have c3i : (x : Int) < (l0.length : Int) := by omega
      clear hml hlt gb gl HG cl HL HSX hxk HX HO2
      go_wp2_with (first | ((with_reducible refine gate_store (t := 3) (p := 15) rfl ?_); refine store_event (t := 3) (p := 15) (v := ?vo_) (w1 := (wr.setCell ⟨g, x, none⟩ (.int .i64 (1 + (x : Int))))) ?hg ?ho ?hn ?hr ?_; (case ho => rfl); (case hg => rfl); (case hn => rfl); (case hr => first | (go_simp; done) | (go_simp; rfl)); intro w8 hw; have HG8 : Aside0 (wr.grownBy w8 (some g)) := ⟨by rw [hw]; exact HP.out.2⟩; have n0_ : Aside0 (Kd.R (Kd.int .i64) 3 w8 w0.heap.size ok (.slice (some ⟨g, 0, none⟩) l0.length co) (marked l0 (x + 1))) := ⟨by rw [hw]; exact HP.out.1⟩; have n1_ : Aside0 (Below w0.heap.size w0 w8) := ⟨by rw [hw]; exact below_set HB.out GB.out⟩; have n2_ := Aside0.mk (Kept.of_grown (S := (fun k_ => some k_ = (Value.slice (some ⟨g, 0, none⟩) l0.length co).ownBlock)) HG8.out (by repeat (first | (with_reducible first | exact HK.out | apply Kept.alloc | apply Kept.drewN | apply Kept.drew) | exact HK.out)) (fun k_ e_ => by rw [← e_]; simp [Value.ownBlock])); clear HO HB HK HP HG8 hw; have HO := n0_; have HB := n1_; have HK := n2_; clear n0_ n1_ n2_))
      cases gk with
      | zero => exact absurd HXK.out (by omega)
      | succ k1 =>
        go_roundg k1
        case measure => omega
        case rel => exact ⟨x + 1, int_eq (by omega), int_eq (by omega), ⟨by have := HXK.out; omega⟩, ⟨by ((with_reducible repeat (first | apply Kd.R_alloc | apply Kd.R_drewN | apply Kd.R_drew)); exact HO.out)⟩, ⟨by repeat (first | (with_reducible first | exact HK.out | apply Kept.alloc | apply Kept.drewN | apply Kept.drew) | exact HK.out)⟩, ⟨by repeat (first | (with_reducible first | exact HB.out | apply below_alloc | apply pw_below_drewN | apply below_drew1) | exact HB.out)⟩⟩
    · have HE := Aside0.mk (marked_all l0 x (by omega) (by omega))
      obtain ⟨Ao, co, eo⟩ := Kd.R_slice HO.out
      rw [hml] at eo
      subst eo
      rw [HE.out] at HO
      have hxe : (x : Int) = (l0.length : Int) := by omega
      have HXE := Aside0.mk hxe
      have c3i : ¬ (x : Int) < (l0.length : Int) := by omega
      clear hml hxe HL hxk HX
      go_wp2
      go_ret
      exact ⟨ret_i (by rw [HXE.out]), HO.out, HB.out, HK.out⟩
section
open Go.Proofs.Ytdjoegkoiapoaaa.PheldIntS
theorem heldIntS_l (n : Nat) (hn : n < 1073741824) : ∀ (m i : Nat), i + m = n →
    Ev (fun k => laws_heldIntS.l0 k (marks n) (1 + (i : Int)) (i : Int)) ((1 : Int) + n) := by
  intro m
  induction m with
  | zero =>
    intro i h
    refine Ev.step (fun k => laws_heldIntS.l0.eq_2 ..) ?_
    exact ev_neg (by rw [marks_length]; omega) (ev_now (by omega))
  | succ m ih =>
    intro i h
    refine Ev.step (fun k => laws_heldIntS.l0.eq_2 ..) ?_
    have hr : rd (marks n) (i : Int) = 1 + (i : Int) := by
      simp [rd, marks, List.getD_eq_getElem?_getD, List.getElem?_range (show i < n by omega)]
    refine ev_pos (by rw [marks_length]; omega) (ev_pos (by omega) (ev_pos hr ?_))
    rw [w64 (by omega) (by omega), w64 (by omega) (by omega)]
    have h2 := ih (i + 1) (by omega)
    have e2 : (1 : Int) + ((i + 1 : Nat) : Int) = 1 + (i : Int) + 1 := by omega
    have e3 : ((i + 1 : Nat) : Int) = (i : Int) + 1 := by omega
    rw [e2, e3] at h2
    exact h2
theorem heldIntS_ev (n : Nat) (hn : n < 1073741824) : Ev (fun k => laws_heldIntS.f k (marks n) 1) ((1 : Int) + n) := heldIntS_l n hn n 0 (by omega)
theorem heldIntS_go (A0 : Option Addr) (n c0 : Nat) (l0 : List Int) (m : Nat) (w : World) (hr0 : Kd.C (Kd.int .i64) w A0 n l0) (hc0 : n ≤ c0) (hm : l0 = marks m) (hn : m < 1073741824) :
    Calls Try.prog 23 #[.slice A0 n c0, .int .i64 1] w fun e w' => e = .returned (.int .i64 (1 + (m : Int))) ∧ Drawn0 w w' := by
  subst hm
  obtain rfl : (marks m).length = n := hr0.1
  obtain ⟨k, hk⟩ := (heldIntS_ev m hn).rounds
  exact laws_heldIntS.calls k A0 c0 (marks m) 1 _ w hr0 hc0 hk
end
end Go.Proofs.Ytdjoegkoiapoaaa.Own
