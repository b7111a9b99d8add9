import Derived.Test.YtdjoegkoiapoaaaOwnGood
namespace Go.Proofs.Ytdjoegkoiapoaaa.Own
open Go.RowKit Go.Proofs.YtdjoegkoiapoaaaW.PrintWords Go.Proofs.YtdjoegkoiapoaaaW.PrintLast Go.Proofs.YtdjoegkoiapoaaaW.PrintMore
attribute [local go_sem] max2_int min2_int max_two min_two max_three min_three max_four min_four
set_option linter.unusedVariables false
set_option linter.unusedSimpArgs false
def turnedN (l : List Int) : Int := ((l.filter (fun n => decide (n < 0))).length : Int)
theorem turnedN_snoc (l : List Int) (y : Int) : turnedN (l ++ [y]) = turnedN l + if y < 0 then 1 else 0 := by
  unfold turnedN
  rw [List.filter_append]
  by_cases h : y < 0 <;> simp [h]
theorem turnedN_le (l : List Int) : 0 ≤ turnedN l ∧ turnedN l ≤ l.length := by
  unfold turnedN
  have := List.length_filter_le (fun n : Int => decide (n < 0)) l
  omega
def turnedM (l : List Int) : Int := if goodB l = true then turnedN l else 0
set_option maxHeartbeats 8000000 in
set_option maxRecDepth 100000 in
theorem specCountTurned_go (A0 : Option Addr) (n c0 : Nat) (l0 : List Int) (w : World) (hr0 : Kd.C (Kd.int .i64) w A0 n l0) (hc0 : n ≤ c0) (hn : n < 1073741824) :
    Calls Try.prog 18 #[.slice A0 n c0] w fun e w' => e = .returned (.tuple #[.int .i64 (turnedM l0), .bool (goodB l0)]) ∧ Drawn0 w w' := by
  obtain rfl : l0.length = n := hr0.1
  have HR0 := Aside0.mk hr0
  have HC0 := Aside0.mk hc0
  have HN := Aside0.mk hn
  clear hr0 hc0 hn
  by_cases hg : goodB l0 = true
  · have HG := Aside0.mk hg
    have hM : Aside0 (turnedM l0 = turnedN l0) := ⟨by unfold turnedM; rw [if_pos hg]⟩
    clear hg
    rw [HG.out, hM.out]
    go_enter Try.func18, Try.ntmps18
    go_wp2_with (go_at_call 38; (with_reducible refine (biGood_go _ _ _ l0 true _ ?side1 HC0.out ?side2 HG.out).mono ?_); (case side1 => repeat (first | exact HR0.out | (with_reducible refine Kd.C_alloc ?_ _) | (with_reducible refine Kd.C_drewN ?_ _) | (with_reducible refine Kd.C_drew ?_))); (case side2 => have := HN.out; omega); rintro e w' ⟨rfl, ⟨nd, rfl⟩⟩)
    go_loopg [4, 12] (l0.length) (fun kq v4 v12 w' => ∃ x : Int, v12 = .int .i64 x ∧ v4 = .int .i64 (turnedN (l0.take x.toNat)) ∧ Aside0 (0 ≤ x ∧ x + kq = l0.length) ∧ Drawn0 w w')
    case atStart => exact ⟨0, rfl, rfl, ⟨by omega, by omega⟩, (by repeat (first | exact Drawn0.refl _ | apply Drawn0.step))⟩
    case round =>
      obtain ⟨x, rfl, rfl, HX, ⟨m1, rfl⟩⟩ := hrel
      have hx0 := HX.out.1
      have hxk := HX.out.2
      have hN := HN.out
      have hT := turnedN_le (l0.take x.toNat)
      have hTl : (l0.take x.toNat).length ≤ l0.length := by rw [List.length_take]; omega
      obtain ⟨hT1, hT2⟩ := hT
      rcases hdr : l0.drop x.toNat with _ | ⟨y, ys⟩
      · have hlen := drop_nil hx0 hdr
        have HTK := Aside0.mk (List.take_of_length_le (l := l0) (i := x.toNat) (by omega))
        clear hdr hxk
        go_wp2
        go_ret2
        exact ⟨ret_ib (by rw [HTK.out]) rfl, (by repeat (first | exact Drawn0.refl _ | apply Drawn0.step))⟩
      · obtain ⟨h1, h2, h3, h4⟩ := drop_cons hx0 hdr
        obtain ⟨ad, rfl, hc⟩ := Kd.at_int HR0.out x hx0 h1
        rw [h2] at hc
        have HS := Aside0.mk (turnedN_snoc (l0.take x.toNat) y)
        rw [← h4] at HS
        have HXK := Aside0.mk hxk
        clear h2 h3 h4 hdr hxk
        by_cases d1 : y < 0
        all_goals
          go_wp2
          cases gk with
          | zero => exact absurd HXK.out (by omega)
          | succ k1 =>
            go_roundg k1
            case measure => omega
            case rel => exact ⟨x + 1, rfl, int_eq (by rw [HS.out]; split <;> omega), ⟨by omega, by have := HXK.out; omega⟩, (by repeat (first | exact Drawn0.refl _ | apply Drawn0.step))⟩
  · have HG := Aside0.mk (Bool.eq_false_iff.mpr hg)
    have hM : Aside0 (turnedM l0 = 0) := ⟨by unfold turnedM; rw [if_neg hg]⟩
    clear hg
    rw [HG.out, hM.out]
    go_enter Try.func18, Try.ntmps18
    go_wp2_with (go_at_call 38; (with_reducible refine (biGood_go _ _ _ l0 false _ ?side1 HC0.out ?side2 HG.out).mono ?_); (case side1 => repeat (first | exact HR0.out | (with_reducible refine Kd.C_alloc ?_ _) | (with_reducible refine Kd.C_drewN ?_ _) | (with_reducible refine Kd.C_drew ?_))); (case side2 => have := HN.out; omega); rintro e w' ⟨rfl, ⟨nd, rfl⟩⟩)
    go_ret2
    exact ⟨rfl, (by repeat (first | exact Drawn0.refl _ | apply Drawn0.step))⟩
set_option maxHeartbeats 8000000 in
set_option maxRecDepth 100000 in
theorem implCountTurned_go (A0 : Option Addr) (n c0 : Nat) (l0 : List Int) (w : World) (hr0 : Kd.C (Kd.int .i64) w A0 n l0) (hc0 : n ≤ c0) (hn : n < 1073741824) :
    Calls Try.prog 19 #[.slice A0 n c0] w fun e w' => e = .returned (.tuple #[.int .i64 (turnedM l0), .bool (goodB l0)]) ∧ Below w.heap.size w w' := by
  obtain rfl : l0.length = n := hr0.1
  have HR0 := Aside0.mk hr0
  have HC0 := Aside0.mk hc0
  have HN := Aside0.mk hn
  clear hr0 hc0 hn
  by_cases hg : goodB l0 = true
  · have HG := Aside0.mk hg
    have hM : Aside0 (turnedM l0 = turnedN l0) := ⟨by unfold turnedM; rw [if_pos hg]⟩
    clear hg
    rw [HG.out, hM.out]
    go_enter Try.func19, Try.ntmps19
    go_wp2_with (go_at_call 16; (with_reducible refine (implIsBinding_go _ _ _ l0 _ ?side1 HC0.out HN.out).mono ?_); (case side1 => repeat (first | exact HR0.out | (with_reducible refine Kd.C_alloc ?_ _) | (with_reducible refine Kd.C_drewN ?_ _) | (with_reducible refine Kd.C_drew ?_))); rintro e w1 ⟨rfl, hb⟩; rw [HG.out]; have HB := Aside0.mk hb; have HR1 := Aside0.mk (Kd.C_below HR0.out hb); clear hb)
    go_loopg [4, 12] (l0.length) (fun kq v4 v12 w' => ∃ x : Int, v12 = .int .i64 x ∧ v4 = .int .i64 (turnedN (l0.take x.toNat)) ∧ Aside0 (0 ≤ x ∧ x + kq = l0.length) ∧ Drawn0 w1 w')
    case atStart => exact ⟨0, rfl, rfl, ⟨by omega, by omega⟩, (by repeat (first | exact Drawn0.refl _ | apply Drawn0.step))⟩
    case round =>
      obtain ⟨x, rfl, rfl, HX, ⟨m1, rfl⟩⟩ := hrel
      have hx0 := HX.out.1
      have hxk := HX.out.2
      have hN := HN.out
      have hT := turnedN_le (l0.take x.toNat)
      have hTl : (l0.take x.toNat).length ≤ l0.length := by rw [List.length_take]; omega
      obtain ⟨hT1, hT2⟩ := hT
      rcases hdr : l0.drop x.toNat with _ | ⟨y, ys⟩
      · have hlen := drop_nil hx0 hdr
        have HTK := Aside0.mk (List.take_of_length_le (l := l0) (i := x.toNat) (by omega))
        clear hdr hxk
        go_wp2
        go_ret2
        exact ⟨ret_ib (by rw [HTK.out]) rfl, (by repeat (first | (with_reducible first | exact HB.out | apply below_alloc | apply pw_below_drewN | apply below_drew1) | exact HB.out))⟩
      · obtain ⟨h1, h2, h3, h4⟩ := drop_cons hx0 hdr
        obtain ⟨ad, rfl, hc⟩ := Kd.at_int HR1.out x hx0 h1
        rw [h2] at hc
        have HS := Aside0.mk (turnedN_snoc (l0.take x.toNat) y)
        rw [← h4] at HS
        have HXK := Aside0.mk hxk
        clear h2 h3 h4 hdr hxk
        by_cases d1 : y < 0
        all_goals
          go_wp2
          cases gk with
          | zero => exact absurd HXK.out (by omega)
          | succ k1 =>
            go_roundg k1
            case measure => omega
            case rel => exact ⟨x + 1, rfl, int_eq (by rw [HS.out]; split <;> omega), ⟨by omega, by have := HXK.out; omega⟩, (by repeat (first | exact Drawn0.refl _ | apply Drawn0.step))⟩
  · have HG := Aside0.mk (Bool.eq_false_iff.mpr hg)
    have hM : Aside0 (turnedM l0 = 0) := ⟨by unfold turnedM; rw [if_neg hg]⟩
    clear hg
    rw [HG.out, hM.out]
    go_enter Try.func19, Try.ntmps19
    go_wp2_with (go_at_call 16; (with_reducible refine (implIsBinding_go _ _ _ l0 _ ?side1 HC0.out HN.out).mono ?_); (case side1 => repeat (first | exact HR0.out | (with_reducible refine Kd.C_alloc ?_ _) | (with_reducible refine Kd.C_drewN ?_ _) | (with_reducible refine Kd.C_drew ?_))); rintro e w1 ⟨rfl, hb⟩; rw [HG.out]; have HB := Aside0.mk hb; have HR1 := Aside0.mk (Kd.C_below HR0.out hb); clear hb)
    go_ret2
    exact ⟨rfl, (by repeat (first | (with_reducible first | exact HB.out | apply below_alloc | apply pw_below_drewN | apply below_drew1) | exact HB.out))⟩
end Go.Proofs.Ytdjoegkoiapoaaa.Own
