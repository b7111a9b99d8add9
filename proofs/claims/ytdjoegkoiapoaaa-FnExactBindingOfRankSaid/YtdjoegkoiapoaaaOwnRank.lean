import Derived.Test.YtdjoegkoiapoaaaOwnGood
import Derived.Test.YtdjoegkoiapoaaaPchoicesx1
import Derived.Test.YtdjoegkoiapoaaaPcountBindingsx1
namespace Go.Proofs.Ytdjoegkoiapoaaa.Own
open Go.RowKit Go.Proofs.YtdjoegkoiapoaaaW.PrintWords Go.Proofs.YtdjoegkoiapoaaaW.PrintLast Go.Proofs.YtdjoegkoiapoaaaW.PrintMore
attribute [local go_sem] max2_int min2_int max_two min_two max_three min_three max_four min_four
set_option linter.unusedVariables false
set_option linter.unusedSimpArgs false
/-- A number that can come next, pre being used. -/
def freeB (pre : List Int) (k : Int) : Bool := !(k == 0) && (!(pre.contains k) && !(pre.contains (-k)))
/-- How many of the m numbers from -n on can come next. -/
def cntN (n : Nat) (pre : List Int) : Nat → Int
  | 0 => 0
  | m + 1 => cntN n pre m + if freeB pre (-(n : Int) + m) = true then 1 else 0
theorem cntN_bd (n : Nat) (pre : List Int) : ∀ m, 0 ≤ cntN n pre m ∧ cntN n pre m ≤ m
  | 0 => by simp [cntN]
  | m + 1 => by
    have := cntN_bd n pre m
    rw [cntN]
    split <;> omega
/-- How many come before y. -/
def before (n : Nat) (pre : List Int) (y : Int) : Int := cntN n pre (y + n).toNat
def rankGo (n : Nat) : List Int → Int → List Int → Int
  | _, r, [] => r
  | pre, r, y :: ys => rankGo n (pre ++ [y]) (r * 2 * ((n : Int) - pre.length) + before n pre y) ys
def rankL (l : List Int) : Int := rankGo l.length [] 0 l
def rankM (l : List Int) : Int := if goodB l = true then rankL l else 0
set_option maxHeartbeats 8000000 in
set_option maxRecDepth 100000 in
theorem biRank_go (A0 : Option Addr) (n c0 : Nat) (l0 : List Int) (w : World) (hr0 : Kd.C (Kd.int .i64) w A0 n l0) (hc0 : n ≤ c0) (hg : goodP l0) :
    Calls Try.prog 49 #[.slice A0 n c0] w fun e w' => e = .returned (.int .i64 (rankL l0)) ∧ Drawn0 w w' := by
  obtain rfl : l0.length = n := hr0.1
  have HR0 := Aside0.mk hr0
  have HC0 := Aside0.mk hc0
  have HG := Aside0.mk hg
  have hl1 := hg.1
  have hl8 := hg.2.1
  clear hr0 hc0 hg
  go_enter Try.func49, Try.ntmps49
  go_wp2
  go_loopg [3, 10] (l0.length) (fun kq v3 v10 w' => ∃ x r : Int, v10 = .int .i64 x ∧ v3 = .int .i64 r ∧ Aside0 (0 ≤ x ∧ x + kq = l0.length ∧ 0 ≤ r ∧ r + 1 ≤ 17 ^ x.toNat ∧ rankGo l0.length (l0.take x.toNat) r (l0.drop x.toNat) = rankL l0) ∧ Drawn0 w w')
  case atStart => exact ⟨0, 0, rfl, rfl, ⟨by omega, by omega, by omega, by simp, by simp [rankL]⟩, (by repeat (first | exact Drawn0.refl _ | apply Drawn0.step))⟩
  case round =>
    obtain ⟨x, r, rfl, rfl, HX, ⟨m1, rfl⟩⟩ := hrel
    obtain ⟨hx0, hxk, hr0, hr1, hrk⟩ := HX.out
    clear HX
    rcases hdr : l0.drop x.toNat with _ | ⟨y, ys⟩
    · have hlen := drop_nil hx0 hdr
      have HE : Aside0 (r = rankL l0) := ⟨by rw [hdr] at hrk; exact hrk⟩
      clear hdr hxk hrk hr1
      go_wp2
      go_ret
      exact ⟨ret_i HE.out, (by repeat (first | exact Drawn0.refl _ | apply Drawn0.step))⟩
    · obtain ⟨h1, h2, h3, h4⟩ := drop_cons hx0 hdr
      obtain ⟨ad, rfl, hc⟩ := Kd.at_int HR0.out x hx0 h1
      rw [h2] at hc
      have hy := HG.out.2.2.1 y (List.mem_of_mem_drop (by rw [hdr]; exact List.mem_cons_self))
      have hy1 := hy.1
      have hy2 := hy.2.1
      have htl : (l0.take x.toNat).length = x.toNat := by rw [List.length_take]; omega
      have HRK : Aside0 (rankGo l0.length (l0.take (x + 1).toNat) (r * 2 * ((l0.length : Int) - x) + before l0.length (l0.take x.toNat) y) (l0.drop (x + 1).toNat) = rankL l0) := ⟨by
        rw [hdr, rankGo, htl, ← h4] at hrk
        rw [h3]
        have e : ((x.toNat : Nat) : Int) = x := by omega
        rw [e] at hrk
        exact hrk⟩
      have hpow : (17 : Int) ^ x.toNat ≤ 410338673 := by
        have h17 : (17 : Nat) ^ x.toNat ≤ 17 ^ 7 := Nat.pow_le_pow_right (by omega) (by omega)
        have : ((17 ^ x.toNat : Nat) : Int) ≤ ((17 ^ 7 : Nat) : Int) := Int.ofNat_le.2 h17
        simpa using this
      have hps : (17 : Int) ^ (x + 1).toNat = 17 ^ x.toNat * 17 := by
        have e : (x + 1).toNat = x.toNat + 1 := by omega
        rw [e, Int.pow_succ]
      have hbd := cntN_bd l0.length (l0.take x.toNat) (y + l0.length).toNat
      have hct := Aside0.mk (C_take HR0.out x.toNat (by omega))
      have hxc : x ≤ (c0 : Int) := by have := HC0.out; omega
      have HNX : Aside0 (0 ≤ r * 2 * ((l0.length : Int) - x) ∧ r * 2 * ((l0.length : Int) - x) ≤ 16 * r) := ⟨by
        refine ⟨Int.mul_nonneg (by omega) (by omega), ?_⟩
        have := Int.mul_le_mul_of_nonneg_left (show (l0.length : Int) - x ≤ 8 by omega) (show 0 ≤ r * 2 by omega)
        omega⟩
      have HPS := Aside0.mk hps
      have HR1 := Aside0.mk hr1
      have HXK := Aside0.mk hxk
      have HBD := Aside0.mk hbd
      have hrs : r ≤ 410338673 := by omega
      clear h2 h3 h4 hdr hxk hrk hr1 hpow hps hbd htl hy
      go_wp2
      obtain ⟨go, rfl⟩ : ∃ g : Nat, g = gk := ⟨gk, rfl⟩
      go_loopg [6, 7] ((y + l0.length).toNat) (fun kq v6 v7 w' => ∃ i : Nat, v7 = .int .i64 (-(l0.length : Int) + i) ∧ v6 = .int .i64 (cntN l0.length (l0.take x.toNat) i) ∧ Aside0 ((i : Int) + kq = y + l0.length) ∧ Drawn0 w w')
      case atStart => exact ⟨0, int_eq (by omega), rfl, ⟨by omega⟩, (by repeat (first | exact Drawn0.refl _ | apply Drawn0.step))⟩
      case round =>
        obtain ⟨i, rfl, rfl, HI, ⟨m2, rfl⟩⟩ := hrel
        have hik := HI.out
        have hcb := cntN_bd l0.length (l0.take x.toNat) i
        have hcb1 := hcb.1
        have hcb2 := hcb.2
        have HIK := Aside0.mk hik
        clear HI hcb
        by_cases hend : -(l0.length : Int) + i < y
        · by_cases d1 : -(l0.length : Int) + i = 0
          · have HFB : Aside0 (freeB (l0.take x.toNat) (-(l0.length : Int) + i) = false) := ⟨by unfold freeB; rw [beq_iff_eq.mpr d1]; rfl⟩
            have d1b : (-(l0.length : Int) + i == 0) = true := beq_iff_eq.mpr d1
            have d1c : (-(l0.length : Int) + i != 0) = false := bne_eq_false_iff_eq.mpr d1
            clear d1
            go_wp2
            cases gk with
            | zero => exact absurd HIK.out (by omega)
            | succ k2 =>
              go_roundg k2
              case measure => omega
              case rel => exact ⟨i + 1, int_eq (by omega), int_eq (by rw [cntN, HFB.out]; simp), ⟨by have := HIK.out; omega⟩, (by repeat (first | exact Drawn0.refl _ | apply Drawn0.step))⟩
          · have d1b : (-(l0.length : Int) + i == 0) = false := beq_eq_false_iff_ne.mpr d1
            have d1c : (-(l0.length : Int) + i != 0) = true := bne_iff_ne.mpr d1
            by_cases d2 : (l0.take x.toNat).contains (-(l0.length : Int) + i) = true
            · have HFB : Aside0 (freeB (l0.take x.toNat) (-(l0.length : Int) + i) = false) := ⟨by unfold freeB; rw [d2]; simp⟩
              have D2 := Aside0.mk d2
              clear d1 d2
              go_wp2_with (first | (go_at_call 53; (with_reducible refine (l1Has_go _ _ _ (l0.take x.toNat) (-(l0.length : Int) + i) true _ ?side1 ?side2 ?side3 D2.out).mono ?_); (case side1 => repeat (first | exact hct.out | (with_reducible refine Kd.C_alloc ?_ _) | (with_reducible refine Kd.C_drewN ?_ _) | (with_reducible refine Kd.C_drew ?_))); (case side2 => have := HC0.out; omega); (case side3 => omega); rintro e w' ⟨rfl, ⟨nd, rfl⟩⟩))
              cases gk with
              | zero => exact absurd HIK.out (by omega)
              | succ k2 =>
                go_roundg k2
                case measure => omega
                case rel => exact ⟨i + 1, int_eq (by omega), int_eq (by rw [cntN, HFB.out]; simp), ⟨by have := HIK.out; omega⟩, (by repeat (first | exact Drawn0.refl _ | apply Drawn0.step))⟩
            · have D2 := Aside0.mk (Bool.eq_false_iff.mpr d2)
              by_cases d3 : (l0.take x.toNat).contains (-(-(l0.length : Int) + i)) = true
              · have HFB : Aside0 (freeB (l0.take x.toNat) (-(l0.length : Int) + i) = false) := ⟨by unfold freeB; rw [d3]; simp⟩
                have D3 := Aside0.mk d3
                clear d1 d2 d3
                go_wp2_with (first | (go_at_call 53; (with_reducible refine (l1Has_go _ _ _ (l0.take x.toNat) (-(l0.length : Int) + i) false _ ?side1 ?side2 ?side3 D2.out).mono ?_); (case side1 => repeat (first | exact hct.out | (with_reducible refine Kd.C_alloc ?_ _) | (with_reducible refine Kd.C_drewN ?_ _) | (with_reducible refine Kd.C_drew ?_))); (case side2 => have := HC0.out; omega); (case side3 => omega); rintro e w' ⟨rfl, ⟨nd, rfl⟩⟩) | (go_at_call 53; (with_reducible refine (l1Has_go _ _ _ (l0.take x.toNat) (-(-(l0.length : Int) + i)) true _ ?side1 ?side2 ?side3 D3.out).mono ?_); (case side1 => repeat (first | exact hct.out | (with_reducible refine Kd.C_alloc ?_ _) | (with_reducible refine Kd.C_drewN ?_ _) | (with_reducible refine Kd.C_drew ?_))); (case side2 => have := HC0.out; omega); (case side3 => omega); rintro e w' ⟨rfl, ⟨nd, rfl⟩⟩))
                cases gk with
                | zero => exact absurd HIK.out (by omega)
                | succ k2 =>
                  go_roundg k2
                  case measure => omega
                  case rel => exact ⟨i + 1, int_eq (by omega), int_eq (by rw [cntN, HFB.out]; simp), ⟨by have := HIK.out; omega⟩, (by repeat (first | exact Drawn0.refl _ | apply Drawn0.step))⟩
              · have D3 := Aside0.mk (Bool.eq_false_iff.mpr d3)
                have HFB : Aside0 (freeB (l0.take x.toNat) (-(l0.length : Int) + i) = true) := ⟨by unfold freeB; rw [d1b, D2.out, D3.out]; rfl⟩
                clear d1 d2 d3
                go_wp2_with (first | (go_at_call 53; (with_reducible refine (l1Has_go _ _ _ (l0.take x.toNat) (-(l0.length : Int) + i) false _ ?side1 ?side2 ?side3 D2.out).mono ?_); (case side1 => repeat (first | exact hct.out | (with_reducible refine Kd.C_alloc ?_ _) | (with_reducible refine Kd.C_drewN ?_ _) | (with_reducible refine Kd.C_drew ?_))); (case side2 => have := HC0.out; omega); (case side3 => omega); rintro e w' ⟨rfl, ⟨nd, rfl⟩⟩) | (go_at_call 53; (with_reducible refine (l1Has_go _ _ _ (l0.take x.toNat) (-(-(l0.length : Int) + i)) false _ ?side1 ?side2 ?side3 D3.out).mono ?_); (case side1 => repeat (first | exact hct.out | (with_reducible refine Kd.C_alloc ?_ _) | (with_reducible refine Kd.C_drewN ?_ _) | (with_reducible refine Kd.C_drew ?_))); (case side2 => have := HC0.out; omega); (case side3 => omega); rintro e w' ⟨rfl, ⟨nd, rfl⟩⟩))
                cases gk with
                | zero => exact absurd HIK.out (by omega)
                | succ k2 =>
                  go_roundg k2
                  case measure => omega
                  case rel => exact ⟨i + 1, int_eq (by omega), int_eq (by rw [cntN, HFB.out]; simp), ⟨by have := HIK.out; omega⟩, (by repeat (first | exact Drawn0.refl _ | apply Drawn0.step))⟩
        · have hin : i = (y + l0.length).toNat := by omega
          have hnx1 := HNX.out.1
          have hnx2 := HNX.out.2
          have HEI := Aside0.mk hin
          have hbe : cntN l0.length (l0.take x.toNat) i = before l0.length (l0.take x.toNat) y := by unfold before; rw [← hin]
          have HBE := Aside0.mk hbe
          clear hin hbe
          go_wp2
          cases go with
          | zero => exact absurd HXK.out (by omega)
          | succ k1 =>
            go_roundg k1
            case measure => omega
            case rel => exact ⟨x + 1, r * 2 * ((l0.length : Int) - x) + before l0.length (l0.take x.toNat) y, rfl, int_eq (by rw [HBE.out]), ⟨by omega, by have := HXK.out; omega, by have := HNX.out; have := HBE.out; omega, by have := HNX.out; have := HBE.out; have := HBD.out; have := HPS.out; have := HR1.out; have := HEI.out; have := hcb2; omega, HRK.out⟩, (by repeat (first | exact Drawn0.refl _ | apply Drawn0.step))⟩

def cB : Nat → Int
  | 0 => 1
  | k + 1 => cB k * (2 * ((k : Int) + 1))
/-- The same at a whole number. -/
def cBi (a : Int) : Int := cB a.toNat
theorem cBi_def (a : Int) : cBi a = cB a.toNat := rfl
theorem cB_bd : ∀ m : Nat, m ≤ 8 → 1 ≤ cB m ∧ cB m ≤ 10321920 := by decide
/-- The tail of a good list: what stands there can come next. -/
theorem goodTail_free {pre ys : List Int} {y : Int} (h : goodTail pre (y :: ys) = true) : freeB pre y = true ∧ goodTail (pre ++ [y]) ys = true := by
  simp only [goodTail, Bool.and_eq_true, Bool.and_assoc] at h
  obtain ⟨h1, h2, h3, h4⟩ := h
  exact ⟨by unfold freeB; rw [h1, h2, h3]; rfl, h4⟩
theorem rank_step (r t b c : Int) : (r * 2 * t + b) * c = r * (c * (2 * t)) + b * c := by
  rw [Int.add_mul]
  congr 1
  rw [Int.mul_assoc r 2 t, Int.mul_assoc r (2 * t) c, Int.mul_comm (2 * t) c]
section
open Go.Proofs.Ytdjoegkoiapoaaa.Pchoices
namespace Ch
theorem Index_l (z : Int) (xs : List Int) (hn : xs.length < 4611686018427387904) : ∀ (ys : List Int) (i : Int), 0 ≤ i → xs.drop i.toNat = ys →
    Ev (fun k => slices_Index_int_int.l0 k xs z (xs.length : Int) i) (match ys.findIdx? (fun y => y == z) with | none => -1 | some j => i + j) := by
  intro ys
  induction ys with
  | nil =>
    intro i h0 h
    have := drop_nil h0 h
    refine Ev.step (fun k => slices_Index_int_int.l0.eq_2 ..) ?_
    exact ev_neg (by omega) (ev_now (by simp))
  | cons y ys ih =>
    intro i h0 h
    obtain ⟨h1, h2, h3, _⟩ := drop_cons h0 h
    refine Ev.step (fun k => slices_Index_int_int.l0.eq_2 ..) ?_
    refine ev_pos h1 (ev_pos h0 (ev_pos h1 ?_))
    rw [h2, w64 (by omega) (by omega)]
    by_cases hy : z = y
    · exact ev_pos hy (ev_now (by simp [List.findIdx?_cons, hy]))
    · refine ev_neg hy (ev_val (ih _ (by omega) h3) ?_)
      have : (y == z) = false := beq_eq_false_iff_ne.mpr (Ne.symm hy)
      rw [List.findIdx?_cons, this]
      cases ys.findIdx? (fun y => y == z) with
      | none => rfl
      | some j => simp; omega
theorem Index_ev (xs : List Int) (z : Int) (hn : xs.length < 4611686018427387904) : Ev (fun k => slices_Index_int_int.f k xs z) (idxOf z xs) := by
  refine ev_val (Index_l z xs hn xs 0 (by omega) rfl) ?_
  unfold idxOf
  cases xs.findIdx? (fun y => y == z) <;> simp
theorem Contains_ev (xs : List Int) (z : Int) (hn : xs.length < 4611686018427387904) : Ev (fun k => slices_Contains_int_int.f k xs z) (xs.contains z) := by
  unfold slices_Contains_int_int.f
  exact Ev.bind (Index_ev xs z hn) (ev_now (idxOf_nonneg z xs))
def freeTo (n : Nat) (pre : List Int) : Nat → List Int
  | 0 => []
  | m + 1 => freeTo n pre m ++ (if freeB pre (-(n : Int) + m) = true then [-(n : Int) + m] else [])
theorem freeTo_length (n : Nat) (pre : List Int) : ∀ m, ((freeTo n pre m).length : Int) = cntN n pre m
  | 0 => rfl
  | m + 1 => by
    have := freeTo_length n pre m
    rw [freeTo, cntN, List.length_append]
    split <;> simp <;> omega
theorem freeTo_mem (n : Nat) (pre : List Int) : ∀ (m : Nat) (z : Int), z ∈ freeTo n pre m → z < -(n : Int) + m
  | 0, z, h => by simp [freeTo] at h
  | m + 1, z, h => by
    rw [freeTo, List.mem_append] at h
    rcases h with h | h
    · have := freeTo_mem n pre m z h; omega
    · split at h
      · have : z = -(n : Int) + m := by simpa using h
        omega
      · simp at h
theorem freeTo_split (n : Nat) (pre : List Int) (j : Nat) (hf : freeB pre (-(n : Int) + j) = true) : ∀ m, j < m → ∃ rest, freeTo n pre m = freeTo n pre j ++ (-(n : Int) + j) :: rest := by
  intro m
  induction m with
  | zero => intro h; omega
  | succ m ih =>
    intro h
    by_cases e : j = m
    · subst e
      exact ⟨[], by rw [freeTo, if_pos hf]⟩
    · obtain ⟨rest, hr⟩ := ih (by omega)
      exact ⟨rest ++ (if freeB pre (-(n : Int) + m) = true then [-(n : Int) + m] else []), by rw [freeTo, hr]; simp⟩
theorem idx_before (n : Nat) (pre : List Int) (y : Int) (h1 : -(n : Int) ≤ y) (h2 : y ≤ n) (hf : freeB pre y = true) : idxOf y (freeTo n pre (2 * n + 1)) = before n pre y := by
  have ey : y = -(n : Int) + (y + n).toNat := by omega
  obtain ⟨rest, hr⟩ := freeTo_split n pre (y + n).toNat (by rw [← ey]; exact hf) (2 * n + 1) (by omega)
  rw [hr, ← ey]
  have hno : ∀ z ∈ freeTo n pre (y + n).toNat, (z == y) = false := fun z hz => by
    have := freeTo_mem n pre _ z hz
    exact beq_eq_false_iff_ne.mpr (by omega)
  have e : (freeTo n pre (y + n).toNat ++ y :: rest).findIdx? (fun z => z == y) = some (freeTo n pre (y + n).toNat).length := by
    rw [List.findIdx?_append, List.findIdx?_eq_none_iff.2 hno, List.findIdx?_cons]
    simp
  unfold idxOf before
  rw [e]
  exact freeTo_length n pre _
theorem choices_l (n : Nat) (hn : n ≤ 8) (pre : List Int) (hp : pre.length ≤ 1000) : ∀ (m i : Nat), i + m = 2 * n + 1 →
    Ev (fun k => impl_choices.l0 k (n : Int) pre (freeTo n pre i) (-(n : Int) + i)) (freeTo n pre (2 * n + 1)) := by
  intro m
  induction m with
  | zero =>
    intro i h
    refine Ev.step (fun k => impl_choices.l0.eq_2 ..) ?_
    have : i = 2 * n + 1 := by omega
    subst this
    exact ev_neg (by omega) (ev_now rfl)
  | succ m ih =>
    intro i h
    have hl := freeTo_length n pre i
    have hb := cntN_bd n pre i
    have h2 := ih (i + 1) (by omega)
    have e2 : -(n : Int) + ((i + 1 : Nat) : Int) = -(n : Int) + i + 1 := by omega
    rw [e2, freeTo] at h2
    refine Ev.step (fun k => impl_choices.l0.eq_2 ..) ?_
    rw [w64 (x := -(n : Int) + i + 1) (by omega) (by omega), w64 (x := -(-(n : Int) + i)) (by omega) (by omega)]
    refine ev_pos (by omega) ?_
    by_cases c0 : -(n : Int) + i = 0
    · rw [if_neg (by unfold freeB; rw [beq_iff_eq.mpr c0]; simp), List.append_nil] at h2
      exact ev_pos c0 h2
    · refine ev_neg c0 (Ev.bind (Contains_ev pre _ (by omega)) ?_)
      by_cases c1 : pre.contains (-(n : Int) + i) = true
      · rw [if_neg (by unfold freeB; rw [c1]; simp), List.append_nil] at h2
        exact ev_pos c1 h2
      · refine ev_neg c1 (Ev.bind (Contains_ev pre _ (by omega)) ?_)
        by_cases c2 : pre.contains (-(-(n : Int) + i)) = true
        · rw [if_neg (by unfold freeB; rw [c2]; simp), List.append_nil] at h2
          exact ev_pos c2 h2
        · rw [if_pos (by unfold freeB; rw [beq_eq_false_iff_ne.mpr c0, Bool.eq_false_iff.mpr c1, Bool.eq_false_iff.mpr c2]; rfl)] at h2
          exact ev_neg c2 (ev_pos (by omega) h2)
theorem choices_ev (n : Nat) (hn : n ≤ 8) (pre : List Int) (hp : pre.length ≤ 1000) : Ev (fun k => impl_choices.f k (n : Int) pre) (freeTo n pre (2 * n + 1)) := by
  unfold impl_choices.f
  rw [w64 (by omega) (by omega)]
  have h := choices_l n hn pre hp (2 * n + 1) 0 (by omega)
  simpa [freeTo] using h
end Ch
end
open Ch
section
open Go.Proofs.Ytdjoegkoiapoaaa.Pchoices
theorem choices_go (A1 : Option Addr) (n1 c1 : Nat) (pre : List Int) (n : Nat) (w : World) (hr1 : Kd.C (Kd.int .i64) w A1 n1 pre) (hc1 : n1 ≤ c1) (hn : n ≤ 8) (hp : n1 ≤ 1000) :
    Calls Try.prog 42 #[.int .i64 (n : Int), .slice A1 n1 c1] w fun e w' => ∃ v : Value, e = .returned v ∧ Kd.R (Kd.int .i64) 3 w' w.heap.size (fun _ => True) v (freeTo n pre (2 * n + 1)) ∧ Below w.heap.size w w' := by
  obtain rfl : pre.length = n1 := hr1.1
  obtain ⟨k, hk⟩ := (Ch.choices_ev n hn pre hp).rounds
  exact impl_choices.calls k (n : Int) A1 c1 pre _ w hr1 hc1 hk
theorem Index_go (A0 : Option Addr) (n c0 : Nat) (l0 : List Int) (z r : Int) (w : World) (hr0 : Kd.C (Kd.int .i64) w A0 n l0) (hc0 : n ≤ c0) (hn : n < 1073741824) (h : idxOf z l0 = r) :
    Calls Try.prog 50 #[.slice A0 n c0, .int .i64 z] w fun e w' => e = .returned (.int .i64 r) ∧ Drawn0 w w' := by
  obtain rfl : l0.length = n := hr0.1
  obtain ⟨k, hk⟩ := (Ch.Index_ev l0 z (by omega)).rounds
  exact slices_Index_int_int.calls k A0 c0 l0 z r w hr0 hc0 (by rw [hk, h])
end
section
open Go.Proofs.Ytdjoegkoiapoaaa.PcountBindings
theorem countBindings_go (a : Int) (h0 : 0 ≤ a) (h8 : a ≤ 8) (w : World) :
    Calls Try.prog 37 #[.int .i64 a] w fun e w' => e = .returned (.int .i64 (cBi a)) ∧ Drawn0 w w' := by
  have h : impl_countBindings.f 12 a = some (cBi a) := by
    rw [cBi_def]
    have h9 : ∀ m : Fin 9, impl_countBindings.f 12 ((m : Nat) : Int) = some (cB m) := by decide +kernel
    have h := h9 ⟨a.toNat, by omega⟩
    simp only at h
    rw [Int.toNat_of_nonneg h0] at h
    exact h
  exact impl_countBindings.calls 12 a (cBi a) w h
end
set_option maxHeartbeats 8000000 in
set_option maxRecDepth 100000 in
theorem specRank_go (A0 : Option Addr) (n c0 : Nat) (l0 : List Int) (w : World) (hr0 : Kd.C (Kd.int .i64) w A0 n l0) (hc0 : n ≤ c0) (hn : n < 1073741824) :
    Calls Try.prog 28 #[.slice A0 n c0] w fun e w' => e = .returned (.tuple #[.int .i64 (rankM l0), .bool (goodB l0)]) ∧ Drawn0 w w' := by
  have HR0 := Aside0.mk hr0
  have HC0 := Aside0.mk hc0
  have HN := Aside0.mk hn
  clear hr0 hc0 hn
  by_cases hg : goodB l0 = true
  · have HG := Aside0.mk hg
    have hM : Aside0 (rankM l0 = rankL l0) := ⟨by unfold rankM; rw [if_pos hg]⟩
    have HP : Aside0 (goodP l0) := ⟨of_decide_eq_true hg⟩
    clear hg
    rw [HG.out, hM.out]
    go_enter Try.func28, Try.ntmps28
    go_wp2_with (first | (go_at_call 38; (with_reducible refine (biGood_go _ _ _ l0 true _ ?side1 HC0.out ?side2 HG.out).mono ?_); (case side1 => repeat (first | exact HR0.out | (with_reducible refine Kd.C_alloc ?_ _) | (with_reducible refine Kd.C_drewN ?_ _) | (with_reducible refine Kd.C_drew ?_))); (case side2 => have := HN.out; omega); rintro e w' ⟨rfl, ⟨nd, rfl⟩⟩) | (go_at_call 49; (with_reducible refine (biRank_go _ _ _ l0 _ ?side1 HC0.out HP.out).mono ?_); (case side1 => repeat (first | exact HR0.out | (with_reducible refine Kd.C_alloc ?_ _) | (with_reducible refine Kd.C_drewN ?_ _) | (with_reducible refine Kd.C_drew ?_))); rintro e w' ⟨rfl, ⟨nd, rfl⟩⟩))
    go_ret2
    exact ⟨rfl, (by repeat (first | exact Drawn0.refl _ | apply Drawn0.step))⟩
  · have HG := Aside0.mk (Bool.eq_false_iff.mpr hg)
    have hM : Aside0 (rankM l0 = 0) := ⟨by unfold rankM; rw [if_neg hg]⟩
    clear hg
    rw [HG.out, hM.out]
    go_enter Try.func28, Try.ntmps28
    go_wp2_with (go_at_call 38; (with_reducible refine (biGood_go _ _ _ l0 false _ ?side1 HC0.out ?side2 HG.out).mono ?_); (case side1 => repeat (first | exact HR0.out | (with_reducible refine Kd.C_alloc ?_ _) | (with_reducible refine Kd.C_drewN ?_ _) | (with_reducible refine Kd.C_drew ?_))); (case side2 => have := HN.out; omega); rintro e w' ⟨rfl, ⟨nd, rfl⟩⟩)
    go_ret2
    exact ⟨rfl, (by repeat (first | exact Drawn0.refl _ | apply Drawn0.step))⟩
set_option maxHeartbeats 8000000 in
set_option maxRecDepth 100000 in
theorem implRank_go (A0 : Option Addr) (n c0 : Nat) (l0 : List Int) (w : World) (hr0 : Kd.C (Kd.int .i64) w A0 n l0) (hc0 : n ≤ c0) (hn : n < 1073741824) :
    Calls Try.prog 29 #[.slice A0 n c0] w fun e w' => e = .returned (.tuple #[.int .i64 (rankM l0), .bool (goodB l0)]) ∧ Below w.heap.size w w' := by
  obtain rfl : l0.length = n := hr0.1
  have HR0 := Aside0.mk hr0
  have HC0 := Aside0.mk hc0
  have HN := Aside0.mk hn
  have HB := Aside0.mk (Below.refl w.heap.size w)
  clear hr0 hc0 hn
  by_cases hg : goodB l0 = true
  · have HG := Aside0.mk hg
    have hM : Aside0 (rankM l0 = rankL l0) := ⟨by unfold rankM; rw [if_pos hg]⟩
    have hgp : goodP l0 := of_decide_eq_true hg
    have HP := Aside0.mk hgp
    have hl1 := hgp.1
    have hl8 := hgp.2.1
    have HT0 : Aside0 (goodTail [] l0 = true) := ⟨((good_spec l0).1 hgp).2.2⟩
    clear hg hgp
    rw [HG.out, hM.out]
    go_enter Try.func29, Try.ntmps29
    go_wp2_with (go_at_call 16; (with_reducible refine (implIsBinding_go _ _ _ l0 _ ?side1 HC0.out HN.out).mono ?_); (case side1 => repeat (first | exact HR0.out | (with_reducible refine Kd.C_alloc ?_ _) | (with_reducible refine Kd.C_drewN ?_ _) | (with_reducible refine Kd.C_drew ?_))); rintro e w1 ⟨rfl, hb⟩; rw [HG.out]; have HBq := Aside0.mk (below_step (by repeat (first | (with_reducible first | exact HB.out | apply below_alloc | apply pw_below_drewN | apply below_drew1) | exact HB.out)) hb); clear HB; have HB := HBq; clear HBq hb)
    go_loopg [4, 12] (l0.length) (fun kq v4 v12 w' => ∃ x r : Int, v12 = .int .i64 x ∧ v4 = .int .i64 (r * cB ((l0.length : Int) - x).toNat) ∧ Aside0 (0 ≤ x ∧ x + kq = l0.length ∧ 0 ≤ r ∧ r + 1 ≤ 17 ^ x.toNat ∧ rankGo l0.length (l0.take x.toNat) r (l0.drop x.toNat) = rankL l0 ∧ goodTail (l0.take x.toNat) (l0.drop x.toNat) = true) ∧ Aside0 (Below w.heap.size w w'))
    case atStart => exact ⟨0, 0, rfl, int_eq (by omega), ⟨by omega, by omega, by omega, by simp, by simp [rankL], by simpa using HT0.out⟩, ⟨(by repeat (first | (with_reducible first | exact HB.out | apply below_alloc | apply pw_below_drewN | apply below_drew1) | exact HB.out))⟩⟩
    case round =>
      clear HB HT0
      obtain ⟨x, r, rfl, rfl, HX, HB⟩ := hrel
      obtain ⟨hx0, hxk, hr0, hr1, hrk, hgt⟩ := HX.out
      clear HX
      rcases hdr : l0.drop x.toNat with _ | ⟨y, ys⟩
      · have hlen := drop_nil hx0 hdr
        have HE : Aside0 (r * cB ((l0.length : Int) - x).toNat = rankL l0) := ⟨by
          rw [hdr, rankGo] at hrk
          have e : ((l0.length : Int) - x).toNat = 0 := by omega
          rw [e, hrk]; simp [cB]⟩
        clear hdr hxk hrk hr1 hgt
        go_wp2
        go_ret2
        exact ⟨ret_ib HE.out rfl, (by repeat (first | (with_reducible first | exact HB.out | apply below_alloc | apply pw_below_drewN | apply below_drew1) | exact HB.out))⟩
      · obtain ⟨h1, h2, h3, h4⟩ := drop_cons hx0 hdr
        obtain ⟨ad, rfl, hc⟩ := Kd.at_int HR0.out x hx0 h1
        rw [h2] at hc
        replace hc := (HB.out.cell (World.block_lt_of_cell? w _ hc)).trans hc
        have hy := HP.out.2.2.1 y (List.mem_of_mem_drop (by rw [hdr]; exact List.mem_cons_self))
        have htl : (l0.take x.toNat).length = x.toNat := by rw [List.length_take]; omega
        rw [hdr] at hgt
        obtain ⟨hfr, hgt2⟩ := goodTail_free hgt
        have HIX := Aside0.mk (idx_before l0.length (l0.take x.toNat) y hy.1 hy.2.1 hfr)
        have HRK : Aside0 (rankGo l0.length (l0.take (x + 1).toNat) (r * 2 * ((l0.length : Int) - x) + before l0.length (l0.take x.toNat) y) (l0.drop (x + 1).toNat) = rankL l0) := ⟨by
          rw [hdr, rankGo, htl, ← h4] at hrk
          rw [h3]
          have e : ((x.toNat : Nat) : Int) = x := by omega
          rw [e] at hrk
          exact hrk⟩
        have HGT : Aside0 (goodTail (l0.take (x + 1).toNat) (l0.drop (x + 1).toNat) = true) := ⟨by rw [h3, h4]; exact hgt2⟩
        have hpow : (17 : Int) ^ x.toNat ≤ 410338673 := by
          have h17 : (17 : Nat) ^ x.toNat ≤ 17 ^ 7 := Nat.pow_le_pow_right (by omega) (by omega)
          have : ((17 ^ x.toNat : Nat) : Int) ≤ ((17 ^ 7 : Nat) : Int) := Int.ofNat_le.2 h17
          simpa using this
        have hps : (17 : Int) ^ (x + 1).toNat = 17 ^ x.toNat * 17 := by
          have e : (x + 1).toNat = x.toNat + 1 := by omega
          rw [e, Int.pow_succ]
        have hbd := cntN_bd l0.length (l0.take x.toNat) (y + l0.length).toNat
        have hbf1 : 0 ≤ before l0.length (l0.take x.toNat) y := hbd.1
        have hbf2 : before l0.length (l0.take x.toNat) y ≤ 16 := by have := hbd.2; unfold before; omega
        have hct := Aside0.mk (C_take HR0.out x.toNat (by omega))
        have hxc : x ≤ (c0 : Int) := by have := HC0.out; omega
        have HNX : Aside0 (0 ≤ r * 2 * ((l0.length : Int) - x) ∧ r * 2 * ((l0.length : Int) - x) ≤ 16 * r) := ⟨by
          refine ⟨Int.mul_nonneg (by omega) (by omega), ?_⟩
          have := Int.mul_le_mul_of_nonneg_left (show (l0.length : Int) - x ≤ 8 by omega) (show 0 ≤ r * 2 by omega)
          omega⟩
        have hrs : r ≤ 410338673 := by omega
        have hcb := cB_bd ((l0.length : Int) - x).toNat (by omega)
        have hcb2 : 1 ≤ cBi ((l0.length : Int) - x - 1) ∧ cBi ((l0.length : Int) - x - 1) ≤ 10321920 := (cB_bd ((l0.length : Int) - x - 1).toNat (by omega))
        have hp1 : 0 ≤ r * cB ((l0.length : Int) - x).toNat := Int.mul_nonneg hr0 (by omega)
        have hp2 : r * cB ((l0.length : Int) - x).toNat ≤ 410338673 * 10321920 := Int.mul_le_mul hrs hcb.2 (by omega) (by omega)
        have hq1 : 0 ≤ before l0.length (l0.take x.toNat) y * cBi ((l0.length : Int) - x - 1) := Int.mul_nonneg hbf1 (by omega)
        have hq2 : before l0.length (l0.take x.toNat) y * cBi ((l0.length : Int) - x - 1) ≤ 16 * 10321920 := Int.mul_le_mul hbf2 hcb2.2 (by omega) (by omega)
        have HST : Aside0 (r * cB ((l0.length : Int) - x).toNat + before l0.length (l0.take x.toNat) y * cBi ((l0.length : Int) - x - 1) = (r * 2 * ((l0.length : Int) - x) + before l0.length (l0.take x.toNat) y) * cB ((l0.length : Int) - (x + 1)).toNat) := ⟨by
          rw [rank_step, cBi_def]
          have e1 : ((l0.length : Int) - x).toNat = ((l0.length : Int) - x - 1).toNat + 1 := by omega
          have e2 : ((l0.length : Int) - (x + 1)).toNat = ((l0.length : Int) - x - 1).toNat := by omega
          have e3 : (((((l0.length : Int) - x - 1).toNat : Nat) : Int) + 1) = (l0.length : Int) - x := by omega
          rw [e1, e2, cB, e3]⟩
        have HCN : Aside0 ((l0.length : Int) - x - 1 = ((((l0.length : Int) - x - 1).toNat : Nat) : Int)) := ⟨by omega⟩
        have HFL : Aside0 ((freeTo l0.length (l0.take x.toNat) (2 * l0.length + 1)).length ≤ 1000) := ⟨by
          have h1 := freeTo_length l0.length (l0.take x.toNat) (2 * l0.length + 1)
          have h2 := cntN_bd l0.length (l0.take x.toNat) (2 * l0.length + 1)
          omega⟩
        have HPS := Aside0.mk hps
        have HR1 := Aside0.mk hr1
        have HXK := Aside0.mk hxk
        clear h2 h3 h4 hdr hxk hrk hr1 hpow hps hbd htl hy hfr hgt hgt2 hcb hcb2
        generalize hQ : r * cB ((l0.length : Int) - x).toNat = Q at hp1 hp2 HST ⊢
        clear hQ
        go_wp2_with (first | ((with_reducible refine gate_callee (f := 42) rfl ?_); refine goesL_ (some 23) rfl rfl Try.func42 (by kernel_rfl) rfl #[.int .i64 (l0.length : Int), .slice (some ad) x.toNat c0] rfl (by (try simp only [List.map_toArray, List.map_cons, List.map_nil]); first | done | rfl) ?_; (with_reducible refine (choices_go _ _ _ (l0.take x.toNat) l0.length _ ?side1 ?side2 ?side3 ?side4).mono ?_); (case side1 => repeat (first | exact (Kd.C_below hct.out (by repeat (first | (with_reducible first | exact HB.out | apply below_alloc | apply pw_below_drewN | apply below_drew1) | exact HB.out))) | (with_reducible refine Kd.C_alloc ?_ _) | (with_reducible refine Kd.C_drewN ?_ _) | (with_reducible refine Kd.C_drew ?_))); (case side2 => have := HC0.out; omega); (case side3 => omega); (case side4 => omega); rintro e w23 ⟨v23, rfl, ho, hb⟩; refine ⟨_, rfl, ?_⟩; have HO := Aside0.mk ho; have HBq := Aside0.mk (below_step (by repeat (first | (with_reducible first | exact HB.out | apply below_alloc | apply pw_below_drewN | apply below_drew1) | exact HB.out)) hb); clear HB; have HB := HBq; clear HBq hb ho; obtain ⟨A23, c23, e23⟩ := Kd.R_slice HO.out; subst e23) | (go_at_call 50; (with_reducible refine (Index_go _ _ _ (freeTo l0.length (l0.take x.toNat) (2 * l0.length + 1)) y _ _ ?side1 ?side2 ?side3 HIX.out).mono ?_); (case side1 => repeat (first | exact (R_C HO.out) | (with_reducible refine Kd.C_alloc ?_ _) | (with_reducible refine Kd.C_drewN ?_ _) | (with_reducible refine Kd.C_drew ?_))); (case side2 => exact (Kd.R_reads' HO.out).2.1); (case side3 => have := HFL.out; omega); rintro e w' ⟨rfl, ⟨nd, rfl⟩⟩) | (go_at_call 37; (with_reducible refine (countBindings_go _ ?side1 ?side2 _).mono ?_); (case side1 => omega); (case side2 => omega); rintro e w' ⟨rfl, ⟨nd, rfl⟩⟩))
        cases gk with
        | zero => exact absurd HXK.out (by omega)
        | succ k1 =>
          go_roundg k1
          case measure => omega
          case rel => exact ⟨x + 1, r * 2 * ((l0.length : Int) - x) + before l0.length (l0.take x.toNat) y, rfl, int_eq HST.out, ⟨by omega, by have := HXK.out; omega, by have := HNX.out; omega, by have := HNX.out; have := HPS.out; have := HR1.out; omega, HRK.out, HGT.out⟩, ⟨(by repeat (first | (with_reducible first | exact HB.out | apply below_alloc | apply pw_below_drewN | apply below_drew1) | exact HB.out))⟩⟩
  · have HG := Aside0.mk (Bool.eq_false_iff.mpr hg)
    have hM : Aside0 (rankM l0 = 0) := ⟨by unfold rankM; rw [if_neg hg]⟩
    clear hg
    rw [HG.out, hM.out]
    go_enter Try.func29, Try.ntmps29
    go_wp2_with (go_at_call 16; (with_reducible refine (implIsBinding_go _ _ _ l0 _ ?side1 HC0.out HN.out).mono ?_); (case side1 => repeat (first | exact HR0.out | (with_reducible refine Kd.C_alloc ?_ _) | (with_reducible refine Kd.C_drewN ?_ _) | (with_reducible refine Kd.C_drew ?_))); rintro e w1 ⟨rfl, hb⟩; rw [HG.out]; have HBq := Aside0.mk (below_step (by repeat (first | (with_reducible first | exact HB.out | apply below_alloc | apply pw_below_drewN | apply below_drew1) | exact HB.out)) hb); clear HB; have HB := HBq; clear HBq hb)
    go_ret2
    exact ⟨rfl, (by repeat (first | (with_reducible first | exact HB.out | apply below_alloc | apply pw_below_drewN | apply below_drew1) | exact HB.out))⟩
end Go.Proofs.Ytdjoegkoiapoaaa.Own
