import Derived.Test.YtdjoegkoiapoaaaOwnPages
import Derived.Deep.QuietTactic
import Derived.BigQuiet
namespace Go.Proofs.Ytdjoegkoiapoaaa.Own
open Go.RowKit Go.Proofs.YtdjoegkoiapoaaaW.PrintWords Go.Proofs.YtdjoegkoiapoaaaW.PrintLast Go.Proofs.YtdjoegkoiapoaaaW.PrintMore
attribute [local go_sem] max2_int min2_int max_two min_two max_three min_three max_four min_four
set_option linter.unusedVariables false
set_option linter.unusedSimpArgs false
/-- Where a leaf lies, and whether it is turned. -/
def placeGo (leaf : Int) : List Int → Int → Option (Int × Bool)
  | [], _ => none
  | y :: ys, i => if (y.natAbs : Int) = leaf then some (i, decide (y < 0)) else placeGo leaf ys (i + 1)
theorem placeGo_some (leaf : Int) : ∀ (l : List Int) (i : Int), (∃ y ∈ l, (y.natAbs : Int) = leaf) → ∃ p : Int × Bool, placeGo leaf l i = some p ∧ i ≤ p.1 ∧ p.1 < i + l.length ∧ (∃ y, l.getD (p.1 - i).toNat 0 = y ∧ p.2 = decide (y < 0))
  | [], i, h => by obtain ⟨y, hy, _⟩ := h; simp at hy
  | x :: xs, i, h => by
    by_cases c : (x.natAbs : Int) = leaf
    · exact ⟨(i, decide (x < 0)), by rw [placeGo, if_pos c], by simp only; omega, by simp only [List.length_cons]; omega, ⟨x, by simp, rfl⟩⟩
    · obtain ⟨y, hy, he⟩ := h
      have hy2 : y ∈ xs := by
        rcases List.mem_cons.1 hy with rfl | h
        · exact absurd he c
        · exact h
      obtain ⟨p, h1, h2, h3, z, h4, h5⟩ := placeGo_some leaf xs (i + 1) ⟨y, hy2, he⟩
      refine ⟨p, by rw [placeGo, if_neg c, h1], by omega, by rw [List.length_cons]; omega, ⟨z, ?_, h5⟩⟩
      rw [show (p.1 - i).toNat = (p.1 - (i + 1)).toNat + 1 from by omega, List.getD_cons_succ]
      exact h4
def placeB (l : List Int) (leaf : Int) : Bool := goodB l && decide (1 ≤ leaf ∧ leaf ≤ (l.length : Int))
def placeP (l : List Int) (leaf : Int) : Int × Bool := if placeB l leaf = true then (placeGo leaf l 0).getD (0, false) else (0, false)
theorem placeB_true {l : List Int} {leaf : Int} (h : placeB l leaf = true) : goodB l = true ∧ 1 ≤ leaf ∧ leaf ≤ (l.length : Int) := by simpa [placeB] using h
theorem place_ex {l : List Int} {leaf : Int} (h : placeB l leaf = true) : ∃ y ∈ l, (y.natAbs : Int) = leaf := by
  obtain ⟨h1, h2, h3⟩ := placeB_true h
  have hg : goodP l := of_decide_eq_true h1
  have hm := ((good_impl l).1 hg).2.2 (leaf - 1).toNat (by omega)
  obtain ⟨y, hy, he⟩ := List.mem_map.1 hm
  exact ⟨y, hy, by omega⟩
set_option maxHeartbeats 8000000 in
set_option maxRecDepth 100000 in
theorem l1Most_go (a b r : Int) (w : World) (h : (if a < b then b else a) = r) :
    Calls Try.prog 51 #[.int .i64 a, .int .i64 b] w fun e w' => e = .returned (.int .i64 r) ∧ Drawn0 w w' := by
  by_cases c : a < b
  · rw [if_pos c] at h
    subst h
    have hd : decide (b < a) = false := decide_eq_false (by omega)
    go_enter Try.func51, Try.ntmps51
    go_wp2
    go_ret
    exact ⟨rfl, (by repeat (first | exact Drawn0.refl _ | apply Drawn0.step))⟩
  · rw [if_neg c] at h
    subst h
    by_cases d : b < a
    · go_enter Try.func51, Try.ntmps51
      go_wp2
      go_ret
      exact ⟨rfl, (by repeat (first | exact Drawn0.refl _ | apply Drawn0.step))⟩
    · have e : a = b := by omega
      have E := Aside0.mk e
      clear e c
      go_enter Try.func51, Try.ntmps51
      go_wp2
      go_ret
      exact ⟨ret_i E.out.symm, (by repeat (first | exact Drawn0.refl _ | apply Drawn0.step))⟩
set_option maxHeartbeats 8000000 in
set_option maxRecDepth 100000 in
theorem l1Abs_go (a r : Int) (w : World) (h : (a.natAbs : Int) = r) (h1 : -1000 ≤ a) (h2 : a ≤ 1000) :
    Calls Try.prog 44 #[.int .i64 a] w fun e w' => e = .returned (.int .i64 r) ∧ Drawn0 w w' := by
  have HM : Aside0 ((if a < -a then -a else a) = r) := ⟨by split <;> omega⟩
  clear h
  go_enter Try.func44, Try.ntmps44
  go_wp2_with (first | (go_at_call 51; (with_reducible refine (l1Most_go a (-a) r _ HM.out).mono ?_); rintro e w' ⟨rfl, ⟨nd, rfl⟩⟩))
  go_ret
  exact ⟨rfl, (by repeat (first | exact Drawn0.refl _ | apply Drawn0.step))⟩
set_option maxHeartbeats 8000000 in
set_option maxRecDepth 100000 in
theorem leafOf_go (a r : Int) (w : World) (h : (a.natAbs : Int) = r) (h1 : -1000 ≤ a) (h2 : a ≤ 1000) :
    Calls Try.prog 39 #[.int .i64 a] w fun e w' => e = .returned (.int .i64 r) ∧ Drawn0 w w' := by
  by_cases c : a < 0
  · have HR : Aside0 (-a = r) := ⟨by omega⟩
    clear h
    go_enter Try.func39, Try.ntmps39
    go_wp2
    go_ret
    exact ⟨ret_i (by have := HR.out; omega), (by repeat (first | exact Drawn0.refl _ | apply Drawn0.step))⟩
  · have HR : Aside0 (a = r) := ⟨by omega⟩
    clear h
    go_enter Try.func39, Try.ntmps39
    go_wp2
    go_ret
    exact ⟨ret_i (by have := HR.out; omega), (by repeat (first | exact Drawn0.refl _ | apply Drawn0.step))⟩
set_option maxHeartbeats 8000000 in
set_option maxRecDepth 100000 in
theorem specPlace_go (A0 : Option Addr) (n c0 : Nat) (l0 : List Int) (leaf : Int) (w : World) (hr0 : Kd.C (Kd.int .i64) w A0 n l0) (hc0 : n ≤ c0) (hn : n < 1073741824) :
    Calls Try.prog 24 #[.slice A0 n c0, .int .i64 leaf] w fun e w' => e = .returned (.tuple #[.int .i64 (placeP l0 leaf).1, .bool (placeP l0 leaf).2, .bool (placeB l0 leaf)]) ∧ Drawn0 w w' := by
  obtain rfl : l0.length = n := hr0.1
  have HR0 := Aside0.mk hr0
  have HC0 := Aside0.mk hc0
  have HN := Aside0.mk hn
  clear hr0 hc0 hn
  by_cases hg : goodB l0 = true
  · have HG := Aside0.mk hg
    have HP : Aside0 (goodP l0) := ⟨of_decide_eq_true hg⟩
    by_cases h2 : 1 ≤ leaf ∧ leaf ≤ (l0.length : Int)
    · have H2 := Aside0.mk (decide_eq_true h2)
      have hb : placeB l0 leaf = true := by unfold placeB; rw [hg, decide_eq_true h2]; rfl
      obtain ⟨p, hp1, hp2, hp3, _⟩ := placeGo_some leaf l0 0 (place_ex hb)
      have hM : placeP l0 leaf = p := by unfold placeP; rw [if_pos hb, hp1]; rfl
      rw [hM, hb]
      have HP1 := Aside0.mk hp1
      clear hM hb hp1 hp2 hp3 h2 hg
      obtain ⟨pi, pt⟩ := p
      go_enter Try.func24, Try.ntmps24
      go_wp2_with (first | (go_at_call 38; (with_reducible refine (biGood_go _ _ _ l0 true _ ?side1 HC0.out ?side2 HG.out).mono ?_); (case side1 => repeat (first | exact HR0.out | (with_reducible refine Kd.C_alloc ?_ _) | (with_reducible refine Kd.C_drewN ?_ _) | (with_reducible refine Kd.C_drew ?_))); (case side2 => have := HN.out; omega); rintro e w' ⟨rfl, ⟨nd, rfl⟩⟩) | (go_at_call 43; (with_reducible refine (l1In_go _ _ _ true _ H2.out).mono ?_); rintro e w' ⟨rfl, ⟨nd, rfl⟩⟩))
      go_loopg [21] (l0.length) (fun kq v21 w' => ∃ x : Int, v21 = .int .i64 x ∧ Aside0 (0 ≤ x ∧ x + kq = l0.length ∧ placeGo leaf (l0.drop x.toNat) x = some (pi, pt)) ∧ Drawn0 w w')
      case atStart => exact ⟨0, rfl, ⟨by omega, by omega, HP1.out⟩, (by repeat (first | exact Drawn0.refl _ | apply Drawn0.step))⟩
      case round =>
        obtain ⟨x, rfl, HX, ⟨m1, rfl⟩⟩ := hrel
        have hx0 := HX.out.1
        have hxk := HX.out.2.1
        have hN := HN.out
        rcases hdr : l0.drop x.toNat with _ | ⟨y, ys⟩
        · have h := HX.out.2.2
          rw [hdr] at h; simp [placeGo] at h
        · obtain ⟨h1, h2, h3, h4⟩ := drop_cons hx0 hdr
          obtain ⟨ad, rfl, hc⟩ := Kd.at_int HR0.out x hx0 h1
          rw [h2] at hc
          have hy := HP.out.2.2.1 y (List.mem_of_mem_drop (by rw [hdr]; exact List.mem_cons_self))
          have hy8 := HP.out.2.1
          have HY1 : Aside0 (-1000 ≤ y) := ⟨by omega⟩
          have HY2 : Aside0 (y ≤ 1000) := ⟨by omega⟩
          obtain ⟨ya, hya⟩ : ∃ ya : Int, (y.natAbs : Int) = ya := ⟨_, rfl⟩
          have HYA := Aside0.mk hya
          have hh := HX.out.2.2
          rw [hdr, placeGo, hya] at hh
          have HXK := Aside0.mk hxk
          clear hdr h2 h4 hy hy8 hxk HX hya
          by_cases c : ya = leaf
          · rw [if_pos c] at hh
            have he : (ya == leaf) = true := beq_iff_eq.mpr c
            have HE : Aside0 (x = pi ∧ decide (y < 0) = pt) := ⟨by simpa using hh⟩
            clear hh c
            go_wp2_with (first | (go_at_call 44; (with_reducible refine (l1Abs_go y ya _ HYA.out HY1.out HY2.out).mono ?_); rintro e w' ⟨rfl, ⟨nd, rfl⟩⟩))
            go_ret3
            exact ⟨ret_ibb HE.out.1 HE.out.2 rfl, (by repeat (first | exact Drawn0.refl _ | apply Drawn0.step))⟩
          · rw [if_neg c] at hh
            have he : (ya == leaf) = false := beq_eq_false_iff_ne.mpr c
            have HE : Aside0 (placeGo leaf (l0.drop (x + 1).toNat) (x + 1) = some (pi, pt)) := ⟨by rw [h3]; exact hh⟩
            clear hh c h3
            go_wp2_with (first | (go_at_call 44; (with_reducible refine (l1Abs_go y ya _ HYA.out HY1.out HY2.out).mono ?_); rintro e w' ⟨rfl, ⟨nd, rfl⟩⟩))
            cases gk with
            | zero => exact absurd HXK.out (by omega)
            | succ k1 =>
              go_roundg k1
              case measure => omega
              case rel => exact ⟨x + 1, rfl, ⟨by omega, by have := HXK.out; omega, HE.out⟩, (by repeat (first | exact Drawn0.refl _ | apply Drawn0.step))⟩
    · have H2 := Aside0.mk (decide_eq_false h2)
      have hb : placeB l0 leaf = false := by unfold placeB; rw [decide_eq_false h2]; simp
      have hM : placeP l0 leaf = (0, false) := by unfold placeP; rw [hb]; rfl
      rw [hM, hb]
      clear hM hb h2 hg
      go_enter Try.func24, Try.ntmps24
      go_wp2_with (first | (go_at_call 38; (with_reducible refine (biGood_go _ _ _ l0 true _ ?side1 HC0.out ?side2 HG.out).mono ?_); (case side1 => repeat (first | exact HR0.out | (with_reducible refine Kd.C_alloc ?_ _) | (with_reducible refine Kd.C_drewN ?_ _) | (with_reducible refine Kd.C_drew ?_))); (case side2 => have := HN.out; omega); rintro e w' ⟨rfl, ⟨nd, rfl⟩⟩) | (go_at_call 43; (with_reducible refine (l1In_go _ _ _ false _ H2.out).mono ?_); rintro e w' ⟨rfl, ⟨nd, rfl⟩⟩))
      go_ret3
      exact ⟨rfl, (by repeat (first | exact Drawn0.refl _ | apply Drawn0.step))⟩
  · have HG := Aside0.mk (Bool.eq_false_iff.mpr hg)
    have hb : placeB l0 leaf = false := by unfold placeB; rw [HG.out]; rfl
    have hM : placeP l0 leaf = (0, false) := by unfold placeP; rw [hb]; rfl
    rw [hM, hb]
    clear hM hb hg
    go_enter Try.func24, Try.ntmps24
    go_wp2_with (first | (go_at_call 38; (with_reducible refine (biGood_go _ _ _ l0 false _ ?side1 HC0.out ?side2 HG.out).mono ?_); (case side1 => repeat (first | exact HR0.out | (with_reducible refine Kd.C_alloc ?_ _) | (with_reducible refine Kd.C_drewN ?_ _) | (with_reducible refine Kd.C_drew ?_))); (case side2 => have := HN.out; omega); rintro e w' ⟨rfl, ⟨nd, rfl⟩⟩))
    go_ret3
    exact ⟨rfl, (by repeat (first | exact Drawn0.refl _ | apply Drawn0.step))⟩
set_option maxHeartbeats 8000000 in
set_option maxRecDepth 100000 in
theorem clos_go (a leaf : Int) (r : Bool) (p : Addr) (w : World) (hc : w.cell? p = some (.int .i64 leaf)) (h : decide ((a.natAbs : Int) = leaf) = r) (h1 : -1000 ≤ a) (h2 : a ≤ 1000) :
    Calls Try.prog 46 #[.int .i64 a, .pointer (some p)] w fun e w' => e = .returned (.bool r) ∧ Drawn0 w w' := by
  obtain ⟨ya, hya⟩ : ∃ ya : Int, (a.natAbs : Int) = ya := ⟨_, rfl⟩
  have HYA := Aside0.mk hya
  have HA1 := Aside0.mk h1
  have HA2 := Aside0.mk h2
  rw [hya] at h
  have he : (ya == leaf) = r := by rw [← h]; by_cases c : ya = leaf <;> simp [c]
  clear hya h h1 h2
  go_enter Try.func46, Try.ntmps46
  go_wp2
  go_quiet (first | (go_at_call 39; (with_reducible refine (leafOf_go a ya _ HYA.out HA1.out HA2.out).mono ?_); rintro e w' ⟨rfl, ⟨nd, rfl⟩⟩; (first | exact ⟨rfl, _, World.drewN_drewN _ _ _⟩ | exact ⟨rfl, _, Eq.trans (World.drewN_drewN _ _ _) (congrArg (World.drewN _) (Nat.add_assoc _ _ _))⟩)))
  go_wp2
  go_ret
  exact ⟨rfl, (by repeat (first | exact Drawn0.refl _ | apply Drawn0.step))⟩
set_option maxHeartbeats 8000000 in
set_option maxRecDepth 100000 in
theorem indexFunc_go (A0 : Option Addr) (n c0 : Nat) (l0 : List Int) (leaf : Int) (p : Addr) (pi : Int) (pt : Bool) (w : World) (hr0 : Kd.C (Kd.int .i64) w A0 n l0) (hc0 : n ≤ c0) (hn : n < 1073741824) (hcp : w.cell? p = some (.int .i64 leaf)) (hb : ∀ y ∈ l0, -1000 ≤ y ∧ y ≤ 1000) (hp : placeGo leaf l0 0 = some (pi, pt)) :
    Calls Try.prog 45 #[.slice A0 n c0, .func (.func 46) #[] #[.pointer (some p)]] w fun e w' => e = .returned (.int .i64 pi) ∧ Drawn0 w w' := by
  obtain rfl : l0.length = n := hr0.1
  have HR0 := Aside0.mk hr0
  have HC0 := Aside0.mk hc0
  have HN := Aside0.mk hn
  have HP1 := Aside0.mk hp
  have HBD := Aside0.mk hb
  have HCP := Aside0.mk hcp
  clear hr0 hc0 hn hp hb hcp
  go_enter Try.func45, Try.ntmps45
  go_wp2
  go_loopg [8] (l0.length) (fun kq v8 w' => ∃ x : Int, v8 = .int .i64 x ∧ Aside0 (0 ≤ x ∧ x + kq = l0.length ∧ placeGo leaf (l0.drop x.toNat) x = some (pi, pt)) ∧ Drawn0 w w')
  case atStart => exact ⟨0, rfl, ⟨by omega, by omega, HP1.out⟩, (by repeat (first | exact Drawn0.refl _ | apply Drawn0.step))⟩
  case round =>
    obtain ⟨x, rfl, HX, ⟨m1, rfl⟩⟩ := hrel
    have hx0 := HX.out.1
    have hxk := HX.out.2.1
    have hN := HN.out
    rcases hdr : l0.drop x.toNat with _ | ⟨y, ys⟩
    · have h := HX.out.2.2
      rw [hdr] at h; simp [placeGo] at h
    · obtain ⟨h1, h2, h3, h4⟩ := drop_cons hx0 hdr
      obtain ⟨ad, rfl, hc⟩ := Kd.at_int HR0.out x hx0 h1
      rw [h2] at hc
      have hy := HBD.out y (List.mem_of_mem_drop (by rw [hdr]; exact List.mem_cons_self))
      have HY := Aside0.mk hy
      have hh := HX.out.2.2
      rw [hdr, placeGo] at hh
      have HXK := Aside0.mk hxk
      clear hdr h2 h4 hy hxk HX
      by_cases c : (y.natAbs : Int) = leaf
      · rw [if_pos c] at hh
        have HD := Aside0.mk (decide_eq_true c)
        have HE : Aside0 (x = pi) := ⟨by simp at hh; exact hh.1⟩
        clear hh c h3
        go_wp2_with (first | (go_at_call 46; (with_reducible refine (clos_go y leaf true p _ ?sc1 HD.out HY.out.1 HY.out.2).mono ?_); (case sc1 => exact HCP.out); rintro e w' ⟨rfl, ⟨nd, rfl⟩⟩))
        go_ret
        exact ⟨ret_i HE.out, (by repeat (first | exact Drawn0.refl _ | apply Drawn0.step))⟩
      · rw [if_neg c] at hh
        have HD := Aside0.mk (decide_eq_false c)
        have HE : Aside0 (placeGo leaf (l0.drop (x + 1).toNat) (x + 1) = some (pi, pt)) := ⟨by rw [h3]; exact hh⟩
        clear hh c h3
        go_wp2_with (first | (go_at_call 46; (with_reducible refine (clos_go y leaf false p _ ?sc1 HD.out HY.out.1 HY.out.2).mono ?_); (case sc1 => exact HCP.out); rintro e w' ⟨rfl, ⟨nd, rfl⟩⟩))
        cases gk with
        | zero => exact absurd HXK.out (by omega)
        | succ k1 =>
          go_roundg k1
          case measure => omega
          case rel => exact ⟨x + 1, rfl, ⟨by omega, by have := HXK.out; omega, HE.out⟩, (by repeat (first | exact Drawn0.refl _ | apply Drawn0.step))⟩
set_option maxHeartbeats 8000000 in
set_option maxRecDepth 100000 in
theorem implPlace_go (A0 : Option Addr) (n c0 : Nat) (l0 : List Int) (leaf : Int) (w : World) (hr0 : Kd.C (Kd.int .i64) w A0 n l0) (hc0 : n ≤ c0) (hn : n < 1073741824) :
    Calls Try.prog 25 #[.slice A0 n c0, .int .i64 leaf] w fun e w' => e = .returned (.tuple #[.int .i64 (placeP l0 leaf).1, .bool (placeP l0 leaf).2, .bool (placeB l0 leaf)]) ∧ Below w.heap.size w w' := by
  obtain rfl : l0.length = n := hr0.1
  have HR0 := Aside0.mk hr0
  have HC0 := Aside0.mk hc0
  have HN := Aside0.mk hn
  have HB := Aside0.mk (Below.refl w.heap.size w)
  have hcell := (show (w.alloc (.cells #[.int .i64 leaf] 3)).cell? ⟨w.heap.size, 0, none⟩ = some (.int .i64 leaf) from by go_simp)
  have hmf : ∀ (fn : Fn) (first cap : Array Value) (w : World), (Instr.makeFunc fn first cap).run Try.prog w = .ok (.func fn first cap) w := fun _ _ _ _ => rfl
  clear hr0 hc0 hn
  by_cases hg : goodB l0 = true
  · have HG := Aside0.mk hg
    have HP : Aside0 (goodP l0) := ⟨of_decide_eq_true hg⟩
    by_cases h2 : 1 ≤ leaf ∧ leaf ≤ (l0.length : Int)
    · have H2 := Aside0.mk (decide_eq_true h2)
      have hb : placeB l0 leaf = true := by unfold placeB; rw [hg, decide_eq_true h2]; rfl
      obtain ⟨p, hp1, hp2, hp3, y, hp4, hp5⟩ := placeGo_some leaf l0 0 (place_ex hb)
      have hM : placeP l0 leaf = p := by unfold placeP; rw [if_pos hb, hp1]; rfl
      rw [hM, hb]
      obtain ⟨pi, pt⟩ := p
      have HP1 := Aside0.mk hp1
      have hpi0 : 0 ≤ pi := hp2
      have hpi1 : pi < (l0.length : Int) := by have h : pi < 0 + (l0.length : Int) := hp3; omega
      have hy : rd l0 pi = y := by rw [← hp4]; unfold rd; have h0_ : ((pi, pt).1 - 0).toNat = pi.toNat := (by simp); rw [h0_]
      have HPT : Aside0 (decide (y < 0) = pt) := ⟨hp5.symm⟩
      have HBD : Aside0 (∀ y ∈ l0, -1000 ≤ y ∧ y ≤ 1000) := ⟨fun y hy => by have h := HP.out.2.2.1 y hy; have h8 := HP.out.2.1; omega⟩
      clear hM hb hp1 hp2 hp3 hp4 hp5 h2 hg
      go_enter Try.func25, Try.ntmps25
      go_wp2_with (first | (go_at_call 16; (with_reducible refine (implIsBinding_go _ _ _ l0 _ ?side1 HC0.out HN.out).mono ?_); (case side1 => repeat (first | exact HR0.out | (with_reducible refine Kd.C_alloc ?_ _) | (with_reducible refine Kd.C_drewN ?_ _) | (with_reducible refine Kd.C_drew ?_))); rintro e w1 ⟨rfl, hb⟩; rw [HG.out]; have HBq := Aside0.mk (below_step (by repeat (first | (with_reducible first | exact HB.out | apply below_alloc | apply pw_below_drewN | apply below_drew1) | exact HB.out)) hb); have HRq := Aside0.mk (Kd.C_below (Kd.C_alloc HR0.out _) hb); have hcellq := (hb.cell (World.block_lt_of_cell? _ _ hcell)).trans hcell; clear HB HR0 hcell; have HB := HBq; have HR0 := HRq; have hcell := hcellq; clear HBq HRq hb hcellq) | (go_at_call 36; (with_reducible refine (within_go _ _ _ true _ H2.out).mono ?_); rintro e w' ⟨rfl, ⟨nd, rfl⟩⟩) | (go_at_call 45; (with_reducible refine (indexFunc_go _ _ _ l0 leaf _ pi pt _ ?side3 HC0.out HN.out ?sc3 HBD.out HP1.out).mono ?_); (case side3 => repeat (first | exact HR0.out | (with_reducible refine Kd.C_alloc ?_ _) | (with_reducible refine Kd.C_drewN ?_ _) | (with_reducible refine Kd.C_drew ?_))); (case sc3 => exact hcell); rintro e w' ⟨rfl, ⟨nd, rfl⟩⟩))
      obtain ⟨ad, rfl, hc⟩ := Kd.at_int HR0.out pi hpi0 hpi1
      rw [hy] at hc
      go_quiet (fail)
      go_wp2
      go_ret3
      exact ⟨ret_ibb rfl HPT.out rfl, (by repeat (first | (with_reducible first | exact HB.out | apply below_alloc | apply pw_below_drewN | apply below_drew1) | exact HB.out))⟩
    · have H2 := Aside0.mk (decide_eq_false h2)
      have hb : placeB l0 leaf = false := by unfold placeB; rw [decide_eq_false h2]; simp
      have hM : placeP l0 leaf = (0, false) := by unfold placeP; rw [hb]; rfl
      rw [hM, hb]
      clear hM hb h2 hg
      go_enter Try.func25, Try.ntmps25
      go_wp2_with (first | (go_at_call 16; (with_reducible refine (implIsBinding_go _ _ _ l0 _ ?side1 HC0.out HN.out).mono ?_); (case side1 => repeat (first | exact HR0.out | (with_reducible refine Kd.C_alloc ?_ _) | (with_reducible refine Kd.C_drewN ?_ _) | (with_reducible refine Kd.C_drew ?_))); rintro e w1 ⟨rfl, hb⟩; rw [HG.out]; have HBq := Aside0.mk (below_step (by repeat (first | (with_reducible first | exact HB.out | apply below_alloc | apply pw_below_drewN | apply below_drew1) | exact HB.out)) hb); have HRq := Aside0.mk (Kd.C_below (Kd.C_alloc HR0.out _) hb); have hcellq := (hb.cell (World.block_lt_of_cell? _ _ hcell)).trans hcell; clear HB HR0 hcell; have HB := HBq; have HR0 := HRq; have hcell := hcellq; clear HBq HRq hb hcellq) | (go_at_call 36; (with_reducible refine (within_go _ _ _ false _ H2.out).mono ?_); rintro e w' ⟨rfl, ⟨nd, rfl⟩⟩))
      go_ret3
      exact ⟨rfl, (by repeat (first | (with_reducible first | exact HB.out | apply below_alloc | apply pw_below_drewN | apply below_drew1) | exact HB.out))⟩
  · have HG := Aside0.mk (Bool.eq_false_iff.mpr hg)
    have hb : placeB l0 leaf = false := by unfold placeB; rw [HG.out]; rfl
    have hM : placeP l0 leaf = (0, false) := by unfold placeP; rw [hb]; rfl
    rw [hM, hb]
    clear hM hb hg
    go_enter Try.func25, Try.ntmps25
    go_wp2_with (first | (go_at_call 16; (with_reducible refine (implIsBinding_go _ _ _ l0 _ ?side1 HC0.out HN.out).mono ?_); (case side1 => repeat (first | exact HR0.out | (with_reducible refine Kd.C_alloc ?_ _) | (with_reducible refine Kd.C_drewN ?_ _) | (with_reducible refine Kd.C_drew ?_))); rintro e w1 ⟨rfl, hb⟩; rw [HG.out]; have HBq := Aside0.mk (below_step (by repeat (first | (with_reducible first | exact HB.out | apply below_alloc | apply pw_below_drewN | apply below_drew1) | exact HB.out)) hb); clear HB; have HB := HBq; clear HBq hb))
    go_ret3
    exact ⟨rfl, (by repeat (first | (with_reducible first | exact HB.out | apply below_alloc | apply pw_below_drewN | apply below_drew1) | exact HB.out))⟩
end Go.Proofs.Ytdjoegkoiapoaaa.Own
