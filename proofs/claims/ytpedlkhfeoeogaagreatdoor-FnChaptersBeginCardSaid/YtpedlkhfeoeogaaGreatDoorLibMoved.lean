/- impl.moved sets one number of a list at another place: its own walk over the library's contracts of slices.Clone, Delete and Insert. -/
import Derived.Test.YtpedlkhfeoeogaaGreatDoorShelf
import Derived.Test.YtpedlkhfeoeogaaGreatDoorLibCells
import Derived.Test.YtpedlkhfeoeogaaGreatDoorWWords
import Derived.Test.YtpedlkhfeoeogaaGreatDoorWLast
import Derived.Test.YtpedlkhfeoeogaaGreatDoorWMore
import Derived.Shelf.Spec.SlicesInsert
namespace Go.Proofs.YtpedlkhfeoeogaaGreatDoor
open Go Go.RowKit Go.Proofs.YtpedlkhfeoeogaaGreatDoorW.PrintWords Go.Proofs.YtpedlkhfeoeogaaGreatDoorW.PrintLast Go.Proofs.YtpedlkhfeoeogaaGreatDoorW.PrintMore
set_option linter.unusedVariables false
set_option linter.unusedSimpArgs false
def Tryz.laysI21_ren : Go.Shelf.Ren := ⟨fun | 21 => 65 | 27 => 72 | 28 => 73 | 35 => 81 | 39 => 93 | n => n, fun | 22 => 24 | n => n, fun | n => n⟩
theorem Tryz.laysI21 : Go.Proofs.Lays2.n21 Tryz.prog Tryz.laysI21_ren := {
  mixed := by kernel_rfl
  f21 := Tryz.func65.trans (congrArg some (by kernel_rfl))
  f27 := Tryz.func72.trans (congrArg some (by kernel_rfl))
  f28 := Tryz.func73.trans (congrArg some (by kernel_rfl))
  f35 := Tryz.func81.trans (congrArg some (by kernel_rfl))
  f39 := Tryz.func93.trans (congrArg some (by kernel_rfl))
  t0 := Tryz.underlying0
  a0 := Tryz.isAgg0
  z0 := Tryz.sizeOf0
  v0 := Tryz.zeroValue0
  t3 := Tryz.underlying3
  a3 := Tryz.isAgg3
  z3 := Tryz.sizeOf3
  v3 := Tryz.zeroValue3
  t4 := Tryz.underlying4
  a4 := Tryz.isAgg4
  z4 := Tryz.sizeOf4
  v4 := Tryz.zeroValue4
  t22 := Tryz.underlying24
  a22 := Tryz.isAgg24
  z22 := Tryz.sizeOf24
  v22 := Tryz.zeroValue24
  i3 := by kernel_rfl }
theorem C_one (W : World) (v : Int) : Kd.C (Kd.int .i64) (W.alloc (.cells #[.int .i64 v] 3)) (some ⟨W.heap.size, 0, none⟩) 1 [v] := by
  have hR : Kd.R (Kd.int .i64) 3 (W.alloc (.cells #[.int .i64 v] 3)) 0 (fun _ => True) (.slice (some ⟨W.heap.size, 0, none⟩) 1 1) [v] :=
    Kd.R_of_own (enc := Value.int .i64) (h1 := fun _ => rfl) ⟨rfl, .inr ⟨W.heap.size, 1, _, rfl, Nat.zero_le _, blk_new W _, Nat.le_refl _, by decide, rfl, rfl⟩⟩ (fun _ _ => trivial)
  exact (Kd.R_reads' hR).2.2
theorem info3own : (Tryz.prog.info? 3).map (fun i => (i.zero, i.size, i.bytes)) = some (some (.int .i64 0), 1, 8) := by kernel_rfl
theorem R_setCells {g n cap base : Nat} {ok : Nat → Prop} : ∀ (ys : List Int) (o : Nat) (xs : List Int) (W : World), Kd.R (Kd.int .i64) 3 W base ok (.slice (some ⟨g, 0, none⟩) n cap) xs → o + ys.length ≤ n →
    Kd.R (Kd.int .i64) 3 (W.setCells g o (ys.map (Value.int .i64))) base ok (.slice (some ⟨g, 0, none⟩) n cap) (xs.take o ++ ys ++ xs.drop (o + ys.length))
  | [], o, xs, W, h, _ => by
    rw [List.append_nil, List.length_nil, Nat.add_zero, List.take_append_drop]
    exact h
  | y :: ys, o, xs, W, h, hl => by
    have hn := (Kd.R_reads' h).1
    simp only [List.length_cons] at hl
    have h1 := (Kd.R_putg h (o : Int) y).1
    rw [Int.toNat_natCast] at h1
    have h2 := R_setCells ys (o + 1) (xs.set o y) _ h1 (by omega)
    have e1 : (xs.set o y).take (o + 1) = xs.take o ++ [y] := by
      rw [List.take_add_one, List.take_set_of_le (Nat.le_refl _), List.getElem?_set_self (by omega)]; rfl
    have e2 : (xs.set o y).drop (o + 1 + ys.length) = xs.drop (o + (y :: ys).length) := by
      rw [List.drop_set_of_lt (by omega), List.length_cons]; congr 1; omega
    rw [e1, e2, List.append_assoc (xs.take o)] at h2
    exact h2
theorem below_setCells {w : World} {g : Nat} (hg : w.heap.size ≤ g) : ∀ (vs : List Value) (o : Nat) (W : World), Below w.heap.size w W → Below w.heap.size w (W.setCells g o vs)
  | [], _, _, h => h
  | v :: vs, o, W, h => below_setCells hg vs (o + 1) _ (below_set h hg)
theorem C_setCells {g : Nat} {A : Option Addr} {n : Nat} {l : List Int} : ∀ (vs : List Value) (o : Nat) (W : World), Kd.C (Kd.int .i64) W A n l → (∀ a, A = some a → a.block < g) → Kd.C (Kd.int .i64) (W.setCells g o vs) A n l := by
  intro vs o W h hlt
  rcases Nat.eq_zero_or_pos n with hz | hp
  · exact ⟨h.1, h.2.1, fun hh => by omega⟩
  · obtain ⟨ad, rfl, hcell⟩ := h.2.2 hp
    have ha := hlt ad rfl
    refine ⟨h.1, h.2.1, fun _ => ⟨ad, rfl, fun j x hj => ?_⟩⟩
    obtain ⟨cs, e1, e2, e3⟩ := hcell j x hj
    refine ⟨cs, e1, e2, fun u v hu => ?_⟩
    rw [World.cell?_setCells_out g vs o W _ (fun hb _ => absurd hb (by rw [add_block]; omega))]
    exact e3 u v hu
theorem clone_own (A0 : Option Addr) (c0 : Nat) (l0 : List Int) (w : World) (hr0 : Kd.C (Kd.int .i64) w A0 l0.length l0) (hp : 0 < l0.length) (hn : l0.length ≤ 1048576) :
    Calls Tryz.prog 64 #[.slice A0 l0.length c0] w fun e w' => ∃ g cp, e = .returned (.slice (some ⟨g, 0, none⟩) l0.length cp) ∧ Kd.R (Kd.int .i64) 3 w' w.heap.size (fun _ => True) (.slice (some ⟨g, 0, none⟩) l0.length cp) l0 ∧ Below w.heap.size w w' := by
  obtain ⟨b, o, rfl, hc⟩ := scalar_cells_ hr0 hp
  refine (Tryz.slices_Clone_int b o l0.length c0 l0 w (Nat.le_refl _) (by omega) (fun j hj => by
    rw [List.getD_eq_getElem?_getD, List.getElem?_eq_getElem hj]
    exact hc j _ (List.getElem?_eq_getElem hj))).mono fun e w' ⟨v, he, ho, hne, hb⟩ => ?_
  rw [List.take_length] at ho
  have hR : Kd.R (Kd.int .i64) 3 w' w.heap.size (fun _ => True) v l0 := Kd.R_of_own (enc := Value.int .i64) (h1 := fun _ => rfl) ho (fun _ _ => trivial)
  obtain ⟨g, cp, rfl, _⟩ := Kd.R_form hR hp
  exact ⟨g, cp, he, hR, hb⟩
theorem delete_own (g cp : Nat) (a1 : Int) (l0 : List Int) (base : Nat) (w0 w : World) (hR : Kd.R (Kd.int .i64) 3 w base (fun _ => True) (.slice (some ⟨g, 0, none⟩) l0.length cp) l0) (h0 : 0 ≤ a1) (h1 : a1 < (l0.length : Int)) (hn : l0.length ≤ 1048576) (hg : w0.heap.size ≤ g) (hB : Below w0.heap.size w0 w) :
    Calls Tryz.prog 63 #[.slice (some ⟨g, 0, none⟩) l0.length cp, .int .i64 a1, .int .i64 (wrap64 (a1 + 1))] w fun e w' => e = .returned (.slice (some ⟨g, 0, none⟩) (l0.length - 1) cp) ∧
      Kd.R (Kd.int .i64) 3 w' base (fun _ => True) (.slice (some ⟨g, 0, none⟩) l0.length cp) (l0.take a1.toNat ++ l0.drop (a1.toNat + 1) ++ [0]) ∧ Below w0.heap.size w0 w' ∧
      ∀ (A : Option Addr) (n : Nat) (l : List Int), Kd.C (Kd.int .i64) w A n l → (∀ a, A = some a → a.block < g) → Kd.C (Kd.int .i64) w' A n l := by
  obtain ⟨i, rfl⟩ : ∃ i : Nat, a1 = i := ⟨a1.toNat, by omega⟩
  have hw : wrap64 ((i : Int) + 1) = ((i + 1 : Nat) : Int) := by unfold wrap64; omega
  have hcell := fun (j : Nat) (hj : j < l0.length) => Kd.R_celln 0 hR (j : Int) (by omega) (by omega)
  have hcap := (Kd.R_reads' hR).2.1
  have hmx : cp ≤ 9223372036854775807 := by
    obtain ⟨inner, ho⟩ := Kd.R_own hR
    obtain ⟨_, hh⟩ := ho
    rcases hh with ⟨he, _⟩ | ⟨g', cap', cur, he, _, _, _, hm, _⟩
    · cases he
    · injection he with _ _ e3
      rw [e3]; simpa [maxLen] using hm
  rw [hw]
  refine (Tryz.slices_Delete_int_cells g 0 l0.length cp i (i + 1) l0 w (Nat.le_refl _) hcap hmx (by omega) (by omega) (fun j hj => by
    have := (hcell j hj).1
    rw [Int.toNat_natCast] at this
    rw [Nat.zero_add]; exact this) (fun j hj => by
    have := (hcell j hj).2
    rw [Int.toNat_natCast] at this
    rw [Nat.zero_add]; exact this)).mono fun e w' ⟨he, q, hw'⟩ => ?_
  have e1 : i + 1 - i = 1 := by omega
  rw [e1] at he hw'
  rw [List.take_length] at hw'
  have hd : Kd.R (Kd.int .i64) 3 (w.drewN q) base (fun _ => True) (.slice (some ⟨g, 0, none⟩) l0.length cp) l0 := Kd.R_drewN hR q
  have hlen : (l0.take i ++ l0.drop (i + 1) ++ List.replicate 1 (0 : Int)).length = l0.length := by
    simp only [List.length_append, List.length_take, List.length_drop, List.length_replicate]; omega
  have hs := R_setCells (l0.take i ++ l0.drop (i + 1) ++ List.replicate 1 (0 : Int)) 0 l0 _ hd (by omega)
  rw [← hw', List.take_zero, List.nil_append, Nat.zero_add, hlen, List.drop_length, List.append_nil] at hs
  refine ⟨he, ?_, ?_, ?_⟩
  · exact hs
  · rw [hw']
    exact below_setCells hg _ _ _ (pw_below_drewN hB q)
  · intro A n l hC hA
    rw [hw']
    exact C_setCells _ _ _ (Kd.C_drewN hC q) hA
set_option maxHeartbeats 8000000 in
set_option maxRecDepth 100000 in
theorem insert_own (g n cp : Nat) (xs : List Int) (x : Int) (A : Option Addr) (c : Nat) (base : Nat) (w0 w : World) (hR : Kd.R (Kd.int .i64) 3 w base (fun _ => True) (.slice (some ⟨g, 0, none⟩) n cp) xs) (hC : Kd.C (Kd.int .i64) w A 1 [x]) (hn : n ≤ 1048576) (hbase : base ≤ w.heap.size) (hB : Below base w0 w) :
    Calls Tryz.prog 65 #[.slice (some ⟨g, 0, none⟩) n cp, .int .i64 (n : Int), .slice A 1 c] w fun e w' => ∃ v : Value, e = .returned v ∧ Kd.R (Kd.int .i64) 3 w' base (fun _ => True) v (xs ++ [x]) ∧ Below base w0 w' := by
  obtain rfl : n = xs.length := (Kd.R_reads' hR).1
  have HO := Aside0.mk hR
  have HC := Aside0.mk hC
  have LN := Aside0.mk hn
  have LB := Aside0.mk hbase
  have HB := Aside0.mk hB
  clear hR hC hn hbase hB
  obtain ⟨i0, hi0, _, hsz, _⟩ := info_parts info3own
  have hcut := cut_from (P := Tryz.prog) 24 3 .i64 Tryz.underlying24 hi0 1 hsz (some ⟨g, 0, none⟩) xs.length cp (xs.length : Int) (by omega) (Int.le_refl _)
  go_enter Tryz.func65, Tryz.ntmps65
  go_wp2_with (first | ((with_reducible refine gate_builtin (b := .append) (xs := #[.tmp 23, .tmp 24]) rfl ?_); at_builtin; refine Kd.R_append_row (Value.int .i64) (0 : Int) (h1 := fun _ => rfl) (w0 := w0) base rfl (.tmp 23) (.tmp 24) 24 3 (.int .i64 0) 8 rfl Tryz.underlying24 info3own rfl (by decide) (.slice (some ⟨g, 0, none⟩) xs.length cp) xs [x] A 1 c (fun _ => True) rfl rfl (fun _ _ => trivial) ?aO ?aC ?aB ?aS (by have := LN.out; omega) ?_; (case aO => exact (by (with_reducible repeat (first | apply Kd.R_alloc | apply Kd.R_drewN | apply Kd.R_drew)); exact HO.out)); (case aC => exact (by (with_reducible repeat (first | apply Kd.C_alloc | apply Kd.C_drewN | apply Kd.C_drew)); exact HC.out)); (case aB => exact (by repeat (first | (with_reducible first | exact HB.out | apply below_alloc | apply pw_below_drewN | apply below_drew1) | exact HB.out))); (case aS => exact LB.out); intro v1 w1 ho hb hg hat; have n0_ := Aside0.mk ho; have n1_ := Aside0.mk hb; clear HO HB; have HO := n0_; have HB := n1_; clear n0_ n1_ ho hb hg hat))
  all_goals (go_ret; exact ⟨_, rfl, HO.out, HB.out⟩)
theorem insert_at (g n cp i vb : Nat) (xs : List Int) (x z : Int) (base : Nat) (w0 w : World) (hR : Kd.R (Kd.int .i64) 3 w base (fun _ => True) (.slice (some ⟨g, 0, none⟩) (n + 1) cp) (xs ++ [z])) (hxs : xs.length = n) (hi : i < n) (hn : n ≤ 1048576)
    (hv : w.heap[vb]? = some (.cells #[.int .i64 x] 3 (0, 0))) (hne : vb ≠ g) (hg : w0.heap.size ≤ g) (hB : Below w0.heap.size w0 w) :
    Calls Tryz.prog 65 #[.slice (some ⟨g, 0, none⟩) n cp, .int .i64 (i : Int), .slice (some ⟨vb, 0, none⟩) 1 1] w fun e w' => e = .returned (.slice (some ⟨g, 0, none⟩) (n + 1) cp) ∧
      Kd.R (Kd.int .i64) 3 w' base (fun _ => True) (.slice (some ⟨g, 0, none⟩) (n + 1) cp) (xs.take i ++ [x] ++ xs.drop i) ∧ Below w0.heap.size w0 w' := by
  have hll : (xs ++ [z]).length = n + 1 := by simp [hxs]
  have hcell := fun (j : Nat) (hj : j < n + 1) => Kd.R_celln 0 hR (j : Int) (by omega) (by omega)
  obtain ⟨inner, ho⟩ := Kd.R_own hR
  obtain ⟨_, hh⟩ := ho
  obtain ⟨cur, hcur, hcap, hmx, hsz⟩ : ∃ cur, w.heap[g]? = some (.cells cur 3 (0, 0)) ∧ n + 1 ≤ cp ∧ cp ≤ 9223372036854775807 ∧ cur.size = cp := by
    rcases hh with ⟨he, _⟩ | ⟨g', cap', cur, he, _, h1, h2, h3, h4, _⟩
    · cases he
    · injection he with e1 e2 e3
      injection e1 with e1
      injection e1 with e1
      subst e1; subst e3
      exact ⟨cur, h1, by omega, by simpa [maxLen] using h3, by have e : (Kd.int .i64).sz = 1 := rfl; rw [e] at h4; omega⟩
  have hc1 : ∀ j, j < n + 1 → w.cell? ⟨g, 0 + j, none⟩ = some (.int .i64 ((xs ++ [z]).getD j 0)) := fun j hj => by
    have := (hcell j hj).1
    rw [Int.toNat_natCast] at this
    rw [Nat.zero_add]; exact this
  have hc2 : ∀ j, j < n + 1 → w.frozen? ⟨g, 0 + j, none⟩ = false := fun j hj => by
    have := (hcell j hj).2
    rw [Int.toNat_natCast] at this
    rw [Nat.zero_add]; exact this
  have hone : ∀ y : Int, (Value.int .i64 y).oneCell' = true := fun _ => rfl
  refine (Any2.slices_Insert_int_shift Tryz.laysI21 g 0 n cp i vb 0 1 1 (xs.map (Value.int .i64)) [.int .i64 x] w hi (by omega) hcap hmx hne (by simp [hxs]) rfl ?_ (fun j hj => by rw [hc1 j hj]; rfl) hc2 ?_ ?_ ?_ 3 3 1 cp ?_ ?_ (by omega) ?_ ?_).mono fun e w' ⟨he, hw'⟩ => ?_
  · intro j v hj
    rw [List.getElem?_map] at hj
    obtain ⟨y, hy, rfl⟩ := Option.map_eq_some_iff.1 hj
    have hjl := (List.getElem?_eq_some_iff.1 hy).1
    rw [hc1 j (by omega), List.getD_eq_getElem?_getD, List.getElem?_append_left hjl, hy]; rfl
  · intro j v hj
    match j, hj with
    | 0, hj =>
      simp at hj
      subst hj
      simp [World.cell?, hv]
    | j + 1, hj => simp at hj
  · intro v hv2
    obtain ⟨y, _, rfl⟩ := List.mem_map.1 hv2
    exact hone y
  · intro v hv2
    simp at hv2
    subst hv2
    exact hone x
  · simp [World.shape?, hv]
  · simp [World.shape?, hcur, hsz]
  · simp [World.frozen?, hv]
  · simp [World.frozen?, hv]
  have hd : Kd.R (Kd.int .i64) 3 w.drew base (fun _ => True) (.slice (some ⟨g, 0, none⟩) (n + 1) cp) (xs ++ [z]) := Kd.R_drew hR
  have h1 := R_setCells (xs.drop i) (i + 1) (xs ++ [z]) _ hd (by rw [List.length_drop]; omega)
  have e1 : (xs ++ [z]).take (i + 1) ++ xs.drop i ++ (xs ++ [z]).drop (i + 1 + (xs.drop i).length) = xs.take (i + 1) ++ xs.drop i := by
    rw [show (xs ++ [z]).drop (i + 1 + (xs.drop i).length) = [] from List.drop_eq_nil_of_le (by rw [hll, List.length_drop]; omega), List.append_nil, List.take_append_of_le_length (by omega)]
  rw [e1] at h1
  have h2 := R_setCells [x] i (xs.take (i + 1) ++ xs.drop i) _ h1 (by simp; omega)
  have e2 : (xs.take (i + 1) ++ xs.drop i).take i ++ [x] ++ (xs.take (i + 1) ++ xs.drop i).drop (i + [x].length) = xs.take i ++ [x] ++ xs.drop i := by
    have hl : (xs.take (i + 1)).length = i + 1 := by rw [List.length_take]; omega
    rw [List.take_append_of_le_length (by omega), List.take_take, Nat.min_eq_left (by omega), List.length_singleton, List.drop_left' hl]
  rw [e2] at h2
  refine ⟨he, ?_, ?_⟩
  · rw [hw', Nat.zero_add, Nat.zero_add, ← List.map_drop]; exact h2
  · rw [hw']
    exact below_setCells hg _ _ _ (below_setCells hg _ _ _ (below_drew hB))
theorem rest_R {w : World} {base g n cp : Nat} {ok : Nat → Prop} {xs : List Int} (h : Kd.R (Kd.int .i64) 3 w base ok (.slice (some ⟨g, 0, none⟩) n cp) (xs ++ [0])) (hl : xs.length = n - 1) : Kd.R (Kd.int .i64) 3 w base ok (.slice (some ⟨g, 0, none⟩) (n - 1) cp) xs := by
  have ht := Kd.R_take (m := n - 1) h (by rw [List.length_append]; omega)
  rw [List.take_left' hl] at ht
  exact ht
def impl_moved.f (l0 : List Int) (a1 a2 : Int) : Option (List Int) := if 0 ≤ a1 then (if a1 < (l0.length : Int) then (if 0 ≤ a2 then (if a2 < (l0.length : Int) then (if l0.length ≤ 1048576 then some ((l0.take a1.toNat ++ l0.drop (a1.toNat + 1)).take a2.toNat ++ [rd l0 a1] ++ (l0.take a1.toNat ++ l0.drop (a1.toNat + 1)).drop a2.toNat) else none) else none) else none) else none) else none
set_option maxHeartbeats 8000000 in
set_option maxRecDepth 100000 in
theorem impl_moved.calls (A0 : Option Addr) (c0 : Nat) (l0 : List Int) (a1 a2 : Int) (r : List Int) (w : World) (hr0 : Kd.C (Kd.int .i64) w A0 l0.length l0) (hc0 : l0.length ≤ c0) (h : impl_moved.f l0 a1 a2 = some r) :
    Calls Tryz.prog 46 #[.slice A0 l0.length c0, .int .i64 a1, .int .i64 a2] w fun e w' => ∃ v0_ : Value, e = .returned v0_ ∧ Kd.R (Kd.int .i64) 3 w' w.heap.size (fun _ => True) v0_ r ∧ Below w.heap.size w w' := by
  unfold impl_moved.f at h
  by_cases c1 : 0 ≤ a1
  · rw [if_pos c1] at h
    by_cases c2 : a1 < (l0.length : Int)
    · rw [if_pos c2] at h
      by_cases c3 : 0 ≤ a2
      · rw [if_pos c3] at h
        by_cases c5 : a2 < (l0.length : Int)
        · rw [if_pos c5] at h
          by_cases c4 : l0.length ≤ 1048576
          · rw [if_pos c4] at h
            injection h with h
            have HX := Aside0.mk h
            have LM := Aside0.mk c4
            have LP0 := Aside0.mk c1
            have LP1 := Aside0.mk c2
            have LP : Aside0 (0 < l0.length) := ⟨by omega⟩
            have LR : Aside0 ((l0.take a1.toNat ++ l0.drop (a1.toNat + 1)).length = l0.length - 1) := ⟨by rw [List.length_append, List.length_take, List.length_drop]; omega⟩
            have LL : Aside0 (l0.length - 1 + 1 = l0.length) := ⟨by omega⟩
            obtain ⟨b0, o0, eA, hcA⟩ := scalar_cells_ hr0 (by omega)
            subst eA
            have HLT : Aside0 (∀ a, (some ⟨b0, o0, none⟩ : Option Addr) = some a → a.block < w.heap.size) := ⟨fun a ha => by
              injection ha with ha
              rw [← ha]
              have := World.block_lt_of_cell? w _ (hcA 0 _ (List.getElem?_eq_getElem (by omega)))
              exact this⟩
            clear hcA
            have HR0 := Aside0.mk hr0
            have HC0 := Aside0.mk hc0
            have HB := Aside0.mk (Below.refl w.heap.size w)
            obtain ⟨i2, rfl⟩ : ∃ i2 : Nat, a2 = i2 := ⟨a2.toNat, by omega⟩
            by_cases ce : i2 = l0.length - 1
            · subst ce
              have HX2 := Aside0.mk (show l0.take a1.toNat ++ l0.drop (a1.toNat + 1) ++ [rd l0 a1] = r from by
                rw [← HX.out, Int.toNat_natCast, List.take_of_length_le (Nat.le_of_eq LR.out), List.drop_eq_nil_of_le (Nat.le_of_eq LR.out), List.append_nil])
              clear c3 c5
              clear h c4 hr0 hc0
              have q1 := eq_true c1
              have q2 := eq_true c2
              clear c1 c2
              go_enter Tryz.func46, Tryz.ntmps46
              go_wp2_with (first | ((with_reducible refine gate_callee (f := 64) rfl ?_); refine goesL_ (some 9) rfl rfl Tryz.func64 (by kernel_rfl) rfl #[.slice (some ⟨b0, o0, none⟩) l0.length c0] rfl (by (try simp only [List.map_toArray, List.map_cons, List.map_nil]); first | done | rfl) ?_; (with_reducible refine (clone_own (some ⟨b0, o0, none⟩) c0 l0 _ ?s1 LP.out LM.out).mono ?_); (case s1 => exact (by (with_reducible repeat (first | apply Kd.C_alloc | apply Kd.C_drewN | apply Kd.C_drew)); exact HR0.out)); rintro e w4 ⟨g, cp, rfl, ho0, hb⟩; refine ⟨_, rfl, ?_⟩; have n0_ := Aside0.mk ho0; have n1_ := Aside0.mk (below_step (by repeat (first | (with_reducible first | exact HB.out | apply below_alloc | apply pw_below_drewN | apply below_drew1) | exact HB.out)) hb); have n2_ := Aside0.mk (Kd.C_below HR0.out hb); have n3_ := Aside0.mk (show w.heap.size ≤ g from Kd.R_base ho0 g rfl); clear HB HR0; have HO := n0_; have HB := n1_; have HR0 := n2_; have GE := n3_; clear n0_ n1_ n2_ n3_ ho0 hb) | ((with_reducible refine gate_callee (f := 63) rfl ?_); refine goesL_ (some 13) rfl rfl Tryz.func63 (by kernel_rfl) rfl #[.slice (some ⟨g, 0, none⟩) l0.length cp, .int .i64 a1, .int .i64 (wrap64 (a1 + 1))] rfl (by (try simp only [List.map_toArray, List.map_cons, List.map_nil]); first | done | rfl) ?_; (with_reducible refine (delete_own g cp a1 l0 w.heap.size w _ ?s1 LP0.out LP1.out LM.out GE.out ?s2).mono ?_); (case s1 => exact (by (with_reducible repeat (first | apply Kd.R_alloc | apply Kd.R_drewN | apply Kd.R_drew)); exact HO.out)); (case s2 => exact (by repeat (first | (with_reducible first | exact HB.out | apply below_alloc | apply pw_below_drewN | apply below_drew1) | exact HB.out))); rintro e w5 ⟨rfl, ho0, hb, hc⟩; refine ⟨_, rfl, ?_⟩; have n0_ := Aside0.mk ho0; have n1_ := Aside0.mk hb; have n2_ := Aside0.mk (hc _ _ _ HR0.out (fun a ha => Nat.lt_of_lt_of_le (HLT.out a ha) GE.out)); clear HB HR0 HO; have HO := n0_; have HB := n1_; have HR0 := n2_; clear n0_ n1_ n2_ ho0 hb hc; obtain ⟨ad, ead, hx_0⟩ := Kd.at_int HR0.out a1 LP0.out LP1.out; cases ead; rw [addr_none_] at hx_0) | ((with_reducible refine gate_callee (f := 65) rfl ?_); refine goesL_ (some 21) rfl rfl Tryz.func65 (by kernel_rfl) rfl #[.slice (some ⟨g, 0, none⟩) (l0.length - 1) cp, .int .i64 ((l0.length - 1 : Nat) : Int), .slice (some ⟨w5.heap.size, 0, none⟩) 1 1] rfl (by (try simp only [List.map_toArray, List.map_cons, List.map_nil]); first | done | rfl) ?_; (with_reducible refine (insert_own g (l0.length - 1) cp (l0.take a1.toNat ++ l0.drop (a1.toNat + 1)) (rd l0 a1) (some ⟨w5.heap.size, 0, none⟩) 1 w.heap.size w _ ?s1 (C_one w5 (rd l0 a1)) (by have := LM.out; omega) ?s4 ?s5).mono ?_); (case s1 => exact (by (with_reducible repeat (first | apply Kd.R_alloc | apply Kd.R_drewN | apply Kd.R_drew)); exact rest_R HO.out LR.out)); (case s4 => exact (below_size (by repeat (first | (with_reducible first | exact HB.out | apply below_alloc | apply pw_below_drewN | apply below_drew1) | exact HB.out)))); (case s5 => exact (by repeat (first | (with_reducible first | exact HB.out | apply below_alloc | apply pw_below_drewN | apply below_drew1) | exact HB.out))); rintro e w6 ⟨v1, rfl, ho0, hb⟩; refine ⟨_, rfl, ?_⟩; have n0_ := Aside0.mk ho0; have n1_ := Aside0.mk hb; clear HO HB; have HO := n0_; have HB := n1_; clear n0_ n1_ ho0 hb))
              go_ret
              exact ⟨_, rfl, by rw [← HX2.out]; exact HO.out, HB.out⟩
            · have LI : Aside0 (i2 < l0.length - 1) := ⟨by omega⟩
              have HX2 := Aside0.mk (show (l0.take a1.toNat ++ l0.drop (a1.toNat + 1)).take i2 ++ [rd l0 a1] ++ (l0.take a1.toNat ++ l0.drop (a1.toNat + 1)).drop i2 = r from by rw [← HX.out, Int.toNat_natCast])
              have ne2 : ((i2 : Int) == ((l0.length - 1 : Nat) : Int)) = false := beq_eq_false_iff_ne.mpr (by omega)
              clear c3 c5 ce
              clear h c4 hr0 hc0
              have q1 := eq_true c1
              have q2 := eq_true c2
              clear c1 c2
              go_enter Tryz.func46, Tryz.ntmps46
              go_wp2_with (first | ((with_reducible refine gate_callee (f := 64) rfl ?_); refine goesL_ (some 9) rfl rfl Tryz.func64 (by kernel_rfl) rfl #[.slice (some ⟨b0, o0, none⟩) l0.length c0] rfl (by (try simp only [List.map_toArray, List.map_cons, List.map_nil]); first | done | rfl) ?_; (with_reducible refine (clone_own (some ⟨b0, o0, none⟩) c0 l0 _ ?s1 LP.out LM.out).mono ?_); (case s1 => exact (by (with_reducible repeat (first | apply Kd.C_alloc | apply Kd.C_drewN | apply Kd.C_drew)); exact HR0.out)); rintro e w4 ⟨g, cp, rfl, ho0, hb⟩; refine ⟨_, rfl, ?_⟩; have n0_ := Aside0.mk ho0; have n1_ := Aside0.mk (below_step (by repeat (first | (with_reducible first | exact HB.out | apply below_alloc | apply pw_below_drewN | apply below_drew1) | exact HB.out)) hb); have n2_ := Aside0.mk (Kd.C_below HR0.out hb); have n3_ := Aside0.mk (show w.heap.size ≤ g from Kd.R_base ho0 g rfl); clear HB HR0; have HO := n0_; have HB := n1_; have HR0 := n2_; have GE := n3_; clear n0_ n1_ n2_ n3_ ho0 hb) | ((with_reducible refine gate_callee (f := 63) rfl ?_); refine goesL_ (some 13) rfl rfl Tryz.func63 (by kernel_rfl) rfl #[.slice (some ⟨g, 0, none⟩) l0.length cp, .int .i64 a1, .int .i64 (wrap64 (a1 + 1))] rfl (by (try simp only [List.map_toArray, List.map_cons, List.map_nil]); first | done | rfl) ?_; (with_reducible refine (delete_own g cp a1 l0 w.heap.size w _ ?s1 LP0.out LP1.out LM.out GE.out ?s2).mono ?_); (case s1 => exact (by (with_reducible repeat (first | apply Kd.R_alloc | apply Kd.R_drewN | apply Kd.R_drew)); exact HO.out)); (case s2 => exact (by repeat (first | (with_reducible first | exact HB.out | apply below_alloc | apply pw_below_drewN | apply below_drew1) | exact HB.out))); rintro e w5 ⟨rfl, ho0, hb, hc⟩; refine ⟨_, rfl, ?_⟩; have n0_ := Aside0.mk ho0; have n1_ := Aside0.mk hb; have n2_ := Aside0.mk (hc _ _ _ HR0.out (fun a ha => Nat.lt_of_lt_of_le (HLT.out a ha) GE.out)); clear HB HR0 HO; have HO := n0_; have HB := n1_; have HR0 := n2_; clear n0_ n1_ n2_ ho0 hb hc; obtain ⟨ad, ead, hx_0⟩ := Kd.at_int HR0.out a1 LP0.out LP1.out; cases ead; rw [addr_none_] at hx_0) | ((with_reducible refine gate_callee (f := 65) rfl ?_); refine goesL_ (some 21) rfl rfl Tryz.func65 (by kernel_rfl) rfl #[.slice (some ⟨g, 0, none⟩) (l0.length - 1) cp, .int .i64 (i2 : Int), .slice (some ⟨w5.heap.size, 0, none⟩) 1 1] rfl (by (try simp only [List.map_toArray, List.map_cons, List.map_nil]); first | done | rfl) ?_; (with_reducible refine (insert_at g (l0.length - 1) cp i2 w5.heap.size (l0.take a1.toNat ++ l0.drop (a1.toNat + 1)) (rd l0 a1) 0 w.heap.size w _ ?s1 LR.out LI.out (by have := LM.out; omega) (blk_new w5 _) (fun he_ => by have h_ := Kd.R_lt HO.out g rfl; omega) GE.out ?s5).mono ?_); (case s1 => exact (by (with_reducible repeat (first | apply Kd.R_alloc | apply Kd.R_drewN | apply Kd.R_drew)); rw [LL.out]; exact HO.out)); (case s5 => exact (by repeat (first | (with_reducible first | exact HB.out | apply below_alloc | apply pw_below_drewN | apply below_drew1) | exact HB.out))); rintro e w6 ⟨rfl, ho0, hb⟩; refine ⟨_, rfl, ?_⟩; have n0_ := Aside0.mk ho0; have n1_ := Aside0.mk hb; clear HO HB; have HO := n0_; have HB := n1_; clear n0_ n1_ ho0 hb))
              go_ret
              exact ⟨_, rfl, by rw [← HX2.out]; exact HO.out, HB.out⟩
          · rw [if_neg c4] at h; cases h
        · rw [if_neg c5] at h; cases h
      · rw [if_neg c3] at h; cases h
    · rw [if_neg c2] at h; cases h
  · rw [if_neg c1] at h; cases h
end Go.Proofs.YtpedlkhfeoeogaaGreatDoor
