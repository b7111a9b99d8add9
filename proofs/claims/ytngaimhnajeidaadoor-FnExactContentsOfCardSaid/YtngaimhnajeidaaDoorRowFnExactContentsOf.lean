/- The law FnExactContentsOf holds for all titles, chapters and widths: program and reference tell the same lines. No condition but what the card lists. -/
import Derived.Test.YtngaimhnajeidaaDoorRows
import Derived.Test.YtngaimhnajeidaaDoorCards
import Derived.Test.YtngaimhnajeidaaDoorTie
import Derived.SevenTiedAt
import Derived.LaidMore
import Derived.Lay
import Derived.Stop.Joined
import Derived.Stop.LaidErr
import Derived.WalkKit
import Derived.ProofKit
import Derived.OpenShut
import Derived.ShutString
import Derived.ChangeOld
import Derived.Below
import Derived.SizedLaws
import Derived.HandedShaped
import Derived.Shelf.Vars
import Derived.SliceStrings
import Derived.Test.YtngaimhnajeidaaDoorPFnExactContentsOfx7
import Derived.Test.YtngaimhnajeidaaDoorPureFnExactContentsOf
namespace Go.Proofs.YtngaimhnajeidaaDoor.fnExactContentsOf
open Go.ChangeShapes Go.WideShapes Go.ChangeAt Go.RowKit
open Go.ChangeMaps (open_string shut_string)
open Go.Proofs.YtngaimhnajeidaaDoorW.PrintWords
set_option linter.unusedVariables false

theorem own : ownKnob Tryd.prog.godebug = none := by kernel_rfl
theorem laidOut : laidOutB Tryd.prog = true := by kernel_rfl
theorem maxlen_of_shape {W : World} (h : W.ShapedOpen Tryd.prog) : ∃ m, W.cell? ⟨3, 0, none⟩ = some (.int .i64 m) :=
  cell_of_shapedOpen_int (t := 3) (zero := #[.int .i64 0]) h (of_decide_eq_true (by kernel_rfl)) (by kernel_rfl) rfl (by kernel_rfl) (by kernel_rfl) (by kernel_rfl)
theorem powData : (Rows.laid_internal_strconv_uint64pow10 : DataW Unit) = Lib.tabData .u64 Lib.pow10Tab := by kernel_rfl
theorem pow_of_laid {W : World} (h0 : laidMetH Tryd.prog Rows.fnExactContentsOfRow.laid W) : Lib.TabIs Tryd.prog W "internal/strconv.uint64pow10" .u64 Lib.pow10Tab := by
  rw [MakeChecks.laidMetH_plain _ _ _ (by kernel_rfl)] at h0
  have h1 : laidMet Tryd.prog (("internal/strconv.uint64pow10", Rows.laid_internal_strconv_uint64pow10) :: _) W := ((h0.tail).tail)
  rw [powData] at h1
  exact Lib.tabIs_of_head (g := 2) (t := 109) (e := 78) (n := 20) (by kernel_rfl) (by kernel_rfl) (by kernel_rfl) (by kernel_rfl) (by kernel_rfl) (by kernel_rfl) h1
set_option maxRecDepth 100000 in
theorem lifted (os : Os) (started : os.Started) (H : Type) (enc : TypeId × Value → H) :
    ReturnsInHanded {} Tryd.checked os 6 .any (fun w args => (Rows.fnExactContentsOfSpec.pre enc Tryd.prog Tryd.f6 Rows.fnExactContentsOfRow.domain false w args ∧ laidMetH Tryd.prog Rows.fnExactContentsOfRow.laid w) ∧ sizedMet enc Tryd.prog Tryd.f6 (OpenSpec.ofChange Rows.fnExactContentsOfSpec) false w args) (Rows.fnExactContentsOfSpec.post enc Tryd.prog Tryd.f6 false true false false) := by
  refine returnsInHanded_of_calls own started (by kernel_rfl)
    (ChangeSpec.witness_shaped (enc := enc) (C := Tryd.checked) (os := os) (X := fun w _ => laidMetH Tryd.prog Rows.fnExactContentsOfRow.laid w) false (World.laidAll Tryd.prog os Rows.fnExactContentsOfRow.laid) #[.slice none 0 0, .slice none 0 0, .bool false, .int .i64 0] 8 (World.laidAll_os _ _ _)
      (World.shaped_of_ZipB (by kernel_rfl) (by kernel_rfl)) (by kernel_rfl) (by kernel_rfl) (by kernel_rfl)
      (by rw [MakeChecks.laidMetH_plain _ _ _ (by kernel_rfl)]; exact laidMet_laidAll _ (by kernel_rfl) (by kernel_rfl))) ?_
  intro w0 tape inp _ hsh _ hok hpre hholds
  obtain ⟨_, _, _, fn', hfn', _, _, _, _, hval0⟩ := hok
  obtain rfl : fn' = Tryd.f6 := Option.some.inj (hfn'.symm.trans Tryd.func6)
  obtain ⟨⟨⟨ds, gs, before, hw, hc⟩, hL0⟩, hz⟩ := hpre
  have hW := DataW.Whole.of_heap (w' := w0.forCall tape inp) (by rfl) hw
  have hL : laidMetH Tryd.prog Rows.fnExactContentsOfRow.laid (w0.forCall tape inp) := hL0.of_heap (by rfl)
  have hsz0 := hz.weights hw
  suffices hh : ∀ (W : World) (base : Nat) (args : Array Value), (∀ (j : Nat) t v, Tryd.f6.params[j]? = some t → args[j]? = some v → Value.okWide Tryd.prog W .any base t v) → DataW.Whole enc Tryd.prog Tryd.f6.params.toList Rows.fnExactContentsOfSpec.vars false W args.toList ds gs before → W.ShapedOpen Tryd.prog → laidMetH Tryd.prog Rows.fnExactContentsOfRow.laid W → Calls Tryd.prog 6 args W fun e W' => ∃ v, e = .returned v ∧ Rows.fnExactContentsOfSpec.post enc Tryd.prog Tryd.f6 false true false false W args v W' from
    (hh (w0.forCall tape inp) _ inp.args hval0 hW hsh hL).mono fun e W' ⟨v, he, hp⟩ => by subst he; exact ChangeSpec.post_blind hp
  clear hval0 hW hsh hL hw hc hL0 hz hholds hfn'
  intro W base args hval0 hW hsh hL
  have hsz : (DataW.weightsEach Tryd.prog (Tryd.f6.params.toList ++ Rows.fnExactContentsOfSpec.plain.varTypes Tryd.prog) (ds ++ gs)).all (· ≤ reachBytes) = true := hsz0
  have hval : ∀ (j : Nat) t v, Tryd.f6.params[j]? = some t → args[j]? = some v → Value.okWide Tryd.prog W .any base t v := hval0
  have hW' := hW
  obtain ⟨p, q, hA0, hV, rfl, hfz, hnd⟩ := hW
  have hA : DataW.TrodAll enc Tryd.prog W 0 (fun _ => true) true Tryd.f6.params.toList args.toList ds p := hA0
  rw [Tryd.params6] at hA hval hsz
  obtain ⟨v0, vs0, d0, ds0, p0, q0, hargs, rfl, rfl, h0, r0⟩ := trodAll_cons hA
  obtain ⟨v1, vs1, d1, ds1, p1, q1, rfl, rfl, rfl, h1, r1⟩ := trodAll_cons r0
  obtain ⟨v2, vs2, d2, ds2, p2, q2, rfl, rfl, rfl, h2, r2⟩ := trodAll_cons r1
  obtain ⟨v3, vs3, d3, ds3, p3, q3, rfl, rfl, rfl, h3, r3⟩ := trodAll_cons r2
  obtain ⟨rfl, rfl, rfl⟩ := trodAll_nil r3
  obtain rfl : args = #[v0, v1, v2, v3] := by cases args; simp_all
  obtain ⟨rfl, rfl⟩ := trodVars_none hV
  have k0 := h0
  have lt0 : ∀ x ∈ p0, x.block < W.heap.size := by obtain ⟨m, hm⟩ := k0; exact DataW.trod_lt m _ _ _ hm
  obtain ⟨a0, len0, cap0, rfl⟩ := okWide_slice Tryd.underlying34 (hval 0 34 v0 rfl rfl)
  obtain ⟨l0, rfl, hr0, hc0, hss0⟩ : ∃ l : List ByteArray, l.length = len0 ∧ Kd.C Kd.string W a0 l.length l ∧ len0 ≤ cap0 ∧ (∀ s ∈ l, s.size ≤ maxLen) := by
    obtain ⟨fuel, hf⟩ := h0
    rcases open_strings Tryd.underlying34 Tryd.underlying9 (by kernel_rfl) hf with ⟨hcs, _⟩ | ⟨x, l, c, zs, hcs, _, hl, hm, hz, _, hcell, hwz⟩
    · simp [Value.cells] at hcs
      obtain ⟨rfl, rfl, rfl⟩ := hcs
      exact ⟨[], rfl, ⟨rfl, by simp, fun h => by simp at h⟩, Nat.le_refl _, by simp⟩
    · simp [Value.cells] at hcs
      obtain ⟨rfl, rfl, rfl⟩ := hcs
      have hml : maxLen = 9223372036854775807 := by decide
      have hlz : len0 ≤ zs.length := by first | omega | (rw [hz]; split <;> omega)
      refine ⟨zs.take len0, by rw [List.length_take]; omega, ⟨rfl, by rw [List.length_take]; omega, fun _ => ⟨_, rfl, fun j p hj => ?_⟩⟩, hl, fun s hs => hwz s (List.mem_of_mem_take hs)⟩
      have hj2 : j < len0 := by have := (List.getElem?_eq_some_iff.1 hj).1; rw [List.length_take] at this; omega
      rw [List.getElem?_take, if_pos hj2] at hj
      refine ⟨[.string p], rfl, rfl, fun i u hu => ?_⟩
      have h0 := hcell j (by omega)
      rw [List.getD_eq_getElem?_getD, hj] at h0
      match i, hu with
      | 0, hu => simp at hu; subst hu; simpa [Kd.int, Kd.string, Kd.scalar] using h0
      | i + 1, hu => simp at hu
  have k1 := h1
  have lt1 : ∀ x ∈ p1, x.block < W.heap.size := by obtain ⟨m, hm⟩ := k1; exact DataW.trod_lt m _ _ _ hm
  obtain ⟨a1, len1, cap1, rfl⟩ := okWide_slice Tryd.underlying22 (hval 1 22 v1 rfl rfl)
  obtain ⟨l1, rfl, hr1, hc1⟩ : ∃ l : List Int, l.length = len1 ∧ Kd.C (Kd.int .i64) W a1 l.length l ∧ len1 ≤ cap1 := by
    obtain ⟨fuel, hf⟩ := h1
    rcases open_ints Tryd.underlying22 Tryd.underlying3 (by kernel_rfl) hf with ⟨hcs, _⟩ | ⟨x, l, c, zs, hcs, _, hl, hm, hz, _, hcell, hwz⟩
    · simp [Value.cells] at hcs
      obtain ⟨rfl, rfl, rfl⟩ := hcs
      exact ⟨[], rfl, ⟨rfl, by simp, fun h => by simp at h⟩, Nat.le_refl _⟩
    · simp [Value.cells] at hcs
      obtain ⟨rfl, rfl, rfl⟩ := hcs
      have hml : maxLen = 9223372036854775807 := by decide
      have hlz : len1 ≤ zs.length := by first | omega | (rw [hz]; split <;> omega)
      refine ⟨zs.take len1, by rw [List.length_take]; omega, ⟨rfl, by rw [List.length_take]; omega, fun _ => ⟨_, rfl, fun j p hj => ?_⟩⟩, hl⟩
      have hj2 : j < len1 := by have := (List.getElem?_eq_some_iff.1 hj).1; rw [List.length_take] at this; omega
      rw [List.getElem?_take, if_pos hj2] at hj
      refine ⟨[.int .i64 p], rfl, rfl, fun i u hu => ?_⟩
      have h0 := hcell j (by omega)
      rw [List.getD_eq_getElem?_getD, hj] at h0
      match i, hu with
      | 0, hu => simp at hu; subst hu; simpa [Kd.int, Kd.string, Kd.scalar] using h0
      | i + 1, hu => simp at hu
  have k2 := h2
  have lt2 : ∀ x ∈ p2, x.block < W.heap.size := by obtain ⟨m, hm⟩ := k2; exact DataW.trod_lt m _ _ _ hm
  obtain ⟨a2, rfl, rfl, rfl⟩ := open_bool Tryd.underlying4 (hval 2 4 v2 rfl rfl) h2
  have k3 := h3
  have lt3 : ∀ x ∈ p3, x.block < W.heap.size := by obtain ⟨m, hm⟩ := k3; exact DataW.trod_lt m _ _ _ hm
  obtain ⟨a3, rfl, rfl, rfl, w3⟩ := open_int Tryd.underlying3 (hval 3 3 v3 rfl rfl) h3
  have hT : TabB W := ⟨maxlen_of_shape hsh, pow_of_laid hL⟩
  clear hA0 hval0 hsz0 hsz
  refine (PFnExactContentsOf.laws_FnExactContentsOf.calls _ a0 cap0 l0 a1 cap1 l1 a2 a3 true W hr0 hc0 hr1 hc1 hT (Pure.FnExactContentsOf l0 l1 a2 a3 hr0.2.1 hss0 hr1.2.1).choose_spec).mono fun e W' ⟨he, bel⟩ => ?_
  subst he
  exact ⟨_, rfl, _, _, _, [], _, [], hW', trodAll_mk1 (shut_bool Tryd.underlying4 _), (trodAll_cons_mk (Below.trod laidOut (by kernel_rfl) (of_decide_eq_true (by kernel_rfl)) k0 bel lt0) (trodAll_cons_mk (Below.trod laidOut (by kernel_rfl) (of_decide_eq_true (by kernel_rfl)) k1 bel lt1) (trodAll_cons_mk (Below.trod laidOut (by kernel_rfl) (of_decide_eq_true (by kernel_rfl)) k2 bel lt2) (trodAll_cons_mk (Below.trod laidOut (by kernel_rfl) (of_decide_eq_true (by kernel_rfl)) k3 bel lt3) trodAll_mk0)))), rfl, bel.frame _, fun h => by cases h⟩

theorem over : Rows.fnExactContentsOfRow.holds Tryd.pinned (OpenSpec.ofChange Rows.fnExactContentsOfSpec) :=
  OpenClaim.holds_of_wide 6 Tryd.f6 rfl rfl rfl rfl rfl rfl rfl ⟨rfl, rfl, rfl, rfl, rfl⟩ rfl rfl rfl rfl rfl (by kernel_rfl) Tryd.func6 (by kernel_rfl)
    (of_decide_eq_true (by kernel_rfl)) (by unfold Func.isWrapper; first | (rw [if_pos (by decide +kernel)]; kernel_rfl) | (rw [if_neg (by decide +kernel)]; exact ⟨rfl, rfl⟩))
    (fun os started H enc _ => lifted os started H enc)

theorem proved : Rows.FnExactContentsOfCardSaid :=
  Claim7.holds_tied_plain_at .later [] [.data, .data, .data] true (true, "c27384df8f85cc8cad8f0f85e9856124ff4992304d34baa83181639b3c1c696e") true over (fun _ h => by cases h) (by kernel_rfl) (fun _ h => by cases h) fnExactContentsOf_row_tie rfl ⟨rfl, rfl⟩ (by kernel_rfl) rfl
    (fun f fn hf hfn => by
      obtain rfl : f = 6 := Option.some.inj ((show Tryd.prog.funcNamed "loop.example/g01394/laws.FnExactContentsOf" = some 6 by kernel_rfl).symm.trans hf) |>.symm
      obtain rfl : fn = Tryd.f6 := (Option.some.inj (Tryd.func6.symm.trans hfn)).symm
      exact ⟨by kernel_rfl, fun j t ht => by
        rw [Tryd.params6] at ht
        have hm : t ∈ [34, 22, 4, 3] := by simpa using Array.mem_of_getElem? ht
        have hall : ([34, 22, 4, 3].all fun u => !Tryd.prog.wantsStandIn u) = true := by kernel_rfl
        exact (show Tryd.prog.wantsStandIn t = false by simpa using List.all_eq_true.1 hall t hm)⟩)
    (by kernel_rfl)
end Go.Proofs.YtngaimhnajeidaaDoor.fnExactContentsOf
namespace Go.Proofs.YtngaimhnajeidaaDoor
/-- The row, under a short name, for the claim. -/
theorem fnExactContentsOf_holds : Rows.FnExactContentsOfCardSaid := fnExactContentsOf.proved
end Go.Proofs.YtngaimhnajeidaaDoor
