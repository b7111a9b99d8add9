/- The law FnLinesSet holds for every two byte slices: filled lines are the fewest and take all words, no lines have less than the least cost, lines that fit are counted, and texts are set in lines of their words. No condition but what the card lists. -/
import Derived.Test.YtpedlkhfeoeogaaDoorRows
import Derived.Test.YtpedlkhfeoeogaaDoorCards
import Derived.Test.YtpedlkhfeoeogaaDoorTie
import Derived.SevenTiedAt
import Derived.LaidMore
import Derived.Lay
import Derived.Stop.Joined
import Derived.Stop.LaidErr
import Derived.WalkKit
import Derived.ProofKit
import Derived.OpenShut
import Derived.ShutString
import Derived.ChangeOld
import Derived.Below
import Derived.SizedLaws
import Derived.HandedShaped
import Derived.Shelf.Vars
import Derived.Test.YtpedlkhfeoeogaaDoorPFnLinesSetx23
import Derived.Test.YtpedlkhfeoeogaaDoorPureFnLinesSet
namespace Go.Proofs.YtpedlkhfeoeogaaDoor.fnLinesSet
open Go.ChangeShapes Go.WideShapes Go.ChangeAt Go.RowKit
open Go.ChangeMaps (open_string shut_string)
open Go.Proofs.YtpedlkhfeoeogaaDoorW.PrintWords
set_option linter.unusedVariables false

theorem own : ownKnob Tryd.prog.godebug = none := by kernel_rfl
theorem laidOut : laidOutB Tryd.prog = true := by kernel_rfl
theorem maxlen_of_shape {W : World} (h : W.ShapedOpen Tryd.prog) : ∃ m, W.cell? ⟨1, 0, none⟩ = some (.int .i64 m) :=
  cell_of_shapedOpen_int (t := 3) (zero := #[.int .i64 0]) h (of_decide_eq_true (by kernel_rfl)) (by kernel_rfl) rfl (by kernel_rfl) (by kernel_rfl) (by kernel_rfl)
set_option maxRecDepth 100000 in
theorem lifted (os : Os) (started : os.Started) (H : Type) (enc : TypeId × Value → H) :
    ReturnsInHanded {} Tryd.checked os 4 .any (fun w args => (Rows.fnLinesSetSpec.pre enc Tryd.prog Tryd.f4 Rows.fnLinesSetRow.domain false w args ∧ laidMetH Tryd.prog Rows.fnLinesSetRow.laid w) ∧ sizedMet enc Tryd.prog Tryd.f4 (OpenSpec.ofChange Rows.fnLinesSetSpec) false w args) (Rows.fnLinesSetSpec.post enc Tryd.prog Tryd.f4 false true false false) := by
  refine returnsInHanded_of_calls own started (by kernel_rfl)
    (ChangeSpec.witness_shaped (enc := enc) (C := Tryd.checked) (os := os) (X := fun w _ => laidMetH Tryd.prog Rows.fnLinesSetRow.laid w) false (World.laidAll Tryd.prog os Rows.fnLinesSetRow.laid) #[.slice none 0 0, .slice none 0 0] 8 (World.laidAll_os _ _ _)
      (World.shaped_of_ZipB (by kernel_rfl) (by kernel_rfl)) (by kernel_rfl) (by kernel_rfl) (by kernel_rfl)
      (by rw [MakeChecks.laidMetH_plain _ _ _ (by kernel_rfl)]; exact laidMet_laidAll _ (by kernel_rfl) (by kernel_rfl))) ?_
  intro w0 tape inp _ hsh _ hok hpre hholds
  obtain ⟨_, _, _, fn', hfn', _, _, _, _, hval0⟩ := hok
  obtain rfl : fn' = Tryd.f4 := Option.some.inj (hfn'.symm.trans Tryd.func4)
  obtain ⟨⟨⟨ds, gs, before, hw, hc⟩, hL0⟩, hz⟩ := hpre
  have hW := DataW.Whole.of_heap (w' := w0.forCall tape inp) (by rfl) hw
  have hL : laidMetH Tryd.prog Rows.fnLinesSetRow.laid (w0.forCall tape inp) := hL0.of_heap (by rfl)
  have hsz0 := hz.weights hw
  suffices hh : ∀ (W : World) (base : Nat) (args : Array Value), (∀ (j : Nat) t v, Tryd.f4.params[j]? = some t → args[j]? = some v → Value.okWide Tryd.prog W .any base t v) → DataW.Whole enc Tryd.prog Tryd.f4.params.toList Rows.fnLinesSetSpec.vars false W args.toList ds gs before → W.ShapedOpen Tryd.prog → laidMetH Tryd.prog Rows.fnLinesSetRow.laid W → Calls Tryd.prog 4 args W fun e W' => ∃ v, e = .returned v ∧ Rows.fnLinesSetSpec.post enc Tryd.prog Tryd.f4 false true false false W args v W' from
    (hh (w0.forCall tape inp) _ inp.args hval0 hW hsh hL).mono fun e W' ⟨v, he, hp⟩ => by subst he; exact ChangeSpec.post_blind hp
  clear hval0 hW hsh hL hw hc hL0 hz hholds hfn'
  intro W base args hval0 hW hsh hL
  have hsz : (DataW.weightsEach Tryd.prog (Tryd.f4.params.toList ++ Rows.fnLinesSetSpec.plain.varTypes Tryd.prog) (ds ++ gs)).all (· ≤ reachBytes) = true := hsz0
  have hval : ∀ (j : Nat) t v, Tryd.f4.params[j]? = some t → args[j]? = some v → Value.okWide Tryd.prog W .any base t v := hval0
  have hW' := hW
  obtain ⟨p, q, hA0, hV, rfl, hfz, hnd⟩ := hW
  have hA : DataW.TrodAll enc Tryd.prog W 0 (fun _ => true) true Tryd.f4.params.toList args.toList ds p := hA0
  rw [Tryd.params4] at hA hval hsz
  obtain ⟨v0, vs0, d0, ds0, p0, q0, hargs, rfl, rfl, h0, r0⟩ := trodAll_cons hA
  obtain ⟨v1, vs1, d1, ds1, p1, q1, rfl, rfl, rfl, h1, r1⟩ := trodAll_cons r0
  obtain ⟨rfl, rfl, rfl⟩ := trodAll_nil r1
  obtain rfl : args = #[v0, v1] := by cases args; simp_all
  obtain ⟨rfl, rfl⟩ := trodVars_none hV
  have k0 := h0
  have lt0 : ∀ x ∈ p0, x.block < W.heap.size := by obtain ⟨m, hm⟩ := k0; exact DataW.trod_lt m _ _ _ hm
  obtain ⟨a0, len0, cap0, rfl⟩ := okWide_slice Tryd.underlying22 (hval 0 22 v0 rfl rfl)
  obtain ⟨l0, rfl, hr0, hc0, hss0⟩ : ∃ l : List Int, l.length = len0 ∧ Kd.C (Kd.int .u8) W a0 l.length l ∧ len0 ≤ cap0 ∧ (∀ s ∈ l, (Lit.int .u8 s).wf = true) := by
    obtain ⟨fuel, hf⟩ := h0
    rcases open_ints Tryd.underlying22 Tryd.underlying5 (by kernel_rfl) hf with ⟨hcs, _⟩ | ⟨x, l, c, zs, hcs, _, hl, hm, hz, _, hcell, hwz⟩
    · simp [Value.cells] at hcs
      obtain ⟨rfl, rfl, rfl⟩ := hcs
      exact ⟨[], rfl, ⟨rfl, by simp, fun h => by simp at h⟩, Nat.le_refl _, by simp⟩
    · simp [Value.cells] at hcs
      obtain ⟨rfl, rfl, rfl⟩ := hcs
      have hml : maxLen = 9223372036854775807 := by decide
      have hlz : len0 ≤ zs.length := by first | omega | (rw [hz]; split <;> omega)
      refine ⟨zs.take len0, by rw [List.length_take]; omega, ⟨rfl, by rw [List.length_take]; omega, fun _ => ⟨_, rfl, fun j p hj => ?_⟩⟩, hl, fun s hs => hwz s (List.mem_of_mem_take hs)⟩
      have hj2 : j < len0 := by have := (List.getElem?_eq_some_iff.1 hj).1; rw [List.length_take] at this; omega
      rw [List.getElem?_take, if_pos hj2] at hj
      refine ⟨[.int .u8 p], rfl, rfl, fun i u hu => ?_⟩
      have h0 := hcell j (by omega)
      rw [List.getD_eq_getElem?_getD, hj] at h0
      match i, hu with
      | 0, hu => simp at hu; subst hu; simpa [Kd.int, Kd.string, Kd.scalar] using h0
      | i + 1, hu => simp at hu
  have k1 := h1
  have lt1 : ∀ x ∈ p1, x.block < W.heap.size := by obtain ⟨m, hm⟩ := k1; exact DataW.trod_lt m _ _ _ hm
  obtain ⟨a1, len1, cap1, rfl⟩ := okWide_slice Tryd.underlying22 (hval 1 22 v1 rfl rfl)
  obtain ⟨l1, rfl, hr1, hc1, hss1⟩ : ∃ l : List Int, l.length = len1 ∧ Kd.C (Kd.int .u8) W a1 l.length l ∧ len1 ≤ cap1 ∧ (∀ s ∈ l, (Lit.int .u8 s).wf = true) := by
    obtain ⟨fuel, hf⟩ := h1
    rcases open_ints Tryd.underlying22 Tryd.underlying5 (by kernel_rfl) hf with ⟨hcs, _⟩ | ⟨x, l, c, zs, hcs, _, hl, hm, hz, _, hcell, hwz⟩
    · simp [Value.cells] at hcs
      obtain ⟨rfl, rfl, rfl⟩ := hcs
      exact ⟨[], rfl, ⟨rfl, by simp, fun h => by simp at h⟩, Nat.le_refl _, by simp⟩
    · simp [Value.cells] at hcs
      obtain ⟨rfl, rfl, rfl⟩ := hcs
      have hml : maxLen = 9223372036854775807 := by decide
      have hlz : len1 ≤ zs.length := by first | omega | (rw [hz]; split <;> omega)
      refine ⟨zs.take len1, by rw [List.length_take]; omega, ⟨rfl, by rw [List.length_take]; omega, fun _ => ⟨_, rfl, fun j p hj => ?_⟩⟩, hl, fun s hs => hwz s (List.mem_of_mem_take hs)⟩
      have hj2 : j < len1 := by have := (List.getElem?_eq_some_iff.1 hj).1; rw [List.length_take] at this; omega
      rw [List.getElem?_take, if_pos hj2] at hj
      refine ⟨[.int .u8 p], rfl, rfl, fun i u hu => ?_⟩
      have h0 := hcell j (by omega)
      rw [List.getD_eq_getElem?_getD, hj] at h0
      match i, hu with
      | 0, hu => simp at hu; subst hu; simpa [Kd.int, Kd.string, Kd.scalar] using h0
      | i + 1, hu => simp at hu
  have hT : TabA W := ⟨maxlen_of_shape hsh⟩
  clear hA0 hval0 hsz0 hsz
  refine (PFnLinesSet.laws_FnLinesSet.calls _ a0 cap0 l0 a1 cap1 l1 true W hr0 hc0 hr1 hc1 hT ⟨rfl⟩ (Pure.FnLinesSet l0 l1 hr0.2.1 hss0 hr1.2.1 hss1).choose_spec).mono fun e W' ⟨he, bel⟩ => ?_
  subst he
  exact ⟨_, rfl, _, _, _, [], _, [], hW', trodAll_mk1 (shut_bool Tryd.underlying4 _), (trodAll_cons_mk (Below.trod laidOut (by kernel_rfl) (of_decide_eq_true (by kernel_rfl)) k0 bel lt0) (trodAll_cons_mk (Below.trod laidOut (by kernel_rfl) (of_decide_eq_true (by kernel_rfl)) k1 bel lt1) trodAll_mk0)), rfl, bel.frame _, fun h => by cases h⟩

theorem over : Rows.fnLinesSetRow.holds Tryd.pinned (OpenSpec.ofChange Rows.fnLinesSetSpec) :=
  OpenClaim.holds_of_wide 4 Tryd.f4 rfl rfl rfl rfl rfl rfl rfl ⟨rfl, rfl, rfl, rfl, rfl⟩ rfl rfl rfl rfl rfl (by kernel_rfl) Tryd.func4 (by kernel_rfl)
    (of_decide_eq_true (by kernel_rfl)) (by unfold Func.isWrapper; first | (rw [if_pos (by decide +kernel)]; kernel_rfl) | (rw [if_neg (by decide +kernel)]; exact ⟨rfl, rfl⟩))
    (fun os started H enc _ => lifted os started H enc)

theorem proved : Rows.FnLinesSetCardSaid :=
  Claim7.holds_tied_plain_at .later [] [.data, .pinned] true (true, "30b33b99686a306d08bfe6cb32857ece60d234d5618ef424f90db269c4bf757a") false over (fun _ h => by cases h) (by kernel_rfl) (fun _ h => by cases h) fnLinesSet_row_tie rfl ⟨rfl, rfl⟩ (by kernel_rfl) rfl
    (fun f fn hf hfn => by
      obtain rfl : f = 4 := Option.some.inj ((show Tryd.prog.funcNamed "loop.example/g01394/laws.FnLinesSet" = some 4 by kernel_rfl).symm.trans hf) |>.symm
      obtain rfl : fn = Tryd.f4 := (Option.some.inj (Tryd.func4.symm.trans hfn)).symm
      exact ⟨by kernel_rfl, fun j t ht => by
        rw [Tryd.params4] at ht
        have hm : t ∈ [22, 22] := by simpa using Array.mem_of_getElem? ht
        have hall : ([22, 22].all fun u => !Tryd.prog.wantsStandIn u) = true := by kernel_rfl
        exact (show Tryd.prog.wantsStandIn t = false by simpa using List.all_eq_true.1 hall t hm)⟩)
    (by kernel_rfl)
end Go.Proofs.YtpedlkhfeoeogaaDoor.fnLinesSet
namespace Go.Proofs.YtpedlkhfeoeogaaDoor
/-- The row, under a short name, for the claim. -/
theorem fnLinesSet_holds : Rows.FnLinesSetCardSaid := fnLinesSet.proved
end Go.Proofs.YtpedlkhfeoeogaaDoor
