/- The law FnExactFirstFewestBlanks holds for every list of numbers: program and reference tell the same order. No condition. -/
import Derived.Test.YtngaimhnajeidaaRows
import Derived.WalkKit
import Derived.ProofKit
import Derived.OpenShut
import Derived.ShutString
import Derived.ChangeOld
import Derived.Below
import Derived.SizedLaws
import Derived.HandedShaped
import Derived.Shelf.Vars
import Derived.Test.YtngaimhnajeidaaPFnExactFirstFewestBlanksx3
import Derived.Test.YtngaimhnajeidaaPureFnExactFirstFewestBlanks
namespace Go.Proofs.Ytngaimhnajeidaa.fnExactFirstFewestBlanks
open Go.ChangeShapes Go.WideShapes Go.ChangeAt Go.RowKit
open Go.ChangeMaps (open_string shut_string)
open Go.Proofs.YtngaimhnajeidaaW.PrintWords
set_option linter.unusedVariables false

theorem own : ownKnob Try.prog.godebug = none := by kernel_rfl
theorem laidOut : laidOutB Try.prog = true := by kernel_rfl
set_option maxRecDepth 100000 in
theorem lifted (os : Os) (started : os.Started) (H : Type) (enc : TypeId × Value → H) :
    ReturnsInHanded {} Try.checked os 4 .any (Rows.fnExactFirstFewestBlanksSpec.pre6 enc Try.prog Try.f4 Rows.fnExactFirstFewestBlanksRow.domain false) (Rows.fnExactFirstFewestBlanksSpec.post enc Try.prog Try.f4 false true false false) := by
  refine returnsInHanded_of_change_shaped (C := Try.checked) own started (by kernel_rfl) Try.func4
    (ChangeSpec.witness6 (enc := enc) (C := Try.checked) false ⟨#[], #[.slice none 0 0], []⟩ 8 (by kernel_rfl) (by kernel_rfl) (by kernel_rfl) (by kernel_rfl)) ?_
  intro W base args ds gs before hval0 hW hcnd hsz0 hsh _
  have hsz : (DataW.weightsEach Try.prog (Try.f4.params.toList ++ Rows.fnExactFirstFewestBlanksSpec.plain.varTypes Try.prog) (ds ++ gs)).all (· ≤ reachBytes) = true := hsz0
  have hval : ∀ (j : Nat) t v, Try.f4.params[j]? = some t → args[j]? = some v → Value.okWide Try.prog W .any base t v := hval0
  have hW' := hW
  obtain ⟨p, q, hA0, hV, rfl, hfz, hnd⟩ := hW
  have hA : DataW.TrodAll enc Try.prog W 0 (fun _ => true) true Try.f4.params.toList args.toList ds p := hA0
  rw [Try.params4] at hA hval hsz
  obtain ⟨v0, vs0, d0, ds0, p0, q0, hargs, rfl, rfl, h0, r0⟩ := trodAll_cons hA
  obtain ⟨rfl, rfl, rfl⟩ := trodAll_nil r0
  obtain rfl : args = #[v0] := by cases args; simp_all
  obtain ⟨rfl, rfl⟩ := trodVars_none hV
  have k0 := h0
  have lt0 : ∀ x ∈ p0, x.block < W.heap.size := by obtain ⟨m, hm⟩ := k0; exact DataW.trod_lt m _ _ _ hm
  obtain ⟨a0, len0, cap0, rfl⟩ := okWide_slice Try.underlying25 (hval 0 25 v0 rfl rfl)
  obtain ⟨l0, rfl, hr0, hc0⟩ : ∃ l : List Int, l.length = len0 ∧ Kd.C (Kd.int .i64) W a0 l.length l ∧ len0 ≤ cap0 := by
    obtain ⟨fuel, hf⟩ := h0
    rcases open_ints Try.underlying25 Try.underlying3 (by kernel_rfl) hf with ⟨hcs, _⟩ | ⟨x, l, c, zs, hcs, _, hl, hm, hz, _, hcell, hwz⟩
    · simp [Value.cells] at hcs
      obtain ⟨rfl, rfl, rfl⟩ := hcs
      exact ⟨[], rfl, ⟨rfl, by simp, fun h => by simp at h⟩, Nat.le_refl _⟩
    · simp [Value.cells] at hcs
      obtain ⟨rfl, rfl, rfl⟩ := hcs
      have hml : maxLen = 9223372036854775807 := by decide
      have hlz : len0 ≤ zs.length := by first | omega | (rw [hz]; split <;> omega)
      refine ⟨zs.take len0, by rw [List.length_take]; omega, ⟨rfl, by rw [List.length_take]; omega, fun _ => ⟨_, rfl, fun j p hj => ?_⟩⟩, hl⟩
      have hj2 : j < len0 := by have := (List.getElem?_eq_some_iff.1 hj).1; rw [List.length_take] at this; omega
      rw [List.getElem?_take, if_pos hj2] at hj
      refine ⟨[.int .i64 p], rfl, rfl, fun i u hu => ?_⟩
      have h0 := hcell j (by omega)
      rw [List.getD_eq_getElem?_getD, hj] at h0
      match i, hu with
      | 0, hu => simp at hu; subst hu; simpa [Kd.int, Kd.string, Kd.scalar] using h0
      | i + 1, hu => simp at hu
  clear hA0 hval0 hsz0 hsz
  refine (PFnExactFirstFewestBlanks.laws_FnExactFirstFewestBlanks.calls _ a0 cap0 l0 true W hr0 hc0 (Pure.FnExactFirstFewestBlanks l0 hr0.2.1).choose_spec).mono fun e W' ⟨he, bel⟩ => ?_
  subst he
  exact ⟨_, rfl, _, _, _, [], _, [], hW', trodAll_mk1 (shut_bool Try.underlying4 _), (trodAll_cons_mk (Below.trod laidOut (by kernel_rfl) (of_decide_eq_true (by kernel_rfl)) k0 bel lt0) trodAll_mk0), rfl, bel.frame _, fun h => by cases h⟩

theorem over : Rows.fnExactFirstFewestBlanksRow.holds Try.pinned (OpenSpec.ofChange Rows.fnExactFirstFewestBlanksSpec) :=
  OpenClaim.holds_of_wide 4 Try.f4 rfl rfl rfl rfl rfl rfl rfl ⟨rfl, rfl, rfl, rfl, rfl⟩ rfl rfl rfl rfl rfl (by kernel_rfl) Try.func4 (by kernel_rfl)
    (of_decide_eq_true (by kernel_rfl)) (by unfold Func.isWrapper; first | (rw [if_pos (by decide +kernel)]; kernel_rfl) | (rw [if_neg (by decide +kernel)]; exact ⟨rfl, rfl⟩))
    (fun os started H enc _ => lifted os started H enc)

theorem proved : Rows.FnExactFirstFewestBlanksSaid := over
end Go.Proofs.Ytngaimhnajeidaa.fnExactFirstFewestBlanks
namespace Go.Proofs.Ytngaimhnajeidaa
/-- The row, under a short name, for the claim. -/
theorem fnExactFirstFewestBlanks_holds : Rows.FnExactFirstFewestBlanksSaid := fnExactFirstFewestBlanks.proved
end Go.Proofs.Ytngaimhnajeidaa
