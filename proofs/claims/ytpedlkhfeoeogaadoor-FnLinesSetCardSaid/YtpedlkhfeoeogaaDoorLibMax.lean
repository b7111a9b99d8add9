/- slices.Max tells the greatest of numbers, as the library's contract says. -/
import Derived.Test.YtpedlkhfeoeogaaDoorShelf
import Derived.Test.YtpedlkhfeoeogaaDoorLibCells
import Derived.Test.YtpedlkhfeoeogaaDoorWLast
namespace Go.Proofs.YtpedlkhfeoeogaaDoor
open Go Go.RowKit Go.Proofs.YtpedlkhfeoeogaaDoorW.PrintWords Go.Proofs.YtpedlkhfeoeogaaDoorW.PrintLast
def slices_Max_int_int.f (l0 : List Int) : Option Int := if 0 < l0.length then some (Lib.maxOf l0) else none
theorem slices_Max_int_int.calls (A0 : Option Addr) (c0 : Nat) (l0 : List Int) (r : Int) (w : World) (hr0 : Kd.C (Kd.int .i64) w A0 l0.length l0) (_hc0 : l0.length ≤ c0) (h : slices_Max_int_int.f l0 = some r) :
    Calls Tryd.prog 91 #[.slice A0 l0.length c0] w fun e w' => e = .returned (.int .i64 r) ∧ Drawn0 w w' := by
  unfold slices_Max_int_int.f at h
  by_cases hp : 0 < l0.length
  · rw [if_pos hp] at h
    obtain rfl := Option.some.inj h
    obtain ⟨b, o, rfl, hc⟩ := scalar_cells_ hr0 hp
    refine (Tryd.slices_Max_int b o l0.length c0 l0 w hp (Nat.le_refl _) hr0.2.1 (fun j hj => ?_)).mono fun e w' ⟨he, hw⟩ => ⟨?_, hw ▸ Drawn0.refl _⟩
    · rw [List.getD_eq_getElem?_getD, List.getElem?_eq_getElem hj]
      exact hc j _ (List.getElem?_eq_getElem hj)
    · rw [he, List.take_length]
  · rw [if_neg hp] at h; cases h
end Go.Proofs.YtpedlkhfeoeogaaDoor
