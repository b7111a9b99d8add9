/- slices.Contains tells whether a text is among texts, as the library's contract says. -/
import Derived.Test.YtpedlkhfeoeogaaDoorShelf
import Derived.Test.YtpedlkhfeoeogaaDoorLibCells
import Derived.Test.YtpedlkhfeoeogaaDoorWLast
namespace Go.Proofs.YtpedlkhfeoeogaaDoor
open Go Go.RowKit Go.Proofs.YtpedlkhfeoeogaaDoorW.PrintWords Go.Proofs.YtpedlkhfeoeogaaDoorW.PrintLast
def slices_Contains_string_string.f (l0 : List ByteArray) (a1 : ByteArray) : Option Bool := some (Lib.containsS l0 a1)
theorem slices_Contains_string_string.calls (A0 : Option Addr) (c0 : Nat) (l0 : List ByteArray) (a1 : ByteArray) (r : Bool) (w : World) (hr0 : Kd.C Kd.string w A0 l0.length l0) (_hc0 : l0.length ≤ c0) (h : slices_Contains_string_string.f l0 a1 = some r) :
    Calls Tryd.prog 166 #[.slice A0 l0.length c0, .string a1] w fun e w' => e = .returned (.bool r) ∧ Drawn0 w w' := by
  obtain rfl := Option.some.inj h
  rcases Nat.eq_zero_or_pos l0.length with hz | hp
  · have hn : l0 = [] := List.eq_nil_of_length_eq_zero hz
    subst hn
    exact (Tryd.slices_Contains_string_empty A0 c0 a1 w).mono fun e w' ⟨he, hw⟩ => ⟨he, hw ▸ Drawn0.refl _⟩
  · obtain ⟨b, o, rfl, hc⟩ := scalar_cells_ hr0 hp
    refine (Tryd.slices_Contains_string b o l0.length c0 l0 a1 w (Nat.le_refl _) hr0.2.1 (fun j hj => ?_)).mono fun e w' ⟨he, hw⟩ => ⟨?_, hw ▸ Drawn0.refl _⟩
    · rw [List.getD_eq_getElem?_getD, List.getElem?_eq_getElem hj]
      exact hc j _ (List.getElem?_eq_getElem hj)
    · rw [he, List.take_length]
end Go.Proofs.YtpedlkhfeoeogaaDoor
