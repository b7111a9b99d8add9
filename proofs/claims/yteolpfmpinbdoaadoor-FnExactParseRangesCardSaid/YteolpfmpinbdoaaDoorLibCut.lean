/- strings.Cut parts a text at the first separator, as the library's contract says. -/
import Derived.Test.YteolpfmpinbdoaaDoorShelf
import Derived.Test.YteolpfmpinbdoaaDoorTab
namespace Go.Proofs.YteolpfmpinbdoaaDoor
open Go Go.RowKit
theorem below_drewn_ (w : World) (n : Nat) : Below w.heap.size w (w.drewN n) := ⟨rfl, rfl, rfl, Nat.le_refl _, fun _ _ => rfl⟩
def strings_Cut.f (a0 a1 : ByteArray) : Option (ByteArray × ByteArray × Bool) := if a0.size ≤ 4294967280 then some (⟨(Lib.cut a0.data.toList a1.data.toList).1.toArray⟩, ⟨(Lib.cut a0.data.toList a1.data.toList).2.1.toArray⟩, (Lib.cut a0.data.toList a1.data.toList).2.2) else none
theorem strings_Cut.go (a0 a1 : ByteArray) (r1 r2 : ByteArray) (r3 : Bool) (w : World) (hT : ∃ m, w.cell? ⟨0, 0, none⟩ = some (.int .i64 m)) (h : strings_Cut.f a0 a1 = some (r1, r2, r3)) :
    Calls Tryd.prog 41 #[.string a0, .string a1] w fun e w' => e = .returned (.tuple #[.string r1, .string r2, .bool r3]) ∧ Below w.heap.size w w' := by
  unfold strings_Cut.f at h
  by_cases h0 : a0.size ≤ 4294967280
  · rw [if_pos h0] at h
    injection h with h
    injection h with e1 h
    injection h with e2 e3
    subst e1; subst e2; subst e3
    obtain ⟨m, hm⟩ := hT
    refine (Tryd.strings_Cut a0 a1 m w (by omega) hm).mono fun e w' ⟨he, n, hw⟩ => ⟨he, ?_⟩
    rw [hw]; exact below_drewn_ w n
  · rw [if_neg h0] at h; cases h
end Go.Proofs.YteolpfmpinbdoaaDoor
