/- strings.Repeat puts a text behind itself, as the library's contract says. -/
import Derived.Test.YtpedlkhfeoeogaaDoorShelfB
import Derived.Test.YtpedlkhfeoeogaaDoorWWords
namespace Go.Proofs.YtpedlkhfeoeogaaDoor
open Go Go.RowKit
def strings_Repeat.f (a0 : ByteArray) (a1 : Int) : Option ByteArray := if 0 ≤ a1 then (if a1 ≤ 1048576 then (if a0.size ≤ 1048576 then some ⟨(Lib.repeatL a0.data.toList a1.toNat).toArray⟩ else none) else none) else none
theorem strings_Repeat.calls (a0 : ByteArray) (a1 : Int) (r : ByteArray) (w : World) (h : strings_Repeat.f a0 a1 = some r) :
    Calls Tryd.prog 103 #[.string a0, .int .i64 a1] w fun e w' => e = .returned (.string r) ∧ Below w.heap.size w w' := by
  unfold strings_Repeat.f at h
  by_cases h0 : 0 ≤ a1
  · by_cases h1 : a1 ≤ 1048576
    · by_cases h2 : a0.size ≤ 1048576
      · rw [if_pos h0, if_pos h1, if_pos h2] at h
        injection h with h
        subst h
        obtain ⟨c, rfl⟩ : ∃ c : Nat, a1 = c := ⟨a1.toNat, by omega⟩
        have hc : c ≤ 1048576 := by omega
        have hm : a0.size * c ≤ 1048576 * 1048576 := Nat.mul_le_mul h2 hc
        exact Tryd.strings_Repeat a0 c w (by omega) (by omega)
      · rw [if_pos h0, if_pos h1, if_neg h2] at h; cases h
    · rw [if_pos h0, if_neg h1] at h; cases h
  · rw [if_neg h0] at h; cases h
end Go.Proofs.YtpedlkhfeoeogaaDoor
