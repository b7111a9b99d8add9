/- strconv.Itoa tells each int's decimal numeral, as the library's contract says; the table of the powers of ten is asked of the world. -/
import Derived.Test.YtpedlkhfeoeogaaDoorShelfB
import Derived.Test.YtpedlkhfeoeogaaDoorTabB
import Derived.Sort.Grow
import Derived.Test.YtpedlkhfeoeogaaDoorWWords
namespace Go.Proofs.YtpedlkhfeoeogaaDoor
open Go Go.RowKit
theorem below_grown_ (w : World) (k : Nat) (os : Array Obj) : Below w.heap.size w (Go.Sort.grow (w.drewN k) os) := by
  refine ⟨rfl, rfl, rfl, ?_, fun i hi => ?_⟩
  · show w.heap.size ≤ (w.heap ++ os).size
    rw [Array.size_append]; omega
  · show (w.heap ++ os)[i]? = w.heap[i]?
    rw [Array.getElem?_append_left hi]
def strconv_Itoa.f (a0 : Int) : Option ByteArray := if -9223372036854775808 ≤ a0 then (if a0 ≤ 9223372036854775807 then some ⟨(Lib.itoa a0).toArray⟩ else none) else none
theorem strconv_Itoa.go (a0 : Int) (r : ByteArray) (w : World) (hT : Lib.TabIs Tryd.prog w "internal/strconv.uint64pow10" .u64 Lib.pow10Tab) (h : strconv_Itoa.f a0 = some r) :
    Calls Tryd.prog 102 #[.int .i64 a0] w fun e w' => e = .returned (.string r) ∧ Below w.heap.size w w' := by
  unfold strconv_Itoa.f at h
  by_cases h0 : -9223372036854775808 ≤ a0
  · by_cases h1 : a0 ≤ 9223372036854775807
    · rw [if_pos h0, if_pos h1] at h
      injection h with h
      subst h
      refine (Tryd.strconv_Itoa a0 h0 h1 w hT).mono fun e w' ⟨he, k, os, hw⟩ => ⟨he, ?_⟩
      rw [hw]
      exact below_grown_ w k os
    · rw [if_pos h0, if_neg h1] at h; cases h
  · rw [if_neg h0] at h; cases h
end Go.Proofs.YtpedlkhfeoeogaaDoor
