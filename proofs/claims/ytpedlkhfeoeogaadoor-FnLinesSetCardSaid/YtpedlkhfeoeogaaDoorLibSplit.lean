/- strings.Split and strings.SplitN part a text at a separator, as the library's contracts say. -/
import Derived.Test.YtpedlkhfeoeogaaDoorShelf
import Derived.Test.YtpedlkhfeoeogaaDoorTab
import Derived.Test.YtpedlkhfeoeogaaDoorWWords
namespace Go.Proofs.YtpedlkhfeoeogaaDoor
open Go Go.RowKit Go.Proofs.YtpedlkhfeoeogaaDoorW.PrintWords
theorem row_of_alloc_ (w : World) (t : TypeId) (xs : List ByteArray) (more : List Value) (cap : Nat) (hcap : xs.length + more.length = cap) (hm : cap ≤ maxLen) :
    Kd.R Kd.string t (w.alloc (.cells (xs.map Value.string ++ more).toArray t)) w.heap.size (fun _ => True) (.slice (some ⟨w.heap.size, 0, none⟩) xs.length cap) xs := by
  have he : encs Value.string xs = xs.map Value.string := rfl
  refine Kd.R_of_own (h1 := fun _ => rfl) ⟨by rw [he, List.length_map, Nat.mul_one], .inr ⟨w.heap.size, cap, (xs.map Value.string ++ more).toArray, rfl, Nat.le_refl _, ?_, by omega, hm, ?_, ?_⟩⟩ (fun _ _ => trivial)
  · show (w.heap.push _)[w.heap.size]? = _
    rw [Array.getElem?_push, if_pos rfl]
  · simp; omega
  · rw [he]
    simp
def splitB (s sep : ByteArray) : List ByteArray := Lib.splitB sep 0 (Lib.countB s sep) s
def strings_Split.f (a0 a1 : ByteArray) : Option (List ByteArray) := if a0.size ≤ 4294967280 then (if 1 ≤ a1.size then some (splitB a0 a1) else none) else none
theorem strings_Split.go (a0 a1 : ByteArray) (r : List ByteArray) (w : World) (hT : ∃ m, w.cell? ⟨1, 0, none⟩ = some (.int .i64 m)) (h : strings_Split.f a0 a1 = some r) :
    Calls Tryd.prog 136 #[.string a0, .string a1] w fun e w' => ∃ v0_ : Value, e = .returned (v0_) ∧ Kd.R Kd.string 9 w' w.heap.size (fun _ => True) v0_ r ∧ Below w.heap.size w w' := by
  unfold strings_Split.f at h
  by_cases h0 : a0.size ≤ 4294967280
  · by_cases h1 : 1 ≤ a1.size
    · rw [if_pos h0, if_pos h1] at h
      injection h with h
      subst h
      obtain ⟨m, hm⟩ := hT
      have hml : maxLen = 9223372036854775807 := by decide
      have hle := Lib.countB_le a1 h1 a0.size a0 (Nat.le_refl _)
      have hlen := Lib.splitB_all a1 h1 0 _ a0 rfl
      refine (Tryd.strings_Split a0 a1 m w (by omega) hm h1).mono fun e w' ⟨he, hw⟩ => ⟨_, he, ?_, ?_⟩
      · have := row_of_alloc_ w 9 (splitB a0 a1) [] (Lib.countB a0 a1 + 1) (by unfold splitB; rw [hlen]; rfl) (by rw [hml]; omega)
        rw [List.append_nil] at this
        rw [hw]
        unfold splitB at this ⊢
        rw [hlen] at this
        exact this
      · rw [hw]; exact (Below.refl _ _).alloc (Nat.le_refl _) _
    · rw [if_pos h0, if_neg h1] at h; cases h
  · rw [if_neg h0] at h; cases h
end Go.Proofs.YtpedlkhfeoeogaaDoor
