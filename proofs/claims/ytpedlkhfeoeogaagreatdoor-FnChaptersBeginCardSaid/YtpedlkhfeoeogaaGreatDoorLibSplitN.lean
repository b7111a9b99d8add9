/- strings.SplitN parts a text at a separator into so many parts at most, as the library's contract says. -/
import Derived.Test.YtpedlkhfeoeogaaGreatDoorShelf
import Derived.Test.YtpedlkhfeoeogaaGreatDoorTab
import Derived.Test.YtpedlkhfeoeogaaGreatDoorWWords
namespace Go.Proofs.YtpedlkhfeoeogaaGreatDoor
open Go Go.RowKit Go.Proofs.YtpedlkhfeoeogaaGreatDoorW.PrintWords
theorem rowN_of_alloc_ (w : World) (t : TypeId) (xs : List ByteArray) (cs : Array Value) (cap : Nat) (hs : cs.size = cap) (hx : cs.toList.take xs.length = xs.map Value.string) (hcap : xs.length ≤ cap) (hm : cap ≤ maxLen) :
    Kd.R Kd.string t (w.alloc (.cells cs t)) w.heap.size (fun _ => True) (.slice (some ⟨w.heap.size, 0, none⟩) xs.length cap) xs := by
  have he : encs Value.string xs = xs.map Value.string := rfl
  refine Kd.R_of_own (h1 := fun _ => rfl) ⟨by rw [he, List.length_map, Nat.mul_one], .inr ⟨w.heap.size, cap, cs, rfl, Nat.le_refl _, ?_, by omega, hm, by omega, ?_⟩⟩ (fun _ _ => trivial)
  · show (w.heap.push _)[w.heap.size]? = _
    rw [Array.getElem?_push, if_pos rfl]
  · rw [he, Nat.mul_one]; exact hx
def splitNB (s sep : ByteArray) (n : Nat) : List ByteArray := Lib.splitB sep 0 (min n (s.size + 1) - 1) s
def strings_SplitN.f (a0 a1 : ByteArray) (a2 : Int) : Option (List ByteArray) := if a0.size ≤ 4294967280 then (if 1 ≤ a1.size then (if 1 ≤ a2 then (if a2 ≤ 1048576 then some (splitNB a0 a1 a2.toNat) else none) else none) else none) else none
theorem strings_SplitN.go (a0 a1 : ByteArray) (a2 : Int) (r : List ByteArray) (w : World) (hT : ∃ m, w.cell? ⟨3, 0, none⟩ = some (.int .i64 m)) (h : strings_SplitN.f a0 a1 a2 = some r) :
    Calls Tryz.prog 69 #[.string a0, .string a1, .int .i64 a2] w fun e w' => ∃ v0_ : Value, e = .returned (v0_) ∧ Kd.R Kd.string 9 w' w.heap.size (fun _ => True) v0_ r ∧ Below w.heap.size w w' := by
  unfold strings_SplitN.f at h
  by_cases h0 : a0.size ≤ 4294967280
  · by_cases h1 : 1 ≤ a1.size
    · by_cases h2 : 1 ≤ a2
      · by_cases h3 : a2 ≤ 1048576
        · rw [if_pos h0, if_pos h1, if_pos h2, if_pos h3] at h
          injection h with h
          subst h
          obtain ⟨m, hm⟩ := hT
          obtain ⟨n, rfl⟩ : ∃ n : Nat, a2 = n := ⟨a2.toNat, by omega⟩
          rw [Int.toNat_natCast]
          have hml : maxLen = 9223372036854775807 := by decide
          have hlen : (splitNB a0 a1 n).length ≤ min n (a0.size + 1) := by
            have := Lib.splitB_length_le a1 0 (min n (a0.size + 1) - 1) a0
            unfold splitNB; omega
          refine (Tryz.strings_SplitN a0 a1 n m w (by omega) hm h1 (by omega) (by omega)).mono fun e w' ⟨he, hw⟩ => ⟨_, he, ?_, ?_⟩
          · rw [hw]
            exact rowN_of_alloc_ w 9 (splitNB a0 a1 n) (Lib.cellsOf (splitNB a0 a1 n) (min n (a0.size + 1))) (min n (a0.size + 1)) (Lib.cellsOf_size hlen) (by simp [Lib.cellsOf, List.take_left']) hlen (by rw [hml]; omega)
          · rw [hw]; exact (Below.refl _ _).alloc (Nat.le_refl _) _
        · rw [if_pos h0, if_pos h1, if_pos h2, if_neg h3] at h; cases h
      · rw [if_pos h0, if_pos h1, if_neg h2] at h; cases h
    · rw [if_pos h0, if_neg h1] at h; cases h
  · rw [if_neg h0] at h; cases h
end Go.Proofs.YtpedlkhfeoeogaaGreatDoor
