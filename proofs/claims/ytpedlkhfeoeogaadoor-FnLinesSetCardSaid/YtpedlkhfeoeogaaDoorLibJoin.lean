/- strings.Join puts texts behind each other with a separator between them, as the library's contract says. -/
import Derived.Test.YtpedlkhfeoeogaaDoorShelf
import Derived.Test.YtpedlkhfeoeogaaDoorWWords
namespace Go.Proofs.YtpedlkhfeoeogaaDoor
open Go Go.RowKit Go.Proofs.YtpedlkhfeoeogaaDoorW.PrintWords
theorem add_none_ (b o j : Nat) : (⟨b, o, none⟩ : Addr).add j = ⟨b, o + j, none⟩ := by
  unfold Addr.add
  split
  · rename_i h; subst h; rfl
  · rfl
theorem spot_none_ {w : World} {b o : Nat} {z : Nat} {v : Value} (h : w.cell? ⟨b, o, some z⟩ = some v) : False := by
  unfold World.cell? at h
  split at h
  · simp at h
  · cases h
def joinB (xs : List ByteArray) (sep : ByteArray) : List UInt8 := Lib.join (xs.map (·.data.toList)) sep.data.toList
def strings_Join.f (l0 : List ByteArray) (a1 : ByteArray) : Option ByteArray := if l0.length ≤ 1048576 then (if (joinB l0 a1).length ≤ 140737488355328 then some ⟨(joinB l0 a1).toArray⟩ else none) else none
theorem strings_Join.calls (A0 : Option Addr) (c0 : Nat) (l0 : List ByteArray) (a1 : ByteArray) (r : ByteArray) (w : World) (hr0 : Kd.C Kd.string w A0 l0.length l0) (hc0 : l0.length ≤ c0) (h : strings_Join.f l0 a1 = some r) :
    Calls Tryd.prog 137 #[.slice A0 l0.length c0, .string a1] w fun e w' => e = .returned (.string r) ∧ Below w.heap.size w w' := by
  unfold strings_Join.f at h
  by_cases h0 : l0.length ≤ 1048576
  · by_cases h1 : (joinB l0 a1).length ≤ 140737488355328
    · rw [if_pos h0, if_pos h1] at h
      injection h with h
      subst h
      rcases Nat.eq_zero_or_pos l0.length with hz | hp
      · have hn : l0 = [] := List.eq_nil_of_length_eq_zero hz
        subst hn
        exact (Tryd.strings_Join_none A0 c0 a1 w).mono fun e w' ⟨he, hw⟩ => ⟨he, hw ▸ Below.refl _ _⟩
      · obtain ⟨ad, rfl, hcell⟩ := hr0.2.2 hp
        have hcells : ∀ (j : Nat) x, l0[j]? = some x → w.cell? (ad.add j) = some (.string x) := by
          intro j x hj
          obtain ⟨cs, _, hk, hu⟩ := hcell j x hj
          have hk' : cs = [Value.string x] := hk
          subst hk'
          have := hu 0 (.string x) rfl
          simpa [Kd.string, Kd.scalar] using this
        have h0' : w.cell? ad = some (.string l0[0]) := by
          have := hcells 0 l0[0] (List.getElem?_eq_getElem hp)
          simpa [Addr.add] using this
        obtain ⟨b, o, f⟩ := ad
        cases f with
        | some z => exact (spot_none_ h0').elim
        | none =>
          refine Tryd.strings_Join b o c0 l0 a1 w (fun j x hj => by rw [← add_none_]; exact hcells j x hj) ?_ (by omega) hc0 h1
          rcases Nat.lt_or_ge b w.heap.size with z | z
          · exact z
          · simp [World.cell?, Array.getElem?_eq_none z] at h0'
    · rw [if_pos h0, if_neg h1] at h; cases h
  · rw [if_neg h0] at h; cases h
end Go.Proofs.YtpedlkhfeoeogaaDoor
