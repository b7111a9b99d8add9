/- The cells behind a slice that is read. -/
import Derived.Test.YtpedlkhfeoeogaaDoorWWords
namespace Go.Proofs.YtpedlkhfeoeogaaDoor
open Go Go.RowKit Go.Proofs.YtpedlkhfeoeogaaDoorW.PrintWords
theorem addr_none_ (b o j : Nat) : (⟨b, o, none⟩ : Addr).add j = ⟨b, o + j, none⟩ := by
  unfold Addr.add
  split
  · rename_i h; subst h; rfl
  · rfl
theorem spot_some_ {w : World} {b o : Nat} {z : Nat} {v : Value} (h : w.cell? ⟨b, o, some z⟩ = some v) : False := by
  unfold World.cell? at h
  split at h
  · simp at h
  · cases h
theorem scalar_cells_ {α : Type} {enc : α → Value} {h1 : ∀ x, (enc x).oneCell' = true} {w : World} {A : Option Addr} {l : List α} (hr : Kd.C (Kd.scalar enc h1) w A l.length l) (hp : 0 < l.length) :
    ∃ b o, A = some ⟨b, o, none⟩ ∧ ∀ (j : Nat) x, l[j]? = some x → w.cell? ⟨b, o + j, none⟩ = some (enc x) := by
  obtain ⟨ad, rfl, hcell⟩ := hr.2.2 hp
  have hcells : ∀ (j : Nat) x, l[j]? = some x → w.cell? (ad.add j) = some (enc x) := by
    intro j x hj
    obtain ⟨cs, _, hk, hu⟩ := hcell j x hj
    have hk' : cs = [enc x] := hk
    subst hk'
    have := hu 0 (enc x) rfl
    simpa [Kd.scalar] using this
  have h0' : w.cell? ad = some (enc l[0]) := by
    have := hcells 0 l[0] (List.getElem?_eq_getElem hp)
    simpa [Addr.add] using this
  obtain ⟨b, o, f⟩ := ad
  cases f with
  | some z => exact (spot_some_ h0').elim
  | none => exact ⟨b, o, rfl, fun j x hj => by rw [← addr_none_]; exact hcells j x hj⟩
end Go.Proofs.YtpedlkhfeoeogaaDoor
