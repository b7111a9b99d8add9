import Derived.Test.YteolpfmpinbdoaaWWords
import Derived.Deep.SlicePairs
import Derived.OpenShut
import Derived.ChangeSlices
namespace Go.Proofs.Yteolpfmpinbdoaa.Own
open Go.Deep Go.RowKit Go.ChangeShapes Go.WideShapes Go.Proofs.YteolpfmpinbdoaaW.PrintWords
theorem C_pairs {β : Type} (f : β → Int × Int) (w : World) (A : Option Addr) (xs : List β) (hm : xs.length ≤ 9223372036854775807)
    (h : 0 < xs.length → ∃ ad, A = some ad ∧ ∀ i p, xs[i]? = some p → w.cell? (ad.add (i * 2)) = some (.int .i64 (f p).1) ∧ w.cell? (ad.add (i * 2 + 1)) = some (.int .i64 (f p).2)) :
    Kd.C (Kd.iso (Kd.pair (Kd.int .i64) (Kd.int .i64)) f) w A xs.length xs := by
  refine ⟨rfl, hm, fun hp => ?_⟩
  obtain ⟨ad, e, hc⟩ := h hp
  refine ⟨ad, e, fun j p hj => ⟨[.int .i64 (f p).1, .int .i64 (f p).2], rfl, ⟨[.int .i64 (f p).1], [.int .i64 (f p).2], rfl, rfl, rfl⟩, ?_⟩⟩
  obtain ⟨h1, h2⟩ := hc j p hj
  intro i u hu
  match i, hu with
  | 0, hu => simp at hu; subst hu; exact h1
  | 1, hu => simp at hu; subst hu; exact h2
  | i + 2, hu => simp at hu
def numV : Value → Int
  | .int _ z => z
  | _ => 0
theorem open_pairs {H : Type} {enc : TypeId × Value → H} {P : Program} {w : World} {base : Nat} {spare : Nat → Bool} {held : Bool} {β : Type} (f : β → Int × Int) (mk : Int → Int → β) (hmk : ∀ x y, f (mk x y) = (x, y))
    {t e : TypeId} {f0 f1 : Field} {fuel : Nat} {a0 : Option Addr} {len0 cap0 : Nat} {x : DataW H × List MemPlace} (ht : P.underlying t = some (.slice e)) (he : P.underlying e = some (.struct #[f0, f1]))
    (ce : P.cellsOf e = 2) (o0 : f0.offset = 0) (o1 : f1.offset = 1) (c0 : P.cellsOf f0.type = 1) (c1 : P.cellsOf f1.type = 1) (i0 : P.underlying f0.type = some (.int .i64)) (i1 : P.underlying f1.type = some (.int .i64))
    (h : DataW.trod enc P w base spare held fuel t [.slice a0 len0 cap0] = some x) :
    ∃ l : List β, l.length = len0 ∧ Kd.C (Kd.iso (Kd.pair (Kd.int .i64) (Kd.int .i64)) f) w a0 l.length l ∧ len0 ≤ cap0 := by
  rcases open_slice_pairs ht he ce o0 o1 c0 c1 h with ⟨hcs, _⟩ | ⟨a, len, cap, m, n, V0, V1, D0, D1, P0, P1, hcs, hb, hl, hm, hmm, hx, hcell⟩
  · simp at hcs
    obtain ⟨rfl, rfl, rfl⟩ := hcs
    exact ⟨[], rfl, C_pairs f w none [] (by simp) (fun h => by simp at h), Nat.le_refl _⟩
  · simp at hcs
    obtain ⟨rfl, rfl, rfl⟩ := hcs
    have hlm : len0 ≤ m := by rw [hmm]; split <;> omega
    refine ⟨(List.range len0).map fun i => mk (numV (V0 i)) (numV (V1 i)), by simp, ?_, hl⟩
    refine C_pairs f w (some a) _ (by simp; have : maxLen ≤ 9223372036854775807 := by decide
                                      omega) (fun _ => ⟨a, rfl, fun i p hp => ?_⟩)
    have hi : i < len0 := by have := (List.getElem?_eq_some_iff.1 hp).1; simpa using this
    have hpe : p = mk (numV (V0 i)) (numV (V1 i)) := by
      rw [List.getElem?_map, List.getElem?_range hi] at hp
      simpa using hp.symm
    obtain ⟨h1, h2, h3, h4⟩ := hcell i (by omega)
    obtain ⟨z0, e0, _, _⟩ := DataW.trod_int i0 h3
    obtain ⟨z1, e1, _, _⟩ := DataW.trod_int i1 h4
    simp at e0 e1
    rw [hpe, hmk, h1, h2, e0, e1]
    exact ⟨rfl, rfl⟩
end Go.Proofs.Yteolpfmpinbdoaa.Own
