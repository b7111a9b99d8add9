import Derived.Test.YtpedlkhfeoeogaaDoorProg
import Derived.Below
import Derived.KernelRfl
import Derived.Lib.LaidTab
import Derived.Lib.ItoaNum
import Derived.Shelf.Vars
namespace Go.Proofs.YtpedlkhfeoeogaaDoor
open Go Go.RowKit
/-- A cell that holds something lies in a block of the heap. -/
theorem lt_of_cell_ {w : World} {p : Addr} {v : Value} (h : w.cell? p = some v) : p.block < w.heap.size := by
  rcases Nat.lt_or_ge p.block w.heap.size with g | g
  · exact g
  · have e : w.heap[p.block]? = none := Array.getElem?_eq_none g
    simp [World.cell?, e] at h
theorem var_below_ {P : Program} {w w' : World} {B : Nat} {name : String} {cs : Array Value} (h : w.var? P name = some cs) (hB : w.heap.size ≤ B) (b : Below B w w') : w'.var? P name = some cs := by
  unfold World.var? at h ⊢
  cases hg : P.globalNamed name with
  | none => rw [hg] at h; cases h
  | some g =>
    rw [hg] at h
    simp only [Option.bind_some] at h ⊢
    have lt : g < w.heap.size := by
      rcases Nat.lt_or_ge g w.heap.size with z | z
      · exact z
      · rw [Array.getElem?_eq_none z] at h; cases h
    rw [b.block g (Nat.lt_of_lt_of_le lt hB)]
    exact h
/-- The library's bound on what it looks for at once holds some number. -/
structure TabA (w : World) : Prop where
  maxlen : ∃ m, w.cell? ⟨1, 0, none⟩ = some (.int .i64 m)
theorem TabA.below {w w' : World} (h : TabA w) (b : Below w.heap.size w w') : TabA w' :=
  ⟨let ⟨m, e⟩ := h.maxlen; ⟨m, (b.cell (lt_of_cell_ e)).trans e⟩⟩
end Go.Proofs.YtpedlkhfeoeogaaDoor
