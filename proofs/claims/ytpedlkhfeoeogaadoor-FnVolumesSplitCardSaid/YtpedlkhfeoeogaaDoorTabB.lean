import Derived.Test.YtpedlkhfeoeogaaDoorTab
namespace Go.Proofs.YtpedlkhfeoeogaaDoor
open Go Go.RowKit
/-- Besides: the table of the powers of ten holds them. -/
structure TabB (w : World) : Prop where
  maxlen : ∃ m, w.cell? ⟨1, 0, none⟩ = some (.int .i64 m)
  pow : Lib.TabIs Tryd.prog w "internal/strconv.uint64pow10" .u64 Lib.pow10Tab
theorem TabB.below {w w' : World} (h : TabB w) (b : Below w.heap.size w w') : TabB w' :=
  ⟨let ⟨m, e⟩ := h.maxlen; ⟨m, (b.cell (lt_of_cell_ e)).trans e⟩, var_below_ h.pow (Nat.le_refl _) b⟩
end Go.Proofs.YtpedlkhfeoeogaaDoor
