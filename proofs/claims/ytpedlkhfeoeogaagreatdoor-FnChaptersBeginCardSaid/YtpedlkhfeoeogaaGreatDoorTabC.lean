import Derived.Test.YtpedlkhfeoeogaaGreatDoorTab
namespace Go.Proofs.YtpedlkhfeoeogaaGreatDoor
open Go Go.RowKit
/-- Besides: the table of the powers of ten holds them, and the two errors of strconv's variables are errors. -/
structure TabC (w : World) : Prop where
  maxlen : ∃ m, w.cell? ⟨3, 0, none⟩ = some (.int .i64 m)
  pow : Lib.TabIs Tryz.prog w "internal/strconv.uint64pow10" .u64 Lib.pow10Tab
  errS : ∃ t p, w.var? Tryz.prog "strconv.ErrSyntax" = some #[.iface t p]
  errR : ∃ t p, w.var? Tryz.prog "strconv.ErrRange" = some #[.iface t p]
theorem TabC.below {w w' : World} (h : TabC w) (b : Below w.heap.size w w') : TabC w' :=
  ⟨let ⟨m, e⟩ := h.maxlen; ⟨m, (b.cell (lt_of_cell_ e)).trans e⟩, var_below_ h.pow (Nat.le_refl _) b,
   let ⟨t, p, e⟩ := h.errS; ⟨t, p, var_below_ e (Nat.le_refl _) b⟩, let ⟨t, p, e⟩ := h.errR; ⟨t, p, var_below_ e (Nat.le_refl _) b⟩⟩
end Go.Proofs.YtpedlkhfeoeogaaGreatDoor
