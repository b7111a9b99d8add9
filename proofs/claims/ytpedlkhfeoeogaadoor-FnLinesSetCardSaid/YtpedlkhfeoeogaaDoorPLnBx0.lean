-- Printed by a program of this repository (wip/xprint.py), over contracts of its own for what the kit's print does not take. Lean checks it.
import Derived.Test.YtpedlkhfeoeogaaDoorProg
import Derived.Below
import Derived.Deep.Draws
import Derived.Deep.AppendLies
import Derived.Maps.AppendAt
import Derived.OwnWalk
import Derived.Laws.BytesArg
import Derived.Laws.MakeOwn
import Derived.Laws.OwnMore
import Derived.Deep.OwnRows
import Derived.Tactics
import Derived.Lib.ConvBytes
import Derived.Laws.Slices
import Derived.WalkKit
import Derived.KernelRfl
import Derived.RowKit3
import Derived.Deep.LoopGhost
import Derived.Deep.QuietTactic
import Derived.BigQuiet
import Derived.WideLaws
import Derived.Deep.DeepCutAuto
import Derived.Deep.CutBlock
import Derived.Deep.RegionHeld3
import Derived.Laws.Rows
import Derived.Lib.AppendStr
import Derived.ArgAppend
import Derived.Laws.IdiomCopy
import Derived.OrdersHeld
import Derived.Laws.BitsLemmas
import Derived.RowKit
import Derived.Test.YtpedlkhfeoeogaaDoorLibMax
import Derived.Test.YtpedlkhfeoeogaaDoorWWords
import Derived.Test.YtpedlkhfeoeogaaDoorWLast
import Derived.Test.YtpedlkhfeoeogaaDoorWTab
import Derived.Test.YtpedlkhfeoeogaaDoorWFour
import Derived.Test.YtpedlkhfeoeogaaDoorWQPut
import Derived.Test.YtpedlkhfeoeogaaDoorWApart
import Derived.Test.YtpedlkhfeoeogaaDoorWArr
import Derived.Test.YtpedlkhfeoeogaaDoorWZeros
import Derived.Test.YtpedlkhfeoeogaaDoorWFoot
import Derived.Test.YtpedlkhfeoeogaaDoorWKept
import Derived.Test.YtpedlkhfeoeogaaDoorWShare
import Derived.Test.YtpedlkhfeoeogaaDoorWN
import Derived.Test.YtpedlkhfeoeogaaDoorWFootNe
import Derived.Test.YtpedlkhfeoeogaaDoorWAt
import Derived.Test.YtpedlkhfeoeogaaDoorWEqStruct
import Derived.Test.YtpedlkhfeoeogaaDoorWRepsOne
import Derived.Test.YtpedlkhfeoeogaaDoorWInv
import Derived.Test.YtpedlkhfeoeogaaDoorWInvWords
import Derived.Test.YtpedlkhfeoeogaaDoorWGuard
import Derived.Test.YtpedlkhfeoeogaaDoorWNEv
import Derived.Test.YtpedlkhfeoeogaaDoorWMore
namespace Go.Proofs.YtpedlkhfeoeogaaDoor.PLnB
open Go.RowKit Go.Proofs.YtpedlkhfeoeogaaDoorW.PrintWords Go.Proofs.YtpedlkhfeoeogaaDoorW.PrintLast Go.Proofs.YtpedlkhfeoeogaaDoorW.PrintMore
attribute [local go_sem] max2_int min2_int max_two min_two max_three min_three max_four min_four   -- for this text's walks alone
set_option linter.unusedVariables false
set_option linter.unusedSimpArgs false



def errW : Option Int → Value
 | none => .nilIface
 | some c => .iface 0 (.int .i64 c)
theorem errW_none : errW none = .nilIface := rfl
theorem errW_some (c : Int) : errW (some c) = .iface 0 (.int .i64 c) := rfl

theorem info3 : (Tryd.prog.info? 3).map (fun i => (i.zero, i.size, i.bytes)) = some (some (.int .i64 0), 1, 8) := by kernel_rfl
-- the values' own types
def rd_L1 (xs : List (List Int)) (i : Int) : (List Int) := xs.getD i.toNat ([] : List Int)
theorem at_L1 {w : World} {A : Option Addr} {n : Nat} {xs : List (List Int)} (h : Kd.C (Kd.slice 3 (Kd.int .i64)) w A n xs) (i : Int) (h0 : 0 ≤ i) (h1 : i < n) : ∃ ad A0 c0, A = some ad ∧ w.cell? (ad.add i.toNat) = some (.slice A0 (rd_L1 xs i).length c0) ∧ (rd_L1 xs i).length ≤ c0 ∧ (Kd.int .i64).C w A0 (rd_L1 xs i).length (rd_L1 xs i) := by
 obtain ⟨ad, c, e, _, hK, hc0⟩ := Kd.C_get h ([] : List Int) i h0 h1
 have hc : ∀ j u, c[j]? = some u → w.cell? (ad.add (i.toNat * 1 + j)) = some u := hc0
 obtain ⟨A0, c0, rfl, l0, g0⟩ := hK
 exact ⟨ad, A0, c0, e, by have hq := hc 0 _ rfl; rwa [Nat.mul_one, Nat.add_zero] at hq, l0, g0⟩

theorem bw_ {B : Nat} {w w' : World} (h : Below B w w' := by repeat (first | (with_reducible first | exact HB.out | apply below_alloc | apply pw_below_drewN | apply below_drew1) | exact HB.out)) : Below B w w' := h
theorem rs_ {p : Prop} (h : p := by first | rfl | (simp; done) | (simp [*]; done)) : p := h
theorem rr_ {p q : Prop} (a : p) (h : p → q := by intro h_; (with_reducible repeat (first | apply Kd.R_alloc | apply Kd.R_drewN | apply Kd.R_drew)); exact h_) : q := h a
theorem cr_ {p q : Prop} (a : p) (h : p → q := by intro h_; repeat (first | exact h_ | (with_reducible refine Kd.C_alloc ?_ _) | (with_reducible refine Kd.C_drewN ?_ _) | (with_reducible refine Kd.C_drew ?_))) : q := h a
theorem dd_ {p : Prop} (h : p := by first | exact ⟨rfl, _, World.drewN_drewN _ _ _⟩ | exact ⟨rfl, _, Eq.trans (World.drewN_drewN _ _ _) (congrArg (World.drewN _) (Nat.add_assoc _ _ _))⟩) : p := h
theorem bx_ {a b : Bool} (h : (a != (!b)) = false) : (a == b) = false ∧ ((!a) == (!b)) = false := by cases a <;> cases b <;> simp_all
end Go.Proofs.YtpedlkhfeoeogaaDoor.PLnB
