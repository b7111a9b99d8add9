-- Printed by a program of this repository (wip/xprint.py), over contracts of its own for what the kit's print does not take. Lean checks it.
import Derived.Test.YtpedlkhfeoeogaaDoorPFnLinesStretchedx0
import Derived.Laws.RangeString
import Derived.Test.YtpedlkhfeoeogaaDoorPFnLinesStretchedx1
import Derived.Test.YtpedlkhfeoeogaaDoorPFnLinesStretchedx2
import Derived.Test.YtpedlkhfeoeogaaDoorPFnLinesStretchedx3
import Derived.Test.YtpedlkhfeoeogaaDoorPFnLinesStretchedx4
import Derived.Test.YtpedlkhfeoeogaaDoorPFnLinesStretchedx5
import Derived.Test.YtpedlkhfeoeogaaDoorPFnLinesStretchedx6
import Derived.Test.YtpedlkhfeoeogaaDoorPFnLinesStretchedx7
import Derived.Test.YtpedlkhfeoeogaaDoorPFnLinesStretchedx8
import Derived.Test.YtpedlkhfeoeogaaDoorPFnLinesStretchedx9
namespace Go.Proofs.YtpedlkhfeoeogaaDoor.PFnLinesStretched
open Go.RowKit Go.Proofs.YtpedlkhfeoeogaaDoorW.PrintWords Go.Proofs.YtpedlkhfeoeogaaDoorW.PrintLast Go.Proofs.YtpedlkhfeoeogaaDoorW.PrintMore
attribute [local go_sem] max2_int min2_int max_two min_two max_three min_three max_four min_four   -- for this text's walks alone
set_option linter.unusedVariables false
set_option linter.unusedSimpArgs false

/-! ### laws_FnLinesStretched: function 5 -/
/-- A text's iterator, set on. -/
def itSet (W : World) (g : Nat) (s : ByteArray) (p : Nat) : World := { W with heap := W.heap.setIfInBounds g (.stringIter s p) }
theorem nx_ascii {P : Program} {W : World} {g p : Nat} {s : ByteArray} (z : Int) (hz : z = p) (hg : W.heap[g]? = some (.stringIter s p)) (h : p < s.size) (ha : (s[p]'h).toNat < 128) (ty : TypeId) :
    (Instr.next (.pointer (some ⟨g, 0, none⟩)) true ty).run P W = .ok (.tuple #[.bool true, .int .i64 z, .int .i32 (s[p]'h).toNat]) (itSet W g s (p + 1)) := by
  subst hz
  simp only [Instr.next, getObj, setObj, Sem.run_bind, Sem.run, hg, Result.andThen, h, if_true, decode_ascii s p h ha]
  simp [goInt, Sem.run, hg, itSet]
theorem nx_end {P : Program} {W : World} {g p : Nat} {s : ByteArray} (hg : W.heap[g]? = some (.stringIter s p)) (h : ¬ p < s.size) (ty : TypeId) :
    (Instr.next (.pointer (some ⟨g, 0, none⟩)) true ty).run P W = .ok (.tuple #[.bool false]) W := by
  simp [Instr.next, getObj, Sem.run, hg, h]
theorem it_get {W : World} {g : Nat} {o : Obj} (hg : W.heap[g]? = some o) (s : ByteArray) (p : Nat) : (itSet W g s p).heap[g]? = some (.stringIter s p) := by
  have hl : g < W.heap.size := by
    rcases Nat.lt_or_ge g W.heap.size with h | h
    · exact h
    · rw [Array.getElem?_eq_none h] at hg; cases hg
  simp [itSet, hl]
theorem it_below {w0 W : World} {g : Nat} (hb : Below g w0 W) (s : ByteArray) (p : Nat) : Below g w0 (itSet W g s p) :=
  ⟨hb.os, hb.tape, hb.output, by simpa [itSet] using hb.size, fun i hi => by
    have h := hb.block i hi
    simp only [itSet]
    rw [Array.getElem?_setIfInBounds_ne (by omega)]
    exact h⟩
theorem it_new (W : World) (s : ByteArray) (p : Nat) : Below W.heap.size W (W.iter s p) := below_alloc (Below.refl _ _) _
mutual
def laws_FnLinesStretched.j0 : Nat → List Int → List Int → Int → List Int → Bool → Bool → Option (Bool)
  | 0, _, _, _, _, _, _ => none
  | k + 1, x1, x5, x6, x7, x8, x86 => if x86 = true then (some false) else (if x8 = true then (if (x7.length : Int) = (wrap64 ((x5.length : Int) - 1)) then ((laws_xSum.f k x7).bind fun t483 => ((laws_xSum.f k x5).bind fun t484 => (laws_FnLinesStretched.j1 k x1 x7 ((wrap64 (t483 + t484)) != x6)))) else (laws_FnLinesStretched.j1 k x1 x7 true)) else (laws_FnLinesStretched.j3 k x1))
def laws_FnLinesStretched.j3 : Nat → List Int → Option (Bool)
  | 0, _ => none
  | k + 1, x1 => (spec_DrawStretchText.f k x1).bind fun bt488 => ((impl_StretchText.f k bt488.1 bt488.2).bind fun bt490 => ((spec_StretchText.f k bt488.1 bt488.2).bind fun bt492 => ((spec_DrawCentreText.f k x1).bind fun bt494 => ((impl_CentreText.f k bt494.1 bt494.2).bind fun bt496 => ((spec_CentreText.f k bt494.1 bt494.2).bind fun bt498 => ((spec_DrawParagraphBreaks.f k x1).bind fun bt500 => ((impl_ParagraphBreaks.f k bt500.1 bt500.2).bind fun bt504 => ((spec_ParagraphBreaks.f k bt500.1 bt500.2).bind fun bt508 => ((impl_BreaksAllowed.f k bt500.1 bt500.2).bind fun bt512 => ((spec_BreaksAllowed.f k bt500.1 bt500.2).bind fun bt516 => ((impl_PagesOfParagraphs.f k bt500.1 bt500.2).bind fun bt520 => ((spec_PagesOfParagraphs.f k bt500.1 bt500.2).bind fun bt522 => ((impl_LinesLeftOver.f k bt500.1 bt500.2).bind fun bt524 => ((spec_LinesLeftOver.f k bt500.1 bt500.2).bind fun bt528 => (if (bt490.2 != bt492.2) = true then (laws_FnLinesStretched.j4 k bt488.1 bt488.2 bt490.1 bt490.2 bt494.1 bt494.2 bt496.1 bt496.2 bt500.1 bt500.2 bt504.1 bt504.2 bt512.1 bt512.2 bt520.1 bt524.1 true) else (if bt490.1.toList = bt492.1.toList then (if (bt496.2 != bt498.2) = true then (laws_FnLinesStretched.j4 k bt488.1 bt488.2 bt490.1 bt490.2 bt494.1 bt494.2 bt496.1 bt496.2 bt500.1 bt500.2 bt504.1 bt504.2 bt512.1 bt512.2 bt520.1 bt524.1 true) else (if bt496.1.toList = bt498.1.toList then (if (bt504.2 != bt508.2) = true then (laws_FnLinesStretched.j4 k bt488.1 bt488.2 bt490.1 bt490.2 bt494.1 bt494.2 bt496.1 bt496.2 bt500.1 bt500.2 bt504.1 bt504.2 bt512.1 bt512.2 bt520.1 bt524.1 true) else ((laws_xSame.f k bt504.1 bt508.1).bind fun t532 => (if t532 = true then (if (bt512.2 != bt516.2) = true then (laws_FnLinesStretched.j4 k bt488.1 bt488.2 bt490.1 bt490.2 bt494.1 bt494.2 bt496.1 bt496.2 bt500.1 bt500.2 bt504.1 bt504.2 bt512.1 bt512.2 bt520.1 bt524.1 true) else ((laws_xSame.f k bt512.1 bt516.1).bind fun t533 => (if t533 = true then (if (bt520.2 != bt522.2) = true then (laws_FnLinesStretched.j4 k bt488.1 bt488.2 bt490.1 bt490.2 bt494.1 bt494.2 bt496.1 bt496.2 bt500.1 bt500.2 bt504.1 bt504.2 bt512.1 bt512.2 bt520.1 bt524.1 true) else (if bt520.1 = bt522.1 then (if (bt524.2 != bt528.2) = true then (laws_FnLinesStretched.j4 k bt488.1 bt488.2 bt490.1 bt490.2 bt494.1 bt494.2 bt496.1 bt496.2 bt500.1 bt500.2 bt504.1 bt504.2 bt512.1 bt512.2 bt520.1 bt524.1 true) else ((laws_xSame.f k bt524.1 bt528.1).bind fun t534 => (if t534 = true then (if (bt520.2 != bt504.2) = true then (laws_FnLinesStretched.j4 k bt488.1 bt488.2 bt490.1 bt490.2 bt494.1 bt494.2 bt496.1 bt496.2 bt500.1 bt500.2 bt504.1 bt504.2 bt512.1 bt512.2 bt520.1 bt524.1 true) else (if (bt524.2 != bt504.2) = true then (laws_FnLinesStretched.j4 k bt488.1 bt488.2 bt490.1 bt490.2 bt494.1 bt494.2 bt496.1 bt496.2 bt500.1 bt500.2 bt504.1 bt504.2 bt512.1 bt512.2 bt520.1 bt524.1 true) else (if bt504.2 = true then (laws_FnLinesStretched.j4 k bt488.1 bt488.2 bt490.1 bt490.2 bt494.1 bt494.2 bt496.1 bt496.2 bt500.1 bt500.2 bt504.1 bt504.2 bt512.1 bt512.2 bt520.1 bt524.1 (!bt512.2)) else (laws_FnLinesStretched.j4 k bt488.1 bt488.2 bt490.1 bt490.2 bt494.1 bt494.2 bt496.1 bt496.2 bt500.1 bt500.2 bt504.1 bt504.2 bt512.1 bt512.2 bt520.1 bt524.1 false)))) else (laws_FnLinesStretched.j4 k bt488.1 bt488.2 bt490.1 bt490.2 bt494.1 bt494.2 bt496.1 bt496.2 bt500.1 bt500.2 bt504.1 bt504.2 bt512.1 bt512.2 bt520.1 bt524.1 true)))) else (laws_FnLinesStretched.j4 k bt488.1 bt488.2 bt490.1 bt490.2 bt494.1 bt494.2 bt496.1 bt496.2 bt500.1 bt500.2 bt504.1 bt504.2 bt512.1 bt512.2 bt520.1 bt524.1 true))) else (laws_FnLinesStretched.j4 k bt488.1 bt488.2 bt490.1 bt490.2 bt494.1 bt494.2 bt496.1 bt496.2 bt500.1 bt500.2 bt504.1 bt504.2 bt512.1 bt512.2 bt520.1 bt524.1 true)))) else (laws_FnLinesStretched.j4 k bt488.1 bt488.2 bt490.1 bt490.2 bt494.1 bt494.2 bt496.1 bt496.2 bt500.1 bt500.2 bt504.1 bt504.2 bt512.1 bt512.2 bt520.1 bt524.1 true)))) else (laws_FnLinesStretched.j4 k bt488.1 bt488.2 bt490.1 bt490.2 bt494.1 bt494.2 bt496.1 bt496.2 bt500.1 bt500.2 bt504.1 bt504.2 bt512.1 bt512.2 bt520.1 bt524.1 true))) else (laws_FnLinesStretched.j4 k bt488.1 bt488.2 bt490.1 bt490.2 bt494.1 bt494.2 bt496.1 bt496.2 bt500.1 bt500.2 bt504.1 bt504.2 bt512.1 bt512.2 bt520.1 bt524.1 true)))))))))))))))))
def laws_FnLinesStretched.j4 : Nat → ByteArray → Int → ByteArray → Bool → ByteArray → Int → ByteArray → Bool → List Int → Int → List Int → Bool → List Int → Bool → Int → List Int → Bool → Option (Bool)
  | 0, _, _, _, _, _, _, _, _, _, _, _, _, _, _, _, _, _ => none
  | k + 1, x13, x14, x15, x16, x19, x20, x21, x22, x25, x26, x27, x28, x31, x32, x35, x39, x298 => if x298 = true then (some false) else (if x16 = true then (if (x15.size : Int) = x14 then (laws_FnLinesStretched.l1 k x13 x15 x19 x20 x21 x22 x25 x26 x27 x28 x31 x32 x35 x39 0 0 (x15.size : Int)) else (some false)) else (laws_FnLinesStretched.j7 k x19 x20 x21 x22 x25 x26 x27 x28 x31 x32 x35 x39))
def laws_FnLinesStretched.j7 : Nat → ByteArray → Int → ByteArray → Bool → List Int → Int → List Int → Bool → List Int → Bool → Int → List Int → Option (Bool)
  | 0, _, _, _, _, _, _, _, _, _, _, _, _ => none
  | k + 1, x19, x20, x21, x22, x25, x26, x27, x28, x31, x32, x35, x39 => if x22 = true then (if (x21.size : Int) = x20 then (if 0 ≤ (wrap64 (Int.tdiv (wrap64 (x20 - (x19.size : Int))) 2)) then (if (wrap64 (Int.tdiv (wrap64 (x20 - (x19.size : Int))) 2)) ≤ (wrap64 ((wrap64 (Int.tdiv (wrap64 (x20 - (x19.size : Int))) 2)) + (x19.size : Int))) then (if (wrap64 ((wrap64 (Int.tdiv (wrap64 (x20 - (x19.size : Int))) 2)) + (x19.size : Int))) ≤ (x21.size : Int) then (if (x21.extract ((wrap64 (Int.tdiv (wrap64 (x20 - (x19.size : Int))) 2)) : Int).toNat ((wrap64 ((wrap64 (Int.tdiv (wrap64 (x20 - (x19.size : Int))) 2)) + (x19.size : Int))) : Int).toNat).toList = x19.toList then (laws_FnLinesStretched.j8 k x25 x26 x27 x28 x31 x32 x35 x39) else (some false)) else (none)) else (none)) else (none)) else (some false)) else (laws_FnLinesStretched.j8 k x25 x26 x27 x28 x31 x32 x35 x39)
def laws_FnLinesStretched.j8 : Nat → List Int → Int → List Int → Bool → List Int → Bool → Int → List Int → Option (Bool)
  | 0, _, _, _, _, _, _, _, _ => none
  | k + 1, x25, x26, x27, x28, x31, x32, x35, x39 => if x32 = true then ((laws_xSum.f k x25).bind fun t535 => ((laws_xRises.f k x31).bind fun t536 => (if t536 = true then (laws_FnLinesStretched.l2 k x25 x26 x27 x28 x31 x35 x39 t535 0 x25 (x25.length : Int) 0) else (some false)))) else (laws_FnLinesStretched.j11 k x25 x26 x27 x28 x31 x35 x39)
def laws_FnLinesStretched.j11 : Nat → List Int → Int → List Int → Bool → List Int → Int → List Int → Option (Bool)
  | 0, _, _, _, _, _, _, _ => none
  | k + 1, x25, x26, x27, x28, x31, x35, x39 => if x28 = true then ((laws_xSum.f k x25).bind fun t543 => (if (wrap64 ((x27.length : Int) + 1)) = x35 then (if (x39.length : Int) = x35 then ((laws_xSum.f k x39).bind fun t544 => (if t544 = (wrap64 ((wrap64 (x35 * x26)) - t543)) then ((laws_xRises.f k x27).bind fun t545 => (laws_FnLinesStretched.j12 k x26 x27 x31 x39 t543 0 (!t545))) else (laws_FnLinesStretched.j12 k x26 x27 x31 x39 t543 0 true))) else (laws_FnLinesStretched.j12 k x26 x27 x31 x39 t543 0 true)) else (laws_FnLinesStretched.j12 k x26 x27 x31 x39 t543 0 true))) else (some true)
def laws_FnLinesStretched.j12 : Nat → Int → List Int → List Int → List Int → Int → Int → Bool → Option (Bool)
  | 0, _, _, _, _, _, _, _ => none
  | k + 1, x26, x27, x31, x39, x52, x53, x446 => if x446 = true then (some false) else (laws_FnLinesStretched.l4 k x26 x31 x39 x52 x53 x27 (x27.length : Int) 0)
def laws_FnLinesStretched.l4 : Nat → Int → List Int → List Int → Int → Int → List Int → Int → Int → Option (Bool)
  | 0, _, _, _, _, _, _, _, _ => none
  | k + 1, x26, x31, x39, x52, x53, x447, x448, x449 => if x449 < x448 then (if 0 ≤ x449 then (if x449 < (x447.length : Int) then ((laws_xHas.f k x31 (rd x447 x449)).bind fun t547 => (if t547 = true then (if (wrap64 ((rd x447 x449) - x53)) > x26 then (laws_FnLinesStretched.j14 k x26 x31 x39 x52 x53 (rd x447 x449) x447 x448 x449 true) else (if x449 < (x39.length : Int) then (laws_FnLinesStretched.j14 k x26 x31 x39 x52 x53 (rd x447 x449) x447 x448 x449 ((rd x39 x449) != (wrap64 ((wrap64 (x26 - (rd x447 x449))) + x53)))) else (none))) else (laws_FnLinesStretched.j14 k x26 x31 x39 x52 x53 (rd x447 x449) x447 x448 x449 true))) else (none)) else (none)) else (if (wrap64 (x52 - x53)) > x26 then (some false) else (if (wrap64 (x52 - x53)) < 1 then (some false) else (some true)))
def laws_FnLinesStretched.j14 : Nat → Int → List Int → List Int → Int → Int → Int → List Int → Int → Int → Bool → Option (Bool)
  | 0, _, _, _, _, _, _, _, _, _, _ => none
  | k + 1, x26, x31, x39, x52, x53, x55, x447, x448, x449, x476 => if x476 = true then (some false) else (laws_FnLinesStretched.l5 k x26 x31 x39 x52 x53 x55 x447 x448 x449 x31 (x31.length : Int) 0)
def laws_FnLinesStretched.l5 : Nat → Int → List Int → List Int → Int → Int → Int → List Int → Int → Int → List Int → Int → Int → Option (Bool)
  | 0, _, _, _, _, _, _, _, _, _, _, _, _ => none
  | k + 1, x26, x31, x39, x52, x53, x55, x447, x448, x449, x477, x478, x479 => if x479 < x478 then (if 0 ≤ x479 then (if x479 < (x477.length : Int) then (if (rd x477 x479) > x55 then (if (rd x477 x479) ≤ (wrap64 (x53 + x26)) then (some false) else (laws_FnLinesStretched.l5 k x26 x31 x39 x52 x53 x55 x447 x448 x449 x477 x478 (wrap64 (x479 + 1)))) else (laws_FnLinesStretched.l5 k x26 x31 x39 x52 x53 x55 x447 x448 x449 x477 x478 (wrap64 (x479 + 1)))) else (none)) else (none)) else (laws_FnLinesStretched.l4 k x26 x31 x39 x52 x55 x447 x448 (wrap64 (x449 + 1)))
def laws_FnLinesStretched.l2 : Nat → List Int → Int → List Int → Bool → List Int → Int → List Int → Int → Int → List Int → Int → Int → Option (Bool)
  | 0, _, _, _, _, _, _, _, _, _, _, _, _ => none
  | k + 1, x25, x26, x27, x28, x31, x35, x39, x46, x47, x372, x373, x374 => if x374 < x373 then (if 0 ≤ x374 then (if x374 < (x372.length : Int) then (laws_FnLinesStretched.l3 k x25 x26 x27 x28 x31 x35 x39 x46 x47 x374 (rd x372 x374) 1 x372 x373 x374) else (none)) else (none)) else (if x47 = x46 then (laws_FnLinesStretched.j11 k x25 x26 x27 x28 x31 x35 x39) else (some false))
def laws_FnLinesStretched.l3 : Nat → List Int → Int → List Int → Bool → List Int → Int → List Int → Int → Int → Int → Int → Int → List Int → Int → Int → Option (Bool)
  | 0, _, _, _, _, _, _, _, _, _, _, _, _, _, _, _ => none
  | k + 1, x25, x26, x27, x28, x31, x35, x39, x46, x47, x48, x49, x50, x372, x373, x374 => if x50 ≤ x49 then (if x50 = x49 then (if (wrap64 (x48 + 1)) < (x25.length : Int) then ((laws_xHas.f k x31 (wrap64 (x47 + x50))).bind fun t538 => (if (true != t538) = true then (some false) else (laws_FnLinesStretched.l3 k x25 x26 x27 x28 x31 x35 x39 x46 x47 x48 x49 (wrap64 (x50 + 1)) x372 x373 x374))) else (if x50 > 1 then ((laws_xHas.f k x31 (wrap64 (x47 + x50))).bind fun t539 => (if ((decide (x50 < (wrap64 (x49 - 1)))) != t539) = true then (some false) else (laws_FnLinesStretched.l3 k x25 x26 x27 x28 x31 x35 x39 x46 x47 x48 x49 (wrap64 (x50 + 1)) x372 x373 x374))) else ((laws_xHas.f k x31 (wrap64 (x47 + x50))).bind fun t540 => (if (false != t540) = true then (some false) else (laws_FnLinesStretched.l3 k x25 x26 x27 x28 x31 x35 x39 x46 x47 x48 x49 (wrap64 (x50 + 1)) x372 x373 x374))))) else (if x50 > 1 then ((laws_xHas.f k x31 (wrap64 (x47 + x50))).bind fun t541 => (if ((decide (x50 < (wrap64 (x49 - 1)))) != t541) = true then (some false) else (laws_FnLinesStretched.l3 k x25 x26 x27 x28 x31 x35 x39 x46 x47 x48 x49 (wrap64 (x50 + 1)) x372 x373 x374))) else ((laws_xHas.f k x31 (wrap64 (x47 + x50))).bind fun t542 => (if (false != t542) = true then (some false) else (laws_FnLinesStretched.l3 k x25 x26 x27 x28 x31 x35 x39 x46 x47 x48 x49 (wrap64 (x50 + 1)) x372 x373 x374))))) else (laws_FnLinesStretched.l2 k x25 x26 x27 x28 x31 x35 x39 x46 (wrap64 (x47 + x49)) x372 x373 (wrap64 (x374 + 1)))
def laws_FnLinesStretched.l1 : Nat → ByteArray → ByteArray → ByteArray → Int → ByteArray → Bool → List Int → Int → List Int → Bool → List Int → Bool → Int → List Int → Int → Int → Int → Option (Bool)
  | 0, _, _, _, _, _, _, _, _, _, _, _, _, _, _, _, _, _ => none
  | k + 1, x13, x15, x19, x20, x21, x22, x25, x26, x27, x28, x31, x32, x35, x39, x43, x305, x306 => if x305 < x306 then (if bt x15 x305 < 128 then (if x43 < (x13.size : Int) then (if 0 ≤ x305 then (if x305 < (x15.size : Int) then (if 0 ≤ x43 then (laws_FnLinesStretched.j6 k x13 x15 x19 x20 x21 x22 x25 x26 x27 x28 x31 x32 x35 x39 x43 x305 (x305 + 1) x306 ((bt x15 x305) == (bt x13 x43))) else (none)) else (none)) else (none)) else (laws_FnLinesStretched.j6 k x13 x15 x19 x20 x21 x22 x25 x26 x27 x28 x31 x32 x35 x39 x43 x305 (x305 + 1) x306 false)) else (none)) else (if x43 = (x13.size : Int) then (if 0 < (x15.size : Int) then (if (bt x15 0) = 32 then (some false) else (if 0 ≤ (wrap64 ((x15.size : Int) - 1)) then (if (wrap64 ((x15.size : Int) - 1)) < (x15.size : Int) then (if (bt x15 (wrap64 ((x15.size : Int) - 1))) = 32 then (some false) else (laws_FnLinesStretched.j7 k x19 x20 x21 x22 x25 x26 x27 x28 x31 x32 x35 x39)) else (none)) else (none))) else (none)) else (some false))
def laws_FnLinesStretched.j6 : Nat → ByteArray → ByteArray → ByteArray → Int → ByteArray → Bool → List Int → Int → List Int → Bool → List Int → Bool → Int → List Int → Int → Int → Int → Int → Bool → Option (Bool)
  | 0, _, _, _, _, _, _, _, _, _, _, _, _, _, _, _, _, _, _, _ => none
  | k + 1, x13, x15, x19, x20, x21, x22, x25, x26, x27, x28, x31, x32, x35, x39, x43, x44, x305, x306, x321 => if x321 = true then (laws_FnLinesStretched.l1 k x13 x15 x19 x20 x21 x22 x25 x26 x27 x28 x31 x32 x35 x39 (wrap64 (x43 + 1)) x305 x306) else (if 0 ≤ x44 then (if x44 < (x15.size : Int) then (if (bt x15 x44) = 32 then (laws_FnLinesStretched.l1 k x13 x15 x19 x20 x21 x22 x25 x26 x27 x28 x31 x32 x35 x39 x43 x305 x306) else (some false)) else (none)) else (none))
def laws_FnLinesStretched.j1 : Nat → List Int → List Int → Bool → Option (Bool)
  | 0, _, _, _ => none
  | k + 1, x1, x7, x102 => if x102 = true then (some false) else (laws_FnLinesStretched.l0 k x1 x7 x7 (x7.length : Int) 0)
def laws_FnLinesStretched.l0 : Nat → List Int → List Int → List Int → Int → Int → Option (Bool)
  | 0, _, _, _, _, _ => none
  | k + 1, x1, x7, x103, x104, x105 => if x105 < x104 then (if 0 ≤ x105 then (if x105 < (x103.length : Int) then (if (rd x103 x105) < 1 then (some false) else (if 0 < (x7.length : Int) then (if (wrap64 ((rd x7 0) - (rd x103 x105))) > 1 then (some false) else (if x105 > 0 then (if 0 ≤ (wrap64 (x105 - 1)) then (if (wrap64 (x105 - 1)) < (x7.length : Int) then (if (rd x7 (wrap64 (x105 - 1))) < (rd x103 x105) then (some false) else (laws_FnLinesStretched.l0 k x1 x7 x103 x104 (wrap64 (x105 + 1)))) else (none)) else (none)) else (laws_FnLinesStretched.l0 k x1 x7 x103 x104 (wrap64 (x105 + 1))))) else (none))) else (none)) else (none)) else (laws_FnLinesStretched.j3 k x1)
end
def laws_FnLinesStretched.f (k : Nat) (l0 : List Int) (l1 : List Int) : Option (Bool) := (laws_big.f l0 l1).bind fun t469 => (if t469 = true then (some true) else ((spec_DrawStretchSpaces.f k l0).bind fun bt470 => ((impl_StretchSpaces.f k bt470.1 bt470.2).bind fun bt474 => ((spec_StretchSpaces.f k bt470.1 bt470.2).bind fun bt478 => (if (bt474.2 != bt478.2) = true then (laws_FnLinesStretched.j0 k l1 bt470.1 bt470.2 bt474.1 bt474.2 true) else ((laws_xSame.f k bt474.1 bt478.1).bind fun t482 => (laws_FnLinesStretched.j0 k l1 bt470.1 bt470.2 bt474.1 bt474.2 (!t482))))))))
theorem laws_FnLinesStretched.j0_no {k : Nat} {y0 : List Int} {y1 : List Int} {y2 : Int} {y3 : List Int} {y4 : Bool} {r : Bool} (h : laws_FnLinesStretched.j0 k y0 y1 y2 y3 y4 true = some r) (hr : r = true) : False := by
  subst hr
  cases k with
  | zero => simp [laws_FnLinesStretched.j0] at h
  | succ k => simp [laws_FnLinesStretched.j0] at h
theorem laws_FnLinesStretched.j4_no {k : Nat} {y0 : ByteArray} {y1 : Int} {y2 : ByteArray} {y3 : Bool} {y4 : ByteArray} {y5 : Int} {y6 : ByteArray} {y7 : Bool} {y8 : List Int} {y9 : Int} {y10 : List Int} {y11 : Bool} {y12 : List Int} {y13 : Bool} {y14 : Int} {y15 : List Int} {r : Bool} (h : laws_FnLinesStretched.j4 k y0 y1 y2 y3 y4 y5 y6 y7 y8 y9 y10 y11 y12 y13 y14 y15 true = some r) (hr : r = true) : False := by
  subst hr
  cases k with
  | zero => simp [laws_FnLinesStretched.j4] at h
  | succ k => simp [laws_FnLinesStretched.j4] at h
theorem laws_FnLinesStretched.j12_no {k : Nat} {y0 : Int} {y1 : List Int} {y2 : List Int} {y3 : List Int} {y4 : Int} {y5 : Int} {r : Bool} (h : laws_FnLinesStretched.j12 k y0 y1 y2 y3 y4 y5 true = some r) (hr : r = true) : False := by
  subst hr
  cases k with
  | zero => simp [laws_FnLinesStretched.j12] at h
  | succ k => simp [laws_FnLinesStretched.j12] at h
theorem laws_FnLinesStretched.j14_no {k : Nat} {y0 : Int} {y1 : List Int} {y2 : List Int} {y3 : Int} {y4 : Int} {y5 : Int} {y6 : List Int} {y7 : Int} {y8 : Int} {r : Bool} (h : laws_FnLinesStretched.j14 k y0 y1 y2 y3 y4 y5 y6 y7 y8 true = some r) (hr : r = true) : False := by
  subst hr
  cases k with
  | zero => simp [laws_FnLinesStretched.j14] at h
  | succ k => simp [laws_FnLinesStretched.j14] at h
theorem laws_FnLinesStretched.j1_no {k : Nat} {y0 : List Int} {y1 : List Int} {r : Bool} (h : laws_FnLinesStretched.j1 k y0 y1 true = some r) (hr : r = true) : False := by
  subst hr
  cases k with
  | zero => simp [laws_FnLinesStretched.j1] at h
  | succ k => simp [laws_FnLinesStretched.j1] at h
theorem bw_ {B : Nat} {w w' : World} (h : Below B w w' := by repeat (first | (with_reducible first | exact HB.out | apply below_alloc | apply pw_below_drewN | apply below_drew1) | exact HB.out)) : Below B w w' := h
theorem rs_ {p : Prop} (h : p := by first | rfl | (simp; done) | (simp [*]; done)) : p := h
theorem rr_ {p q : Prop} (a : p) (h : p → q := by intro h_; (with_reducible repeat (first | apply Kd.R_alloc | apply Kd.R_drewN | apply Kd.R_drew)); exact h_) : q := h a
theorem cr_ {p q : Prop} (a : p) (h : p → q := by intro h_; repeat (first | exact h_ | (with_reducible refine Kd.C_alloc ?_ _) | (with_reducible refine Kd.C_drewN ?_ _) | (with_reducible refine Kd.C_drew ?_))) : q := h a
theorem dd_ {p : Prop} (h : p := by first | exact ⟨rfl, _, World.drewN_drewN _ _ _⟩ | exact ⟨rfl, _, Eq.trans (World.drewN_drewN _ _ _) (congrArg (World.drewN _) (Nat.add_assoc _ _ _))⟩) : p := h
end Go.Proofs.YtpedlkhfeoeogaaDoor.PFnLinesStretched
