-- Printed by a program of this repository (wip/xprint.py), over contracts of its own for what the kit's print does not take. Lean checks it.
import Derived.Test.YtpedlkhfeoeogaaDoorPFnVolumesSplitx0
import Derived.Test.YtpedlkhfeoeogaaDoorPFnVolumesSplitx1
import Derived.Test.YtpedlkhfeoeogaaDoorPFnVolumesSplitx2
import Derived.Test.YtpedlkhfeoeogaaDoorPFnVolumesSplitx3
import Derived.Test.YtpedlkhfeoeogaaDoorPFnVolumesSplitx4
import Derived.Test.YtpedlkhfeoeogaaDoorPFnVolumesSplitx5
import Derived.Test.YtpedlkhfeoeogaaDoorPFnVolumesSplitx6
import Derived.Test.YtpedlkhfeoeogaaDoorPFnVolumesSplitx7
import Derived.Test.YtpedlkhfeoeogaaDoorPFnVolumesSplitx8
import Derived.Test.YtpedlkhfeoeogaaDoorPFnVolumesSplitx9
import Derived.Test.YtpedlkhfeoeogaaDoorPFnVolumesSplitx10
namespace Go.Proofs.YtpedlkhfeoeogaaDoor.PFnVolumesSplit
open Go.RowKit Go.Proofs.YtpedlkhfeoeogaaDoorW.PrintWords Go.Proofs.YtpedlkhfeoeogaaDoorW.PrintLast Go.Proofs.YtpedlkhfeoeogaaDoorW.PrintMore
attribute [local go_sem] max2_int min2_int max_two min_two max_three min_three max_four min_four   -- for this text's walks alone
set_option linter.unusedVariables false
set_option linter.unusedSimpArgs false

/-! ### laws_FnVolumesSplit: function 3 -/
mutual
def laws_FnVolumesSplit.j0 : Nat → List Int → List Int → Int → List Int → Bool → Int → Bool → Option (Bool)
  | 0, _, _, _, _, _, _, _ => none
  | k + 1, x1, x5, x6, x7, x8, x11, x130 => if x130 = true then (some false) else (if x8 = true then (if (x7.length : Int) = x6 then ((laws_xSum.f k x7).bind fun t414 => (laws_FnVolumesSplit.j1 k x1 x5 x6 x7 x11 (t414 != (x5.length : Int)))) else (laws_FnVolumesSplit.j1 k x1 x5 x6 x7 x11 true)) else (laws_FnVolumesSplit.j5 k x1))
def laws_FnVolumesSplit.j5 : Nat → List Int → Option (Bool)
  | 0, _ => none
  | k + 1, x1 => (spec_DrawFewestVolumes.f k x1).bind fun bt426 => ((impl_FewestVolumes.f k bt426.1 bt426.2).bind fun bt430 => ((spec_FewestVolumes.f k bt426.1 bt426.2).bind fun bt432 => ((spec_DrawContentsLine.f x1).bind fun bt434 => ((impl_ContentsLine.f k bt434.1 bt434.2.1 bt434.2.2).bind fun bt437 => ((spec_ContentsLine.f k bt434.1 bt434.2.1 bt434.2.2).bind fun bt439 => ((spec_DrawContentsOf.f k x1).bind fun bt441 => ((impl_ContentsOf.f k bt441.1 bt441.2.1 bt441.2.2.1 bt441.2.2.2).bind fun bt449 => ((spec_ContentsOf.f k bt441.1 bt441.2.1 bt441.2.2.1 bt441.2.2.2).bind fun bt453 => ((spec_DrawRomanOf.f x1).bind fun t457 => ((impl_RomanOf.f t457).bind fun bt458 => ((spec_RomanOf.f k t457).bind fun bt460 => ((impl_LongestRoman.f k t457).bind fun bt462 => ((spec_LongestRoman.f k t457).bind fun bt465 => ((spec_DrawNumberOfRoman.f k x1).bind fun t468 => ((impl_NumberOfRoman.f k t468).bind fun bt469 => ((spec_NumberOfRoman.f k t468).bind fun bt471 => (if (bt430.2 != bt432.2) = true then (laws_FnVolumesSplit.j6 k bt426.1 bt426.2 bt430.1 bt430.2 bt434.1 bt434.2.2 bt437.1 bt437.2 bt441.1 bt441.2.1 bt441.2.2.1 bt441.2.2.2 bt449.1 bt449.2 t457 bt458.1 bt458.2 bt462.1 bt462.2.1 t468 bt469.1 bt469.2 true) else (if bt430.1 = bt432.1 then (if (bt437.2 != bt439.2) = true then (laws_FnVolumesSplit.j6 k bt426.1 bt426.2 bt430.1 bt430.2 bt434.1 bt434.2.2 bt437.1 bt437.2 bt441.1 bt441.2.1 bt441.2.2.1 bt441.2.2.2 bt449.1 bt449.2 t457 bt458.1 bt458.2 bt462.1 bt462.2.1 t468 bt469.1 bt469.2 true) else (if bt437.1.toList = bt439.1.toList then (if (bt449.2 != bt453.2) = true then (laws_FnVolumesSplit.j6 k bt426.1 bt426.2 bt430.1 bt430.2 bt434.1 bt434.2.2 bt437.1 bt437.2 bt441.1 bt441.2.1 bt441.2.2.1 bt441.2.2.2 bt449.1 bt449.2 t457 bt458.1 bt458.2 bt462.1 bt462.2.1 t468 bt469.1 bt469.2 true) else ((laws_xTexts.f k bt449.1 bt453.1).bind fun t473 => (if t473 = true then (if (bt458.2 != bt460.2) = true then (laws_FnVolumesSplit.j6 k bt426.1 bt426.2 bt430.1 bt430.2 bt434.1 bt434.2.2 bt437.1 bt437.2 bt441.1 bt441.2.1 bt441.2.2.1 bt441.2.2.2 bt449.1 bt449.2 t457 bt458.1 bt458.2 bt462.1 bt462.2.1 t468 bt469.1 bt469.2 true) else (if bt458.1.toList = bt460.1.toList then (if (bt462.2.2 != bt465.2.2) = true then (laws_FnVolumesSplit.j6 k bt426.1 bt426.2 bt430.1 bt430.2 bt434.1 bt434.2.2 bt437.1 bt437.2 bt441.1 bt441.2.1 bt441.2.2.1 bt441.2.2.2 bt449.1 bt449.2 t457 bt458.1 bt458.2 bt462.1 bt462.2.1 t468 bt469.1 bt469.2 true) else (if bt462.1 = bt465.1 then (if bt462.2.1 = bt465.2.1 then (if (bt469.2 != bt471.2) = true then (laws_FnVolumesSplit.j6 k bt426.1 bt426.2 bt430.1 bt430.2 bt434.1 bt434.2.2 bt437.1 bt437.2 bt441.1 bt441.2.1 bt441.2.2.1 bt441.2.2.2 bt449.1 bt449.2 t457 bt458.1 bt458.2 bt462.1 bt462.2.1 t468 bt469.1 bt469.2 true) else (if bt469.1 = bt471.1 then (laws_FnVolumesSplit.j6 k bt426.1 bt426.2 bt430.1 bt430.2 bt434.1 bt434.2.2 bt437.1 bt437.2 bt441.1 bt441.2.1 bt441.2.2.1 bt441.2.2.2 bt449.1 bt449.2 t457 bt458.1 bt458.2 bt462.1 bt462.2.1 t468 bt469.1 bt469.2 (bt462.2.2 != bt458.2)) else (laws_FnVolumesSplit.j6 k bt426.1 bt426.2 bt430.1 bt430.2 bt434.1 bt434.2.2 bt437.1 bt437.2 bt441.1 bt441.2.1 bt441.2.2.1 bt441.2.2.2 bt449.1 bt449.2 t457 bt458.1 bt458.2 bt462.1 bt462.2.1 t468 bt469.1 bt469.2 true))) else (laws_FnVolumesSplit.j6 k bt426.1 bt426.2 bt430.1 bt430.2 bt434.1 bt434.2.2 bt437.1 bt437.2 bt441.1 bt441.2.1 bt441.2.2.1 bt441.2.2.2 bt449.1 bt449.2 t457 bt458.1 bt458.2 bt462.1 bt462.2.1 t468 bt469.1 bt469.2 true)) else (laws_FnVolumesSplit.j6 k bt426.1 bt426.2 bt430.1 bt430.2 bt434.1 bt434.2.2 bt437.1 bt437.2 bt441.1 bt441.2.1 bt441.2.2.1 bt441.2.2.2 bt449.1 bt449.2 t457 bt458.1 bt458.2 bt462.1 bt462.2.1 t468 bt469.1 bt469.2 true))) else (laws_FnVolumesSplit.j6 k bt426.1 bt426.2 bt430.1 bt430.2 bt434.1 bt434.2.2 bt437.1 bt437.2 bt441.1 bt441.2.1 bt441.2.2.1 bt441.2.2.2 bt449.1 bt449.2 t457 bt458.1 bt458.2 bt462.1 bt462.2.1 t468 bt469.1 bt469.2 true))) else (laws_FnVolumesSplit.j6 k bt426.1 bt426.2 bt430.1 bt430.2 bt434.1 bt434.2.2 bt437.1 bt437.2 bt441.1 bt441.2.1 bt441.2.2.1 bt441.2.2.2 bt449.1 bt449.2 t457 bt458.1 bt458.2 bt462.1 bt462.2.1 t468 bt469.1 bt469.2 true)))) else (laws_FnVolumesSplit.j6 k bt426.1 bt426.2 bt430.1 bt430.2 bt434.1 bt434.2.2 bt437.1 bt437.2 bt441.1 bt441.2.1 bt441.2.2.1 bt441.2.2.2 bt449.1 bt449.2 t457 bt458.1 bt458.2 bt462.1 bt462.2.1 t468 bt469.1 bt469.2 true))) else (laws_FnVolumesSplit.j6 k bt426.1 bt426.2 bt430.1 bt430.2 bt434.1 bt434.2.2 bt437.1 bt437.2 bt441.1 bt441.2.1 bt441.2.2.1 bt441.2.2.2 bt449.1 bt449.2 t457 bt458.1 bt458.2 bt462.1 bt462.2.1 t468 bt469.1 bt469.2 true)))))))))))))))))))
def laws_FnVolumesSplit.j6 : Nat → List Int → Int → Int → Bool → ByteArray → Int → ByteArray → Bool → List ByteArray → List Int → Bool → Int → List ByteArray → Bool → Int → ByteArray → Bool → Int → Int → ByteArray → Int → Bool → Bool → Option (Bool)
  | 0, _, _, _, _, _, _, _, _, _, _, _, _, _, _, _, _, _, _, _, _, _, _, _ => none
  | k + 1, x24, x25, x26, x27, x30, x32, x33, x34, x37, x38, x39, x40, x41, x42, x45, x46, x47, x50, x51, x56, x57, x58, x379 => if x379 = true then (some false) else (if x27 = true then (if x26 < 1 then (laws_FnVolumesSplit.j7 k x24 x25 x26 x30 x32 x33 x34 x37 x38 x39 x40 x41 x42 x45 x46 x47 x50 x51 x56 x57 x58 true) else (if x26 > (x24.length : Int) then (laws_FnVolumesSplit.j7 k x24 x25 x26 x30 x32 x33 x34 x37 x38 x39 x40 x41 x42 x45 x46 x47 x50 x51 x56 x57 x58 true) else ((laws_xSum.f k x24).bind fun t474 => (laws_FnVolumesSplit.j7 k x24 x25 x26 x30 x32 x33 x34 x37 x38 x39 x40 x41 x42 x45 x46 x47 x50 x51 x56 x57 x58 (decide ((wrap64 (x26 * x25)) < t474)))))) else (laws_FnVolumesSplit.j8 k x30 x32 x33 x34 x37 x38 x39 x40 x41 x42 x45 x46 x47 x50 x51 x56 x57 x58))
def laws_FnVolumesSplit.j8 : Nat → ByteArray → Int → ByteArray → Bool → List ByteArray → List Int → Bool → Int → List ByteArray → Bool → Int → ByteArray → Bool → Int → Int → ByteArray → Int → Bool → Option (Bool)
  | 0, _, _, _, _, _, _, _, _, _, _, _, _, _, _, _, _, _, _ => none
  | k + 1, x30, x32, x33, x34, x37, x38, x39, x40, x41, x42, x45, x46, x47, x50, x51, x56, x57, x58 => if x34 = true then (if (x33.size : Int) = x32 then (if 0 ≤ (x30.size : Int) then (if (x30.size : Int) ≤ (x33.size : Int) then (if (x33.extract 0 ((x30.size : Int) : Int).toNat).toList = x30.toList then (if (x30.size : Int) < (x33.size : Int) then (if (bt x33 (x30.size : Int)) = 32 then (if 0 ≤ (wrap64 ((x30.size : Int) + 1)) then (if (wrap64 ((x30.size : Int) + 1)) < (x33.size : Int) then (laws_FnVolumesSplit.j9 k x37 x38 x39 x40 x41 x42 x45 x46 x47 x50 x51 x56 x57 x58 ((bt x33 (wrap64 ((x30.size : Int) + 1))) != 46)) else (none)) else (none)) else (laws_FnVolumesSplit.j9 k x37 x38 x39 x40 x41 x42 x45 x46 x47 x50 x51 x56 x57 x58 true)) else (none)) else (laws_FnVolumesSplit.j9 k x37 x38 x39 x40 x41 x42 x45 x46 x47 x50 x51 x56 x57 x58 true)) else (none)) else (none)) else (laws_FnVolumesSplit.j9 k x37 x38 x39 x40 x41 x42 x45 x46 x47 x50 x51 x56 x57 x58 true)) else (laws_FnVolumesSplit.j9 k x37 x38 x39 x40 x41 x42 x45 x46 x47 x50 x51 x56 x57 x58 false)
def laws_FnVolumesSplit.j9 : Nat → List ByteArray → List Int → Bool → Int → List ByteArray → Bool → Int → ByteArray → Bool → Int → Int → ByteArray → Int → Bool → Bool → Option (Bool)
  | 0, _, _, _, _, _, _, _, _, _, _, _, _, _, _, _ => none
  | k + 1, x37, x38, x39, x40, x41, x42, x45, x46, x47, x50, x51, x56, x57, x58, x441 => if x441 = true then (some false) else (if x42 = true then ((impl_BeginningsOf.f k x38 x39).bind fun bt477 => (if bt477.2 = true then (laws_FnVolumesSplit.j10 k x37 x40 x41 x45 x46 x47 x50 x51 x56 x57 x58 bt477.1 ((x41.length : Int) != (x37.length : Int))) else (laws_FnVolumesSplit.j10 k x37 x40 x41 x45 x46 x47 x50 x51 x56 x57 x58 bt477.1 true))) else (laws_FnVolumesSplit.j12 k x45 x46 x47 x50 x51 x56 x57 x58))
def laws_FnVolumesSplit.j12 : Nat → Int → ByteArray → Bool → Int → Int → ByteArray → Int → Bool → Option (Bool)
  | 0, _, _, _, _, _, _, _, _ => none
  | k + 1, x45, x46, x47, x50, x51, x56, x57, x58 => if x47 = true then ((impl_NumberOfRoman.f k x46).bind fun bt486 => ((impl_RomanOf.f x50).bind fun bt488 => (if bt486.2 = true then (if bt486.1 = x45 then (if bt488.2 = true then (if (bt488.1.size : Int) = x51 then (if (x46.size : Int) > x51 then (laws_FnVolumesSplit.j13 k x56 x57 x58 true) else (laws_FnVolumesSplit.j13 k x56 x57 x58 (decide (x50 > x45)))) else (laws_FnVolumesSplit.j13 k x56 x57 x58 true)) else (laws_FnVolumesSplit.j13 k x56 x57 x58 true)) else (laws_FnVolumesSplit.j13 k x56 x57 x58 true)) else (laws_FnVolumesSplit.j13 k x56 x57 x58 true)))) else (if x58 = true then ((impl_RomanOf.f x57).bind fun bt492 => (if bt492.2 = true then (some (bt492.1.toList == x56.toList)) else (some false))) else (some true))
def laws_FnVolumesSplit.j13 : Nat → ByteArray → Int → Bool → Bool → Option (Bool)
  | 0, _, _, _, _ => none
  | k + 1, x56, x57, x58, x524 => if x524 = true then (some false) else (if x58 = true then ((impl_RomanOf.f x57).bind fun bt490 => (if bt490.2 = true then (some (bt490.1.toList == x56.toList)) else (some false))) else (some true))
def laws_FnVolumesSplit.j10 : Nat → List ByteArray → Int → List ByteArray → Int → ByteArray → Bool → Int → Int → ByteArray → Int → Bool → List Int → Bool → Option (Bool)
  | 0, _, _, _, _, _, _, _, _, _, _, _, _, _ => none
  | k + 1, x37, x40, x41, x45, x46, x47, x50, x51, x56, x57, x58, x63, x457 => if x457 = true then (some false) else (laws_FnVolumesSplit.l1 k x40 x41 x45 x46 x47 x50 x51 x56 x57 x58 x63 x37 (x37.length : Int) 0)
def laws_FnVolumesSplit.l1 : Nat → Int → List ByteArray → Int → ByteArray → Bool → Int → Int → ByteArray → Int → Bool → List Int → List ByteArray → Int → Int → Option (Bool)
  | 0, _, _, _, _, _, _, _, _, _, _, _, _, _, _ => none
  | k + 1, x40, x41, x45, x46, x47, x50, x51, x56, x57, x58, x63, x458, x459, x460 => if x460 < x459 then (if 0 ≤ x460 then (if x460 < (x458.length : Int) then (if x460 < (x63.length : Int) then ((impl_ContentsLine.f k (rdOf ByteArray.empty x458 x460) (rd x63 x460) x40).bind fun bt483 => (if bt483.2 = true then (if x460 < (x41.length : Int) then (if bt483.1.toList = (rdOf ByteArray.empty x41 x460).toList then (laws_FnVolumesSplit.l1 k x40 x41 x45 x46 x47 x50 x51 x56 x57 x58 x63 x458 x459 (wrap64 (x460 + 1))) else (some false)) else (none)) else (some false))) else (none)) else (none)) else (none)) else (laws_FnVolumesSplit.j12 k x45 x46 x47 x50 x51 x56 x57 x58)
def laws_FnVolumesSplit.j7 : Nat → List Int → Int → Int → ByteArray → Int → ByteArray → Bool → List ByteArray → List Int → Bool → Int → List ByteArray → Bool → Int → ByteArray → Bool → Int → Int → ByteArray → Int → Bool → Bool → Option (Bool)
  | 0, _, _, _, _, _, _, _, _, _, _, _, _, _, _, _, _, _, _, _, _, _, _ => none
  | k + 1, x24, x25, x26, x30, x32, x33, x34, x37, x38, x39, x40, x41, x42, x45, x46, x47, x50, x51, x56, x57, x58, x396 => if x396 = true then (some false) else (if x26 ≤ 5 then ((impl_LeastVolume.f k x24 x26).bind fun bt475 => (if bt475.2 = true then (if bt475.1 > x25 then (some false) else (laws_FnVolumesSplit.j8 k x30 x32 x33 x34 x37 x38 x39 x40 x41 x42 x45 x46 x47 x50 x51 x56 x57 x58)) else (some false))) else (laws_FnVolumesSplit.j8 k x30 x32 x33 x34 x37 x38 x39 x40 x41 x42 x45 x46 x47 x50 x51 x56 x57 x58))
def laws_FnVolumesSplit.j1 : Nat → List Int → List Int → Int → List Int → Int → Bool → Option (Bool)
  | 0, _, _, _, _, _, _ => none
  | k + 1, x1, x5, x6, x7, x11, x142 => if x142 = true then (some false) else (laws_FnVolumesSplit.l0 k x1 x5 x6 x11 0 0 x7 (x7.length : Int) 0)
def laws_FnVolumesSplit.l0 : Nat → List Int → List Int → Int → Int → Int → Int → List Int → Int → Int → Option (Bool)
  | 0, _, _, _, _, _, _, _, _, _ => none
  | k + 1, x1, x5, x6, x11, x15, x16, x143, x144, x145 => if x145 < x144 then (if 0 ≤ x145 then (if x145 < (x143.length : Int) then (if (rd x143 x145) < 1 then (laws_FnVolumesSplit.j3 k x1 x5 x6 x11 x15 x16 (rd x143 x145) x143 x144 x145 true) else (laws_FnVolumesSplit.j3 k x1 x5 x6 x11 x15 x16 (rd x143 x145) x143 x144 x145 (decide ((wrap64 (x15 + (rd x143 x145))) > (x5.length : Int))))) else (none)) else (none)) else ((impl_FewestVolumes.f k x5 x11).bind fun bt421 => (if x16 = x11 then (if bt421.2 = true then (if bt421.1 > x6 then (laws_FnVolumesSplit.j4 k x1 x5 x6 x11 true) else ((laws_xSum.f k x5).bind fun t423 => (laws_FnVolumesSplit.j4 k x1 x5 x6 x11 (decide ((wrap64 (x11 * x6)) < t423))))) else (laws_FnVolumesSplit.j4 k x1 x5 x6 x11 true)) else (laws_FnVolumesSplit.j4 k x1 x5 x6 x11 true)))
def laws_FnVolumesSplit.j3 : Nat → List Int → List Int → Int → Int → Int → Int → Int → List Int → Int → Int → Bool → Option (Bool)
  | 0, _, _, _, _, _, _, _, _, _, _, _ => none
  | k + 1, x1, x5, x6, x11, x15, x16, x18, x143, x144, x145, x158 => if x158 = true then (some false) else (if 0 ≤ x15 then (if x15 ≤ (wrap64 (x15 + x18)) then (if (wrap64 (x15 + x18)) ≤ (x5.length : Int) then ((laws_xSum.f k ((x5.take ((wrap64 (x15 + x18)) : Int).toNat).drop (x15 : Int).toNat)).bind fun t420 => (if t420 > x16 then (laws_FnVolumesSplit.l0 k x1 x5 x6 x11 (wrap64 (x15 + x18)) t420 x143 x144 (wrap64 (x145 + 1))) else (laws_FnVolumesSplit.l0 k x1 x5 x6 x11 (wrap64 (x15 + x18)) x16 x143 x144 (wrap64 (x145 + 1))))) else (none)) else (none)) else (none))
def laws_FnVolumesSplit.j4 : Nat → List Int → List Int → Int → Int → Bool → Option (Bool)
  | 0, _, _, _, _, _ => none
  | k + 1, x1, x5, x6, x11, x199 => if x199 = true then (some false) else (if x11 > 1 then ((impl_FewestVolumes.f k x5 (wrap64 (x11 - 1))).bind fun bt424 => (if bt424.2 = true then (if bt424.1 ≤ x6 then (some false) else (laws_FnVolumesSplit.j5 k x1)) else (laws_FnVolumesSplit.j5 k x1))) else (laws_FnVolumesSplit.j5 k x1))
end
def laws_FnVolumesSplit.f (k : Nat) (l0 : List Int) (l1 : List Int) : Option (Bool) := (laws_big.f l0 l1).bind fun t396 => (if t396 = true then (some true) else ((spec_DrawFirstVolumes.f k l0).bind fun bt397 => ((impl_FirstVolumes.f k bt397.1 bt397.2).bind fun bt401 => ((spec_FirstVolumes.f k bt397.1 bt397.2).bind fun bt405 => ((impl_LeastVolume.f k bt397.1 bt397.2).bind fun bt409 => ((spec_LeastVolume.f k bt397.1 bt397.2).bind fun bt411 => (if (bt401.2 != bt405.2) = true then (laws_FnVolumesSplit.j0 k l1 bt397.1 bt397.2 bt401.1 bt401.2 bt409.1 true) else ((laws_xSame.f k bt401.1 bt405.1).bind fun t413 => (if t413 = true then (if (bt409.2 != bt411.2) = true then (laws_FnVolumesSplit.j0 k l1 bt397.1 bt397.2 bt401.1 bt401.2 bt409.1 true) else (if bt409.1 = bt411.1 then (laws_FnVolumesSplit.j0 k l1 bt397.1 bt397.2 bt401.1 bt401.2 bt409.1 (bt409.2 != bt401.2)) else (laws_FnVolumesSplit.j0 k l1 bt397.1 bt397.2 bt401.1 bt401.2 bt409.1 true))) else (laws_FnVolumesSplit.j0 k l1 bt397.1 bt397.2 bt401.1 bt401.2 bt409.1 true))))))))))
theorem laws_FnVolumesSplit.j0_no {k : Nat} {y0 : List Int} {y1 : List Int} {y2 : Int} {y3 : List Int} {y4 : Bool} {y5 : Int} {r : Bool} (h : laws_FnVolumesSplit.j0 k y0 y1 y2 y3 y4 y5 true = some r) (hr : r = true) : False := by
  subst hr
  cases k with
  | zero => simp [laws_FnVolumesSplit.j0] at h
  | succ k => simp [laws_FnVolumesSplit.j0] at h
theorem laws_FnVolumesSplit.j6_no {k : Nat} {y0 : List Int} {y1 : Int} {y2 : Int} {y3 : Bool} {y4 : ByteArray} {y5 : Int} {y6 : ByteArray} {y7 : Bool} {y8 : List ByteArray} {y9 : List Int} {y10 : Bool} {y11 : Int} {y12 : List ByteArray} {y13 : Bool} {y14 : Int} {y15 : ByteArray} {y16 : Bool} {y17 : Int} {y18 : Int} {y19 : ByteArray} {y20 : Int} {y21 : Bool} {r : Bool} (h : laws_FnVolumesSplit.j6 k y0 y1 y2 y3 y4 y5 y6 y7 y8 y9 y10 y11 y12 y13 y14 y15 y16 y17 y18 y19 y20 y21 true = some r) (hr : r = true) : False := by
  subst hr
  cases k with
  | zero => simp [laws_FnVolumesSplit.j6] at h
  | succ k => simp [laws_FnVolumesSplit.j6] at h
theorem laws_FnVolumesSplit.j9_no {k : Nat} {y0 : List ByteArray} {y1 : List Int} {y2 : Bool} {y3 : Int} {y4 : List ByteArray} {y5 : Bool} {y6 : Int} {y7 : ByteArray} {y8 : Bool} {y9 : Int} {y10 : Int} {y11 : ByteArray} {y12 : Int} {y13 : Bool} {r : Bool} (h : laws_FnVolumesSplit.j9 k y0 y1 y2 y3 y4 y5 y6 y7 y8 y9 y10 y11 y12 y13 true = some r) (hr : r = true) : False := by
  subst hr
  cases k with
  | zero => simp [laws_FnVolumesSplit.j9] at h
  | succ k => simp [laws_FnVolumesSplit.j9] at h
theorem laws_FnVolumesSplit.j13_no {k : Nat} {y0 : ByteArray} {y1 : Int} {y2 : Bool} {r : Bool} (h : laws_FnVolumesSplit.j13 k y0 y1 y2 true = some r) (hr : r = true) : False := by
  subst hr
  cases k with
  | zero => simp [laws_FnVolumesSplit.j13] at h
  | succ k => simp [laws_FnVolumesSplit.j13] at h
theorem laws_FnVolumesSplit.j10_no {k : Nat} {y0 : List ByteArray} {y1 : Int} {y2 : List ByteArray} {y3 : Int} {y4 : ByteArray} {y5 : Bool} {y6 : Int} {y7 : Int} {y8 : ByteArray} {y9 : Int} {y10 : Bool} {y11 : List Int} {r : Bool} (h : laws_FnVolumesSplit.j10 k y0 y1 y2 y3 y4 y5 y6 y7 y8 y9 y10 y11 true = some r) (hr : r = true) : False := by
  subst hr
  cases k with
  | zero => simp [laws_FnVolumesSplit.j10] at h
  | succ k => simp [laws_FnVolumesSplit.j10] at h
theorem laws_FnVolumesSplit.j7_no {k : Nat} {y0 : List Int} {y1 : Int} {y2 : Int} {y3 : ByteArray} {y4 : Int} {y5 : ByteArray} {y6 : Bool} {y7 : List ByteArray} {y8 : List Int} {y9 : Bool} {y10 : Int} {y11 : List ByteArray} {y12 : Bool} {y13 : Int} {y14 : ByteArray} {y15 : Bool} {y16 : Int} {y17 : Int} {y18 : ByteArray} {y19 : Int} {y20 : Bool} {r : Bool} (h : laws_FnVolumesSplit.j7 k y0 y1 y2 y3 y4 y5 y6 y7 y8 y9 y10 y11 y12 y13 y14 y15 y16 y17 y18 y19 y20 true = some r) (hr : r = true) : False := by
  subst hr
  cases k with
  | zero => simp [laws_FnVolumesSplit.j7] at h
  | succ k => simp [laws_FnVolumesSplit.j7] at h
theorem laws_FnVolumesSplit.j1_no {k : Nat} {y0 : List Int} {y1 : List Int} {y2 : Int} {y3 : List Int} {y4 : Int} {r : Bool} (h : laws_FnVolumesSplit.j1 k y0 y1 y2 y3 y4 true = some r) (hr : r = true) : False := by
  subst hr
  cases k with
  | zero => simp [laws_FnVolumesSplit.j1] at h
  | succ k => simp [laws_FnVolumesSplit.j1] at h
theorem laws_FnVolumesSplit.j3_no {k : Nat} {y0 : List Int} {y1 : List Int} {y2 : Int} {y3 : Int} {y4 : Int} {y5 : Int} {y6 : Int} {y7 : List Int} {y8 : Int} {y9 : Int} {r : Bool} (h : laws_FnVolumesSplit.j3 k y0 y1 y2 y3 y4 y5 y6 y7 y8 y9 true = some r) (hr : r = true) : False := by
  subst hr
  cases k with
  | zero => simp [laws_FnVolumesSplit.j3] at h
  | succ k => simp [laws_FnVolumesSplit.j3] at h
theorem laws_FnVolumesSplit.j4_no {k : Nat} {y0 : List Int} {y1 : List Int} {y2 : Int} {y3 : Int} {r : Bool} (h : laws_FnVolumesSplit.j4 k y0 y1 y2 y3 true = some r) (hr : r = true) : False := by
  subst hr
  cases k with
  | zero => simp [laws_FnVolumesSplit.j4] at h
  | succ k => simp [laws_FnVolumesSplit.j4] at h
theorem bx2_ {a b : Bool} (h : (a != (!b)) = false) : (a == (!b)) = true ∧ decide (a = (!b)) = true := by cases a <;> cases b <;> simp_all
end Go.Proofs.YtpedlkhfeoeogaaDoor.PFnVolumesSplit
