/- strconv.Atoi tells the number of each numeral that an int holds, and an error (some interface value) of every other text, as the library's contracts say. -/
import Derived.Test.YtpedlkhfeoeogaaGreatDoorShelf
import Derived.Test.YtpedlkhfeoeogaaGreatDoorTabC
import Derived.Sort.Grow
import Derived.Test.YtpedlkhfeoeogaaGreatDoorWWords
import Derived.Shelf.Strconv.AtoiAll
import Derived.Shelf.Strconv.ErrVarAll
namespace Go.Proofs.YtpedlkhfeoeogaaGreatDoor
open Go Go.RowKit
def atoiE (s : ByteArray) : Option Int := match Lib.atoiAll s.data.toList with
  | .ok v => some v
  | _ => none
set_option maxHeartbeats 4000000 in
theorem strconv_Atoi.go (s : ByteArray) (w : World) (hT : TabC w) (hl : s.size ≤ 281474976710656) :
    Calls Tryz.prog 70 #[.string s] w fun e w' => ∃ (n : Int) (ev : Value), e = .returned (.tuple #[.int .i64 n, ev]) ∧ ((atoiE s = some n ∧ ev = .nilIface) ∨ (atoiE s = none ∧ ∃ t p, ev = .iface t p)) ∧ Below w.heap.size w w' := by
  obtain ⟨tS, pS, hS⟩ := hT.errS
  obtain ⟨tR, pR, hR⟩ := hT.errR
  rcases h : Lib.atoiAll s.data.toList with v | _ | _
  · refine (Tryz.strconv_Atoi_ok s (by omega) v h w).mono fun e w' ⟨he, hw⟩ => ⟨v, _, he, Or.inl ⟨by unfold atoiE; rw [h], rfl⟩, ?_⟩
    rcases hw with rfl | ⟨t, rfl⟩
    · exact Below.refl _ _
    · exact Lib.bytesWorld_below _ _ _
  · refine (Any.strconv_Atoi_syntax_var Tryz.laysC172 s hl h tS pS w hS).mono fun e w' ⟨N, he, _, _, hb⟩ => ⟨_, _, he, Or.inr ⟨by unfold atoiE; rw [h], _, _, rfl⟩, hb⟩
  · refine (Tryz.strconv_Atoi_range_var s hl h tR pR w hR).mono fun e w' ⟨N, he, _, _, hb⟩ => ⟨_, _, he, Or.inr ⟨by unfold atoiE; rw [h], _, _, rfl⟩, hb⟩
theorem strconv_Atoi.ok (s : ByteArray) (a : Int) (w : World) (hT : TabC w) (hl : s.size ≤ 281474976710656) (h : atoiE s = some a) :
    Calls Tryz.prog 70 #[.string s] w fun e w' => e = .returned (.tuple #[.int .i64 a, .nilIface]) ∧ Below w.heap.size w w' := by
  refine (strconv_Atoi.go s w hT hl).mono fun e w' ⟨n, ev, he, hc, hb⟩ => ⟨?_, hb⟩
  rcases hc with ⟨h1, h2⟩ | ⟨h1, _⟩
  · rw [h] at h1
    injection h1 with h1
    rw [he, h1, h2]
  · rw [h] at h1; cases h1
theorem strconv_Atoi.err (s : ByteArray) (w : World) (hT : TabC w) (hl : s.size ≤ 281474976710656) (h : atoiE s = none) :
    Calls Tryz.prog 70 #[.string s] w fun e w' => ∃ (n : Int) (t : TypeId) (p : Value), e = .returned (.tuple #[.int .i64 n, .iface t p]) ∧ Below w.heap.size w w' := by
  refine (strconv_Atoi.go s w hT hl).mono fun e w' ⟨n, ev, he, hc, hb⟩ => ?_
  rcases hc with ⟨h1, _⟩ | ⟨_, t, p, h2⟩
  · rw [h] at h1; cases h1
  · exact ⟨n, t, p, by rw [he, h2], hb⟩
theorem strconv_Atoi.any (s : ByteArray) (w : World) (hT : TabC w) (hl : s.size ≤ 281474976710656) :
    Calls Tryz.prog 70 #[.string s] w fun e w' => ∃ (n : Int) (ev : Value), e = .returned (.tuple #[.int .i64 n, ev]) ∧ Below w.heap.size w w' :=
  (strconv_Atoi.go s w hT hl).mono fun _ _ ⟨n, ev, he, _, hb⟩ => ⟨n, ev, he, hb⟩
end Go.Proofs.YtpedlkhfeoeogaaGreatDoor
