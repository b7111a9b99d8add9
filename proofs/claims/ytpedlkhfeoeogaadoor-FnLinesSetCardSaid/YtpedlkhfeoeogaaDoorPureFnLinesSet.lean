/- The law FnLinesSet holds for every two byte slices: filled lines are the fewest and take all words, no lines have less than the least cost, lines that fit are counted, and texts are set in lines of their words. No condition but what the card lists. -/
import Derived.Test.YtpedlkhfeoeogaaDoorPFnLinesSetx22
import Derived.Laws.Bits64b
namespace Go.Proofs.YtpedlkhfeoeogaaDoor.Pure
open Go.RowKit Go.Proofs.YtpedlkhfeoeogaaDoor.Own Go.Proofs.YtpedlkhfeoeogaaDoor.Own.St Go.Proofs.YtpedlkhfeoeogaaDoor.PLnB Go.Proofs.YtpedlkhfeoeogaaDoor.PFnLinesSet Go.Proofs.YtpedlkhfeoeogaaDoorW.PrintWords Go.Proofs.YtpedlkhfeoeogaaDoorW.PrintLast

/-! ### Texts as lists of bytes -/
def mkB (l : List UInt8) : ByteArray := ⟨l.toArray⟩
theorem mkB_data (l : List UInt8) : (mkB l).data.toList = l := by simp [mkB]
theorem mkB_size (l : List UInt8) : (mkB l).size = l.length := by simp [mkB, ByteArray.size]
theorem mkB_eq (s : ByteArray) : mkB s.data.toList = s := by cases s; simp [mkB]
theorem mkB_append (a b : List UInt8) : mkB a ++ mkB b = mkB (a ++ b) := by
 apply ByteArray.ext
 simp [mkB, ByteArray.data_append]
theorem mkB_drop (l : List UInt8) (i : Nat) : (mkB l).extract i (mkB l).size = mkB (l.drop i) := by
 apply ByteArray.ext
 apply Array.toList_inj.1
 rw [mkB_size]
 simp only [mkB, ByteArray.data_extract, List.extract_toArray, List.extract_eq_take_drop]
 rw [List.take_of_length_le (by rw [List.length_drop]; exact Nat.le_refl _)]
theorem mkB_slice (l : List UInt8) (i j : Nat) : (mkB l).extract i j = mkB ((l.take j).drop i) := by
 apply ByteArray.ext
 apply Array.toList_inj.1
 simp [mkB, ByteArray.data_extract, List.drop_take]
theorem mkB_nums (xs : List Int) : strOfNums xs = mkB (xs.map fun n => UInt8.ofNat n.toNat) := rfl
theorem mkB_inj {a b : List UInt8} (h : mkB a = mkB b) : a = b := by
 have := congrArg (fun s => s.data.toList) h
 simpa [mkB] using this
theorem bt_mkB {l : List UInt8} {i : Nat} {x : UInt8} {xs : List UInt8} (h : l.drop i = x :: xs) : bt (mkB l) (i : Int) = (x.toNat : Int) := by
 have hl : i < l.length := by
  rcases Nat.lt_or_ge i l.length with g | g
  ·exact g
  ·rw [List.drop_eq_nil_iff.2 g] at h; cases h
 have e : l[i] = x := by
  have := List.drop_eq_getElem_cons hl
  rw [h] at this
  injection this with h1 _
  exact h1.symm
 have hs : (i : Int).toNat < (mkB l).size := by rw [Int.toNat_natCast, mkB_size]; exact hl
 rw [← bt_at _ _ hs, ← e]
 rfl
theorem drop_step {α : Type} {l : List α} {i : Nat} {x : α} {xs : List α} (h : l.drop i = x :: xs) : i < l.length ∧ l.drop (i + 1) = xs := by
 have hl : i < l.length := by
  rcases Nat.lt_or_ge i l.length with g | g
  ·exact g
  ·rw [List.drop_eq_nil_iff.2 g] at h; cases h
 have := List.drop_eq_getElem_cons hl
 rw [h] at this
 injection this with _ h2
 exact ⟨hl, h2.symm⟩

def headOn (x : UInt8) : List (List UInt8) → List (List UInt8)
 | p :: ps => (x :: p) :: ps
 | [] => [[x]]
/-- The parts of a text between a byte's places. -/
def parts (c : UInt8) : List UInt8 → List (List UInt8)
 | [] => [[]]
 | x :: xs => if x = c then [] :: parts c xs else headOn x (parts c xs)
def glue (cur : List UInt8) : List (List UInt8) → List (List UInt8)
 | p :: ps => (cur ++ p) :: ps
 | [] => [cur]
theorem headOn_length (x : UInt8) (ps : List (List UInt8)) (h : ps ≠ []) : (headOn x ps).length = ps.length := by
 cases ps with
 | nil => exact absurd rfl h
 | cons p ps => rfl
theorem parts_ne (c : UInt8) (l : List UInt8) : parts c l ≠ [] := by
 cases l with
 | nil => simp [parts]
 | cons x xs =>
  rw [parts]
  split
  ·simp
  ·cases parts c xs <;> simp [headOn]
theorem parts_length (c : UInt8) : ∀ (l : List UInt8), (parts c l).length ≤ l.length + 1
 | [] => by simp [parts]
 | x :: xs => by
  have := parts_length c xs
  rw [parts]
  split
  ·simp only [List.length_cons]; omega
  ·rw [headOn_length x _ (parts_ne c xs)]; simp only [List.length_cons]; omega
theorem parts_part_len (c : UInt8) : ∀ (l : List UInt8), ∀ p ∈ parts c l, p.length ≤ l.length
 | [], p, h => by simp [parts] at h; subst h; simp
 | x :: xs, p, h => by
  rw [parts] at h
  split at h
  ·rcases List.mem_cons.1 h with rfl | h
   ·simp
   ·have := parts_part_len c xs p h; simp only [List.length_cons]; omega
  ·have hne := parts_ne c xs
   rcases hp : parts c xs with _ | ⟨q, qs⟩
   ·exact absurd hp hne
   ·rw [hp] at h
    rcases List.mem_cons.1 h with rfl | h
    ·have := parts_part_len c xs q (by rw [hp]; exact List.mem_cons_self)
     simp only [List.length_cons]; omega
    ·have := parts_part_len c xs p (by rw [hp]; exact List.mem_cons_of_mem _ h)
     simp only [List.length_cons]; omega
theorem glue_nil (ps : List (List UInt8)) (h : ps ≠ []) : glue [] ps = ps := by
 cases ps with
 | nil => exact absurd rfl h
 | cons p ps => rfl
theorem glue_head (cur : List UInt8) (x : UInt8) (ps : List (List UInt8)) : glue (cur ++ [x]) ps = glue cur (headOn x ps) := by
 cases ps with
 | nil => rfl
 | cons p ps => simp [glue, headOn]

theorem index_cons_ (x c : UInt8) (xs : List UInt8) (h : x ≠ c) : Lib.index (x :: xs) [c] = if Lib.index xs [c] == -1 then -1 else Lib.index xs [c] + 1 := by
 have hp : ([c] : List UInt8).isPrefixOf (x :: xs) = false := by simp [List.isPrefixOf, Ne.symm h]
 rw [Lib.index, hp]; simp
theorem index_head_ (c : UInt8) (xs : List UInt8) : Lib.index (c :: xs) [c] = 0 := by rw [Lib.index]; simp [List.isPrefixOf]
theorem splitK_parts (c : UInt8) : ∀ (l : List UInt8) (k : Nat), l.count c ≤ k → Lib.splitK [c] 0 k l = parts c l := by
 intro l
 induction l with
 | nil =>
  intro k _
  cases k with
  | zero => rfl
  | succ k => unfold Lib.splitK; rw [if_pos (by simp [Lib.index])]; rfl
 | cons x xs ih =>
  intro k hk
  by_cases h : x = c
  ·subst h
   rw [List.count_cons_self] at hk
   cases k with
   | zero => omega
   | succ k =>
    unfold Lib.splitK
    rw [index_head_, if_neg (by simp), parts, if_pos rfl]
    simp only [Int.toNat_zero, Nat.zero_add, List.take_zero, List.length_cons, List.length_nil, List.drop_succ_cons, List.drop_zero]
    rw [ih k (by omega)]
  ·rw [List.count_cons_of_ne (by simpa using h)] at hk
   rw [parts, if_neg h, ← ih k hk]
   cases k with
   | zero => rfl
   | succ k =>
    unfold Lib.splitK
    rw [index_cons_ x c xs h]
    by_cases m : Lib.index xs [c] = -1
    ·rw [if_pos (by rw [m]; simp), if_pos (by rw [m]; simp)]; rfl
    ·have hge := Lib.index_ge xs [c]
     obtain ⟨j, hj⟩ : ∃ j : Nat, Lib.index xs [c] = j := ⟨(Lib.index xs [c]).toNat, by omega⟩
     have n1 : ((j : Int) == -1) = false := by simp
     have n2 : (((j : Int) + 1) == -1) = false := by simp; omega
     have t1 : ((j : Int) + 1).toNat = j + 1 := by omega
     rw [hj, n1]
     simp only [Bool.false_eq_true, if_false]
     rw [n2]
     simp only [Bool.false_eq_true, if_false, t1, Int.toNat_natCast, Nat.add_zero, List.length_cons, List.length_nil]
     rfl
theorem splitB_parts (c : UInt8) (l : List UInt8) : splitB (mkB l) (mkB [c]) = (parts c l).map mkB := by
 have h1 := Lib.splitB_data (mkB [c]) 0 (Lib.countB (mkB l) (mkB [c])) (mkB l)
 have h2 : Lib.countB (mkB l) (mkB [c]) = l.count c := by
  show Lib.count _ _ = _
  rw [mkB_data, mkB_data, Lib.count_one]
 rw [mkB_data, mkB_data, h2, splitK_parts c l _ (Nat.le_refl _)] at h1
 unfold splitB
 rw [h2]
 have h3 : (parts c l).map mkB = ((Lib.splitB (mkB [c]) 0 (l.count c) (mkB l)).map (·.data.toList)).map mkB := by rw [h1]
 rw [h3, List.map_map]
 have : (mkB ∘ fun x : ByteArray => x.data.toList) = id := by funext x; exact mkB_eq x
 rw [this, List.map_id]
theorem split_eq (c : UInt8) (l : List UInt8) (hl : l.length ≤ 4294967280) : strings_Split.f (mkB l) (mkB [c]) = some ((parts c l).map mkB) := by
 unfold strings_Split.f
 rw [if_pos (by rw [mkB_size]; exact hl), if_pos (by rw [mkB_size]; simp), splitB_parts]

def plainB (b : UInt8) : Bool := decide (32 ≤ b.toNat ∧ b.toNat ≤ 126)
theorem plain_lt {x : UInt8} (h : ¬ ((x.toNat : Int) < 32)) (h2 : ¬ ((x.toNat : Int) > 126)) : plainB x = true := by
 unfold plainB; rw [decide_eq_true_eq]; omega
theorem plain_not1 {x : UInt8} (h : (x.toNat : Int) < 32) : plainB x = false := by
 unfold plainB; rw [decide_eq_false_iff_not]; omega
theorem plain_not2 {x : UInt8} (h : (x.toNat : Int) > 126) : plainB x = false := by
 unfold plainB; rw [decide_eq_false_iff_not]; omega
/-- No part is empty; p: stands the byte ahead (or the begin). -/
def fullP (c : UInt8) : Bool → List UInt8 → Bool
 | p, [] => !p
 | p, x :: xs => if x = c then !p && fullP c true xs else fullP c false xs
theorem fullP_iff (c : UInt8) : ∀ (l : List UInt8), (fullP c true l = true ↔ [] ∉ parts c l) ∧ (fullP c false l = true ↔ [] ∉ (parts c l).tail)
 | [] => by simp [fullP, parts]
 | x :: xs => by
  obtain ⟨h1, h2⟩ := fullP_iff c xs
  by_cases e : x = c
  ·subst e
   simp only [fullP, parts, if_true]
   exact ⟨by simp, by simpa using h1⟩
  ·simp only [fullP, parts, if_neg e]
   rcases hp : parts c xs with _ | ⟨q, qs⟩
   ·exact absurd hp (parts_ne c xs)
   ·rw [hp] at h2
    simp only [headOn, List.tail_cons] at h2 ⊢
    exact ⟨by simpa using h2, h2⟩
def dblP (c : UInt8) : Bool → List UInt8 → Bool
 | _, [] => true
 | p, x :: xs => if x = c then !p && dblP c true xs else dblP c false xs
def endP (c : UInt8) : Bool → List UInt8 → Bool
 | p, [] => !p
 | _, x :: xs => endP c (decide (x = c)) xs
theorem fullP_eq (c : UInt8) : ∀ (l : List UInt8) (p : Bool), fullP c p l = (dblP c p l && endP c p l)
 | [], p => by simp [fullP, dblP, endP]
 | x :: xs, p => by
  by_cases e : x = c
  ·simp [fullP, dblP, endP, e, fullP_eq c xs, Bool.and_assoc]
  ·simp [fullP, dblP, endP, e, fullP_eq c xs]
def textOk (l : List UInt8) : Bool := decide (1 ≤ l.length ∧ l.length ≤ 200) && (l.all plainB && fullP 32 true l)
theorem textOk_true {l : List UInt8} (h : textOk l = true) : 1 ≤ l.length ∧ l.length ≤ 200 ∧ fullP 32 true l = true := by
 simp only [textOk, Bool.and_eq_true, decide_eq_true_eq] at h
 exact ⟨h.1.1, h.1.2, h.2.2⟩
theorem endP_last (c : UInt8) : ∀ (l : List UInt8) (p : Bool) (y : UInt8), l.drop (l.length - 1) = [y] → endP c p l = decide (y ≠ c)
 | [], p, y, h => by simp at h
 | [x], p, y, h => by simp at h; subst h; simp [endP]
 | x :: z :: zs, p, y, h => by
  rw [endP]
  refine endP_last c (z :: zs) _ y ?_
  simp only [List.length_cons] at h ⊢
  rw [show zs.length + 1 + 1 - 1 = (zs.length + 1 - 1) + 1 from by omega, List.drop_succ_cons] at h
  exact h
theorem toNat32 (y : UInt8) : ((y.toNat : Int) = 32) ↔ y = 32 := by
 constructor
 ·intro h
  exact UInt8.toNat_inj.1 (by show y.toNat = 32; omega)
 ·intro h; subst h; rfl
theorem lnText_l (l : List UInt8) (hl : l.length ≤ 1048576) : ∀ (ys : List UInt8) (i : Nat) (p : Bool), l.drop i = ys → (i = 0 → p = false ∧ ∀ y zs, ys = y :: zs → y ≠ 32) → (∀ z zs, 0 < i → l.drop (i - 1) = z :: zs → p = decide (z = 32)) →
  Ev (fun k => spec_lnText.l0 k (mkB l) (i : Int)) (ys.all plainB && dblP 32 p ys) := by
 intro ys
 induction ys with
 | nil =>
  intro i p h _ _
  have := List.drop_eq_nil_iff.1 h
  refine Ev.step (fun k => spec_lnText.l0.eq_2 ..) ?_
  exact ev_neg (by rw [mkB_size]; omega) (ev_now (by simp [dblP]))
 | cons y ys ih =>
  intro i p h h0 hp
  obtain ⟨g1, g2⟩ := drop_step h
  refine Ev.step (fun k => spec_lnText.l0.eq_2 ..) ?_
  rw [bt_mkB h, mkB_size, w64 (x := (i : Int) + 1) (by omega) (by omega), w64 (x := (i : Int) - 1) (by omega) (by omega)]
  refine ev_pos (by omega) (ev_pos (by omega) ?_)
  by_cases c1 : (y.toNat : Int) < 32
  ·exact ev_pos c1 (ev_now (by rw [List.all_cons, plain_not1 c1, Bool.false_and, Bool.false_and]))
  by_cases c2 : (y.toNat : Int) > 126
  ·exact ev_neg c1 (ev_pos c2 (ev_now (by rw [List.all_cons, plain_not2 c2, Bool.false_and, Bool.false_and])))
  refine ev_neg c1 (ev_neg c2 ?_)
  have hn := ih (i + 1) (decide (y = 32)) g2 (fun e => by omega) (fun z zs _ hz => by rw [show i + 1 - 1 = i from by omega, h] at hz; injection hz with a _; rw [a])
  rw [show ((i + 1 : Nat) : Int) = (i : Int) + 1 from by omega] at hn
  by_cases c3 : y = 32
  ·have hi : 0 < i := by
    rcases Nat.eq_zero_or_pos i with z | z
    ·exact absurd c3 ((h0 z).2 y ys rfl)
    ·exact z
   obtain ⟨z, zs, hz⟩ : ∃ z zs, l.drop (i - 1) = z :: zs := by
    rcases hd : l.drop (i - 1) with _ | ⟨z, zs⟩
    ·have := List.drop_eq_nil_iff.1 hd; omega
    ·exact ⟨z, zs, rfl⟩
   have hpz := hp z zs hi hz
   have hb : bt (mkB l) ((i : Int) - 1) = (z.toNat : Int) := by rw [show (i : Int) - 1 = ((i - 1 : Nat) : Int) from by omega]; exact bt_mkB hz
   rw [hb]
   refine ev_pos ((toNat32 y).2 c3) (ev_pos (by omega) (ev_pos (by omega) ?_))
   by_cases c4 : z = 32
   ·refine ev_pos ((toNat32 z).2 c4) (ev_now ?_)
    rw [dblP, if_pos c3, hpz, decide_eq_true c4]; simp
   ·refine ev_neg (fun q => c4 ((toNat32 z).1 q)) (ev_val hn ?_)
    rw [List.all_cons, plain_lt c1 c2, Bool.true_and, dblP, if_pos c3, hpz, decide_eq_false c4, decide_eq_true c3]; simp
  ·refine ev_neg (fun q => c3 ((toNat32 y).1 q)) (ev_val hn ?_)
   rw [List.all_cons, plain_lt c1 c2, Bool.true_and, dblP, if_neg c3, decide_eq_false c3]
theorem lnText_ev (l : List UInt8) (hl : l.length ≤ 1048576) : Ev (fun k => spec_lnText.f k (mkB l)) (textOk l) := by
 unfold spec_lnText.f
 rw [mkB_size]
 refine ev_some (l1In_eq ..) ?_
 by_cases h : 1 ≤ (l.length : Int) ∧ (l.length : Int) ≤ 200
 ·have e : (1 ≤ l.length ∧ l.length ≤ 200) := by omega
  refine ev_pos (decide_eq_true h) (ev_pos (by omega) ?_)
  obtain ⟨x, xs, hx⟩ : ∃ x xs, l = x :: xs := by
   rcases l with _ | ⟨x, xs⟩
   ·simp at e
   ·exact ⟨x, xs, rfl⟩
  have hd0 : l.drop 0 = x :: xs := by rw [List.drop_zero, hx]
  have hb0 : bt (mkB l) 0 = (x.toNat : Int) := bt_mkB (i := 0) hd0
  obtain ⟨y, hy⟩ : ∃ y, l.drop (l.length - 1) = [y] := by
   have hlen : (l.drop (l.length - 1)).length = 1 := by rw [List.length_drop]; omega
   rcases hd : l.drop (l.length - 1) with _ | ⟨y, ys⟩
   ·rw [hd] at hlen; simp at hlen
   ·rw [hd] at hlen; simp at hlen; rw [hlen]; exact ⟨y, rfl⟩
  have hb1 : bt (mkB l) ((l.length : Int) - 1) = (y.toNat : Int) := by rw [show (l.length : Int) - 1 = ((l.length - 1 : Nat) : Int) from by omega]; exact bt_mkB hy
  rw [w64 (x := (l.length : Int) - 1) (by omega) (by omega), hb0, hb1]
  have hfull := fullP_eq 32 l true
  have hend := endP_last 32 l true y hy
  by_cases c1 : x = 32
  ·refine ev_pos ((toNat32 x).2 c1) (Ev.step (fun k => spec_lnText.j0.eq_2 ..) (ev_pos rfl (ev_now ?_)))
   unfold textOk
   have : dblP 32 true l = false := by rw [hx, dblP, if_pos c1]; rfl
   rw [hfull, this]; simp
  ·refine ev_neg (fun q => c1 ((toNat32 x).1 q)) (ev_pos (by omega) (ev_pos (by omega) (Ev.step (fun k => spec_lnText.j0.eq_2 ..) ?_)))
   by_cases c2 : y = 32
   ·refine ev_pos (by rw [beq_iff_eq]; exact (toNat32 y).2 c2) (ev_now ?_)
    unfold textOk
    have q1 : decide (y ≠ 32) = false := decide_eq_false (fun z => z c2)
    rw [hfull, hend, q1]; simp
   ·refine ev_neg (by rw [beq_iff_eq]; exact fun q => c2 ((toNat32 y).1 q)) ?_
    refine ev_val (lnText_l l hl l 0 false rfl (fun _ => ⟨rfl, fun a b hab => by rw [hx] at hab; injection hab with q _; rw [← q]; exact c1⟩) (fun _ _ z => by omega)) ?_
    unfold textOk
    have hdd : dblP 32 true l = dblP 32 false l := by rw [hx, dblP, dblP, if_neg c1, if_neg c1]
    have q1 : decide (y ≠ 32) = true := decide_eq_true c2
    rw [decide_eq_true e, Bool.true_and, hfull, hend, hdd, q1, Bool.and_true]
 ·have e : ¬ (1 ≤ l.length ∧ l.length ≤ 200) := by omega
  refine ev_neg (by rw [decide_eq_false h]; simp) (Ev.step (fun k => spec_lnText.j0.eq_2 ..) (ev_pos rfl (ev_now ?_)))
  unfold textOk
  rw [decide_eq_false e, Bool.false_and]
theorem isText_end (l : List UInt8) (hl : l.length ≤ 1048576) : Ev (fun _ => (impl_within.f ((mkB l).size : Int) 1 200).bind fun t105 => (if t105 = true then ((strings_Split.f (mkB l) (⟨#[32]⟩ : ByteArray)).bind fun t106 => ((slices_Contains_string_string.f t106 (⟨#[]⟩ : ByteArray)).bind fun t109 => (some (!t109)))) else (some false))) (decide (1 ≤ l.length ∧ l.length ≤ 200) && fullP 32 true l) := by
 rw [mkB_size]
 refine ev_some (within_eq ..) ?_
 by_cases h : 1 ≤ (l.length : Int) ∧ (l.length : Int) ≤ 200
 ·have e : (1 ≤ l.length ∧ l.length ≤ 200) := by omega
  refine ev_pos (decide_eq_true h) (ev_some (split_eq 32 l (by omega)) (ev_some rfl (ev_now ?_)))
  rw [decide_eq_true e, Bool.true_and]
  have hc : Lib.containsS ((parts 32 l).map mkB) (⟨#[]⟩ : ByteArray) = decide ([] ∈ parts 32 l) := by
   rw [Bool.eq_iff_iff, Lib.containsS_iff, decide_eq_true_eq]
   have e0 : (⟨#[]⟩ : ByteArray) = mkB [] := rfl
   rw [e0]
   constructor
   ·intro hm
    obtain ⟨q, hq, hqe⟩ := List.mem_map.1 hm
    rw [← mkB_inj hqe]; exact hq
   ·intro hm
    exact List.mem_map.2 ⟨[], hm, rfl⟩
  rw [hc]
  have := (fullP_iff 32 l).1
  rw [Bool.eq_iff_iff, this]
  simp
 ·have e : ¬ (1 ≤ l.length ∧ l.length ≤ 200) := by omega
  refine ev_neg (by rw [decide_eq_false h]; simp) (ev_now ?_)
  rw [decide_eq_false e, Bool.false_and]
theorem isText_l (l : List UInt8) (hl : l.length ≤ 1048576) : ∀ (ys : List UInt8) (i : Nat), l.drop i = ys →
  Ev (fun k => impl_isText.l0 k (mkB l) (l.length : Int) (i : Int)) (decide (1 ≤ l.length ∧ l.length ≤ 200) && (ys.all plainB && fullP 32 true l)) := by
 intro ys
 induction ys with
 | nil =>
  intro i h
  have := List.drop_eq_nil_iff.1 h
  refine Ev.step (fun k => impl_isText.l0.eq_2 ..) ?_
  exact ev_neg (by omega) (ev_val (isText_end l hl) (by simp))
 | cons y ys ih =>
  intro i h
  obtain ⟨g1, g2⟩ := drop_step h
  refine Ev.step (fun k => impl_isText.l0.eq_2 ..) ?_
  rw [bt_mkB h, w64 (x := (i : Int) + 1) (by omega) (by omega)]
  refine ev_pos (by omega) (ev_pos (by omega) (ev_pos (by rw [mkB_size]; omega) ?_))
  by_cases c1 : (y.toNat : Int) < 32
  ·exact ev_pos c1 (ev_now (by rw [List.all_cons, plain_not1 c1]; simp))
  by_cases c2 : (y.toNat : Int) > 126
  ·exact ev_neg c1 (ev_pos c2 (ev_now (by rw [List.all_cons, plain_not2 c2]; simp)))
  have := ih (i + 1) g2
  rw [show ((i + 1 : Nat) : Int) = (i : Int) + 1 from by omega] at this
  exact ev_neg c1 (ev_neg c2 (ev_val this (by rw [List.all_cons, plain_lt c1 c2, Bool.true_and])))
theorem isText_ev (l : List UInt8) (hl : l.length ≤ 1048576) : Ev (fun k => impl_isText.f k (mkB l)) (textOk l) := by
 unfold impl_isText.f textOk
 rw [mkB_size]
 exact isText_l l hl l 0 rfl

theorem l1Split_l (c : UInt8) (l : List UInt8) (hl : l.length ≤ 2000000) : ∀ (ys : List UInt8) (i frm : Nat) (acc : List ByteArray), l.drop i = ys → i ≤ l.length → frm ≤ i → acc.length + ys.length ≤ 2000000 →
  Ev (fun k => spec_l1Split.l0 k (mkB l) (c.toNat : Int) acc (frm : Int) (i : Int)) (acc ++ (glue ((l.take i).drop frm) (parts c ys)).map mkB) := by
 intro ys
 induction ys with
 | nil =>
  intro i frm acc h hi hf ha
  have := List.drop_eq_nil_iff.1 h
  refine Ev.step (fun k => spec_l1Split.l0.eq_2 ..) ?_
  rw [mkB_size, Int.toNat_natCast]
  have e0 : (mkB l).extract frm l.length = mkB (l.drop frm) := by have := mkB_drop l frm; rw [mkB_size] at this; exact this
  rw [e0]
  refine ev_neg (by omega) (ev_pos (by omega) (ev_pos (by omega) (ev_pos (by simp only [List.length_nil] at ha; omega) (ev_now ?_))))
  rw [parts, glue, List.take_of_length_le (by omega)]
  simp
 | cons y ys ih =>
  intro i frm acc h hi hf ha
  obtain ⟨g1, g2⟩ := drop_step h
  simp only [List.length_cons] at ha
  refine Ev.step (fun k => spec_l1Split.l0.eq_2 ..) ?_
  rw [bt_mkB h, mkB_size, w64 (x := (i : Int) + 1) (by omega) (by omega), Int.toNat_natCast, Int.toNat_natCast, mkB_slice, show (i : Int) + 1 = ((i + 1 : Nat) : Int) from by omega]
  refine ev_pos (by omega) (ev_pos (by omega) ?_)
  have htk : (l.take (i + 1)).drop frm = (l.take i).drop frm ++ [y] := by
   have e : l.take (i + 1) = l.take i ++ [y] := by
    rw [List.take_add_one]
    have : l[i]? = some y := by rw [List.getElem?_eq_getElem g1]; have := List.drop_eq_getElem_cons g1; rw [h] at this; injection this with a _; rw [a]
    rw [this]; rfl
   rw [e, List.drop_append_of_le_length (by rw [List.length_take]; omega)]
  by_cases e : y = c
  ·subst e
   refine ev_pos rfl (ev_pos (by omega) (ev_pos (by omega) (ev_pos (by omega) (ev_pos (by omega) ?_))))
   refine ev_val (ih (i + 1) (i + 1) _ g2 (by omega) (Nat.le_refl _) (by simp only [List.length_append, List.length_cons, List.length_nil]; omega)) ?_
   have e3 : (l.take (i + 1)).drop (i + 1) = [] := List.drop_of_length_le (by rw [List.length_take]; omega)
   rw [e3, glue_nil _ (parts_ne _ _), parts, if_pos rfl]
   simp only [glue, List.append_nil, List.map_cons, List.append_assoc, List.cons_append, List.nil_append]
  ·have hne : ¬ ((y.toNat : Int) = (c.toNat : Int)) := fun q => e (UInt8.toNat_inj.1 (by omega))
   refine ev_neg hne (ev_val (ih (i + 1) frm acc g2 (by omega) (by omega) (by omega)) ?_)
   rw [htk, glue_head, parts, if_neg e]
theorem l1Split_ev (c : UInt8) (l : List UInt8) (hl : l.length ≤ 1999999) : Ev (fun k => spec_l1Split.f k (mkB l) (c.toNat : Int)) ((parts c l).map mkB) := by
 unfold spec_l1Split.f
 refine ev_val (l1Split_l c l (by omega) l 0 0 [] rfl (by omega) (Nat.le_refl _) (by simp only [List.length_nil]; omega)) ?_
 rw [List.take_zero, List.drop_nil, glue_nil _ (parts_ne _ _), List.nil_append]

def szL (xs : List ByteArray) : List Int := xs.map fun s => (s.size : Int)
def lensT (l : List UInt8) : List Int := (parts 32 l).map fun p => (p.length : Int)
theorem szL_parts (l : List UInt8) : szL ((parts 32 l).map mkB) = lensT l := by
 unfold szL lensT
 rw [List.map_map]
 apply List.map_congr_left
 intro p _
 exact congrArg (fun n : Nat => (n : Int)) (mkB_size p)
theorem lensT_length (l : List UInt8) : (lensT l).length = (parts 32 l).length := by simp [lensT]
theorem rdOf_drop {xs : List ByteArray} {i : Int} {y : ByteArray} {ys : List ByteArray} (h0 : 0 ≤ i) (h : xs.drop i.toNat = y :: ys) : rdOf ByteArray.empty xs i = y := by
 obtain ⟨_, h2, _, _⟩ := drop_get h0 h
 exact h2 _
theorem lnLengths_l (xs : List ByteArray) (hn : xs.length ≤ 1048576) : ∀ (ys : List ByteArray) (i : Int), 0 ≤ i → xs.drop i.toNat = ys →
  Ev (fun k => spec_lnLengths.l0 k (szL (xs.take i.toNat)) xs (xs.length : Int) i) (szL xs) := by
 intro ys
 induction ys with
 | nil =>
  intro i h0 h
  have := drop_nil h0 h
  refine Ev.step (fun k => spec_lnLengths.l0.eq_2 ..) ?_
  exact ev_neg (by omega) (ev_now (by rw [List.take_of_length_le (by omega)]))
 | cons y ys ih =>
  intro i h0 h
  obtain ⟨h1, _, h3, h4⟩ := drop_get h0 h
  refine Ev.step (fun k => spec_lnLengths.l0.eq_2 ..) ?_
  rw [rdOf_drop h0 h, w64 (x := i + 1) (by omega) (by omega)]
  refine ev_pos h1 (ev_pos h0 (ev_pos h1 (ev_pos (by unfold szL; rw [List.length_map, List.length_take]; omega) ?_)))
  have := ih (i + 1) (by omega) h3
  rw [h4] at this
  unfold szL at this ⊢
  rw [List.map_append] at this
  exact this
theorem lnLengths_ev (xs : List ByteArray) (hn : xs.length ≤ 1048576) : Ev (fun k => spec_lnLengths.f k xs) (szL xs) := by
 unfold spec_lnLengths.f
 exact lnLengths_l xs hn xs 0 (by omega) rfl
theorem lnParts_ev (l : List UInt8) (hl : l.length ≤ 1048575) : Ev (fun k => spec_lnParts.f k (mkB l)) ((parts 32 l).map mkB) := by
 unfold spec_lnParts.f
 exact Ev.bind (l1Split_ev 32 l (by omega)) (ev_now rfl)
def wordsM (l : List UInt8) : List Int × Bool := if textOk l = true then (if wordsB (lensT l) = true then (lensT l, true) else ([], false)) else ([], false)
theorem implWords_l (xs : List ByteArray) (hn : xs.length ≤ 1048576) : ∀ (ys : List ByteArray) (i : Int), 0 ≤ i → xs.drop i.toNat = ys →
  Ev (fun k => impl_WordsOfText.l0 k (szL (xs.take i.toNat)) xs (xs.length : Int) i) (if wordsB (szL xs) = true then (szL xs, true) else ([], false)) := by
 intro ys
 induction ys with
 | nil =>
  intro i h0 h
  have := drop_nil h0 h
  refine Ev.step (fun k => impl_WordsOfText.l0.eq_2 ..) ?_
  rw [List.take_of_length_le (by omega)]
  refine ev_neg (by omega) (Ev.bind (AreWords_ev (szL xs) (by unfold szL; rw [List.length_map]; omega)) ?_)
  by_cases c : wordsB (szL xs) = true
  ·exact ev_pos c (ev_now (by rw [if_pos c]))
  ·exact ev_neg c (ev_now (by rw [if_neg c]))
 | cons y ys ih =>
  intro i h0 h
  obtain ⟨h1, _, h3, h4⟩ := drop_get h0 h
  refine Ev.step (fun k => impl_WordsOfText.l0.eq_2 ..) ?_
  rw [rdOf_drop h0 h, w64 (x := i + 1) (by omega) (by omega)]
  refine ev_pos h1 (ev_pos h0 (ev_pos h1 (ev_pos (by unfold szL; rw [List.length_map, List.length_take]; omega) ?_)))
  have := ih (i + 1) (by omega) h3
  rw [h4] at this
  unfold szL at this ⊢
  rw [List.map_append] at this
  exact this
theorem parts_small (l : List UInt8) (h : l.length ≤ 1048575) : ((parts 32 l).map mkB).length ≤ 1048576 := by
 have := parts_length 32 l
 rw [List.length_map]; omega
theorem implWords_ev (l : List UInt8) (hl : l.length ≤ 1048576) : Ev (fun k => impl_WordsOfText.f k (mkB l)) (wordsM l) := by
 unfold impl_WordsOfText.f wordsM
 refine Ev.bind (isText_ev l hl) ?_
 by_cases h : textOk l = true
 ·have ht := textOk_true h
  refine ev_pos h (ev_some (split_eq 32 l (by omega)) ?_)
  rw [if_pos h]
  have := implWords_l ((parts 32 l).map mkB) (parts_small l (by omega)) _ 0 (by omega) rfl
  rw [szL_parts] at this
  exact this
 ·exact ev_neg h (ev_now (by rw [if_neg h]))

theorem filled_l1 (wide : Int) (ws : List Int) (hw : ws.length ≤ 30) (hin : ∀ n ∈ ws, 1 ≤ n ∧ n ≤ 80) (out : List Int) (ho : out.length ≤ 1000) (r : List Int) : ∀ (m x : Nat), 1 ≤ x → x + m = ws.length →
  Ev (fun k => impl_filled.l0 k (ws.drop (fillK wide ws m x)) wide (out ++ [(fillK wide ws m x : Int)])) r → Ev (fun k => impl_filled.l1 k ws wide out (x : Int)) r := by
 intro m
 induction m with
 | zero =>
  intro x hx hm hr
  simp only [fillK] at hr
  refine Ev.step (fun k => impl_filled.l1.eq_2 ..) ?_
  refine ev_neg (by omega) (ev_pos (by omega) (ev_pos (by omega) (ev_pos (by omega) ?_)))
  rw [Int.toNat_natCast]
  exact hr
 | succ m ih =>
  intro x hx hm hr
  have e1 : ((x : Int) + 1).toNat = x + 1 := by omega
  refine Ev.step (fun k => impl_filled.l1.eq_2 ..) ?_
  rw [w64 (x := (x : Int) + 1) (by omega) (by omega), e1]
  refine ev_pos (by omega) (ev_pos (by omega) (ev_pos (by omega) (Ev.bind (needs_ev (ws.take (x + 1)) (by rw [List.length_take]; omega) (fun n hn => hin n (List.mem_of_mem_take hn))) ?_)))
  rw [fillK] at hr
  by_cases h : needL (ws.take (x + 1)) ≤ wide
  ·rw [if_pos h] at hr
   refine ev_pos h ?_
   have e2 : (x : Int) + 1 = ((x + 1 : Nat) : Int) := by omega
   rw [e2]
   exact ih (x + 1) (by omega) (by omega) hr
  ·rw [if_neg h] at hr
   refine ev_neg h (ev_pos (by omega) (ev_pos (by omega) (ev_pos (by omega) ?_)))
   rw [Int.toNat_natCast]
   exact hr
theorem filled_l0 (wide : Int) : ∀ (f : Nat) (ws out : List Int), ws.length ≤ f → ws.length ≤ 30 → (∀ n ∈ ws, 1 ≤ n ∧ n ≤ 80) → out.length + f ≤ 1000 →
  Ev (fun k => impl_filled.l0 k ws wide out) (out ++ fillL wide f ws) := by
 intro f
 induction f with
 | zero =>
  intro ws out hf hw hin ho
  refine Ev.step (fun k => impl_filled.l0.eq_2 ..) ?_
  exact ev_neg (by omega) (ev_now (by simp [fillL]))
 | succ f ih =>
  intro ws out hf hw hin ho
  rcases ws with _ | ⟨w, ws⟩
  ·refine Ev.step (fun k => impl_filled.l0.eq_2 ..) ?_
   exact ev_neg (by simp) (ev_now (by simp [fillL]))
  ·refine Ev.step (fun k => impl_filled.l0.eq_2 ..) ?_
   have hk := fillK_ge wide (w :: ws) ws.length 1
   simp only [List.length_cons] at hf hw
   refine ev_pos (by simp only [List.length_cons]; omega) (filled_l1 wide (w :: ws) (by simp; omega) hin out (by omega) _ ws.length 1 (by omega) (by simp only [List.length_cons]; omega) ?_)
   refine ev_val (ih _ (out ++ [(fillK wide (w :: ws) ws.length 1 : Int)]) ?_ ?_ (fun n hn => hin n (List.mem_of_mem_drop hn)) (by simp; omega)) (by simp [fillL])
   ·rw [List.length_drop, List.length_cons]; omega
   ·rw [List.length_drop, List.length_cons]; omega
theorem filled_ev (wide : Int) (ws : List Int) (hw : ws.length ≤ 30) (hin : ∀ n ∈ ws, 1 ≤ n ∧ n ≤ 80) : Ev (fun k => impl_filled.f k ws wide) (fillM wide ws) :=
 filled_l0 wide ws.length ws [] (Nat.le_refl _) hw hin (by simp; omega)

theorem lnFill_l1 (wide : Int) (ws : List Int) (hw : ws.length ≤ 30) (hin : ∀ n ∈ ws, 1 ≤ n ∧ n ≤ 80) (out : List Int) (ho : out.length ≤ 1000) (r : List Int) : ∀ (m x : Nat), 1 ≤ x → x + m = ws.length →
  Ev (fun k => spec_lnFill.l0 k (ws.drop (fillK wide ws m x)) wide (out ++ [(fillK wide ws m x : Int)])) r → Ev (fun k => spec_lnFill.l1 k ws wide out (x : Int)) r := by
 intro m
 induction m with
 | zero =>
  intro x hx hm hr
  simp only [fillK] at hr
  refine Ev.step (fun k => spec_lnFill.l1.eq_2 ..) ?_
  refine ev_neg (by omega) (ev_pos (by omega) (ev_pos (by omega) (ev_pos (by omega) ?_)))
  rw [Int.toNat_natCast]
  exact hr
 | succ m ih =>
  intro x hx hm hr
  have e1 : ((x : Int) + 1).toNat = x + 1 := by omega
  refine Ev.step (fun k => spec_lnFill.l1.eq_2 ..) ?_
  rw [w64 (x := (x : Int) + 1) (by omega) (by omega), e1]
  refine ev_pos (by omega) (ev_pos (by omega) (ev_pos (by omega) (Ev.bind (lnNeed_ev (ws.take (x + 1)) (by rw [List.length_take]; omega) (fun n hn => hin n (List.mem_of_mem_take hn))) ?_)))
  rw [fillK] at hr
  by_cases h : needL (ws.take (x + 1)) ≤ wide
  ·rw [if_pos h] at hr
   refine ev_pos h ?_
   have e2 : (x : Int) + 1 = ((x + 1 : Nat) : Int) := by omega
   rw [e2]
   exact ih (x + 1) (by omega) (by omega) hr
  ·rw [if_neg h] at hr
   refine ev_neg h (ev_pos (by omega) (ev_pos (by omega) (ev_pos (by omega) ?_)))
   rw [Int.toNat_natCast]
   exact hr
theorem lnFill_l0 (wide : Int) : ∀ (f : Nat) (ws out : List Int), ws.length ≤ f → ws.length ≤ 30 → (∀ n ∈ ws, 1 ≤ n ∧ n ≤ 80) → out.length + f ≤ 1000 →
  Ev (fun k => spec_lnFill.l0 k ws wide out) (out ++ fillL wide f ws) := by
 intro f
 induction f with
 | zero =>
  intro ws out hf hw hin ho
  refine Ev.step (fun k => spec_lnFill.l0.eq_2 ..) ?_
  exact ev_neg (by omega) (ev_now (by simp [fillL]))
 | succ f ih =>
  intro ws out hf hw hin ho
  rcases ws with _ | ⟨w, ws⟩
  ·refine Ev.step (fun k => spec_lnFill.l0.eq_2 ..) ?_
   exact ev_neg (by simp) (ev_now (by simp [fillL]))
  ·refine Ev.step (fun k => spec_lnFill.l0.eq_2 ..) ?_
   have hk := fillK_ge wide (w :: ws) ws.length 1
   simp only [List.length_cons] at hf hw
   refine ev_pos (by simp only [List.length_cons]; omega) (lnFill_l1 wide (w :: ws) (by simp; omega) hin out (by omega) _ ws.length 1 (by omega) (by simp only [List.length_cons]; omega) ?_)
   refine ev_val (ih _ (out ++ [(fillK wide (w :: ws) ws.length 1 : Int)]) ?_ ?_ (fun n hn => hin n (List.mem_of_mem_drop hn)) (by simp; omega)) (by simp [fillL])
   ·rw [List.length_drop, List.length_cons]; omega
   ·rw [List.length_drop, List.length_cons]; omega
theorem lnFill_ev (wide : Int) (ws : List Int) (hw : ws.length ≤ 30) (hin : ∀ n ∈ ws, 1 ≤ n ∧ n ≤ 80) : Ev (fun k => spec_lnFill.f k ws wide) (fillM wide ws) :=
 lnFill_l0 wide ws.length ws [] (Nat.le_refl _) hw hin (by simp; omega)

theorem total_30 (xs : List Int) (hn : xs.length ≤ 30) (hin : ∀ n ∈ xs, 1 ≤ n ∧ n ≤ 30) : Ev (fun k => impl_total.f k xs) xs.sum := totalW_ev xs (by omega) (fun n hn => by have := hin n hn; omega)
theorem widths_l0 (ls : List Int) (hl : ls.length ≤ 30) : ∀ (ys : List Int) (i : Int) (ws out : List Int), 0 ≤ i → ls.drop i.toNat = ys → (∀ n ∈ ys, 1 ≤ n) → ys.sum = (ws.length : Int) → ws.length ≤ 30 → (∀ n ∈ ws, 1 ≤ n ∧ n ≤ 80) → out.length + ys.length ≤ 100 →
  Ev (fun k => impl_widths.l0 k ws out ls (ls.length : Int) i) (out ++ usedL ws ys, true) := by
 intro ys
 induction ys with
 | nil =>
  intro i ws out h0 h _ _ _ _ _
  have := drop_nil h0 h
  refine Ev.step (fun k => impl_widths.l0.eq_2 ..) ?_
  exact ev_neg (by omega) (ev_now (by simp [usedL]))
 | cons y ys ih =>
  intro i ws out h0 h hpos hsum hw hin ho
  obtain ⟨h1, h2, h3, _⟩ := drop_cons h0 h
  have hy := hpos y List.mem_cons_self
  have hpos2 := fun n hn => hpos n (List.mem_cons_of_mem y hn)
  have hs := (sum_ge ys hpos2).1
  rw [List.sum_cons] at hsum
  simp only [List.length_cons] at ho
  refine Ev.step (fun k => impl_widths.l0.eq_2 ..) ?_
  rw [h2, w64 (x := i + 1) (by omega) (by omega)]
  refine ev_pos h1 (ev_pos h0 (ev_pos h1 (ev_pos (by omega) (ev_pos (by omega) (Ev.bind (needs_ev (ws.take y.toNat) ?_ ?_) (ev_pos (by omega) ?_))))))
  ·rw [List.length_take]; omega
  ·exact fun n hn => hin n (List.mem_of_mem_take hn)
  ·refine ev_val (ih (i + 1) (ws.drop y.toNat) _ (by omega) h3 hpos2 ?_ ?_ (fun n hn => hin n (List.mem_of_mem_drop hn)) (by simp; omega)) (by simp [usedL])
   ·rw [List.length_drop]; omega
   ·rw [List.length_drop]; omega
theorem widths_ev (ws ls : List Int) (hn : ws.length ≤ 1048576) (hn2 : ls.length ≤ 1048576) : Ev (fun k => impl_widths.f k ws ls) (if linesB ws ls = true then (usedL ws ls, true) else ([], false)) := by
 unfold impl_widths.f
 refine Ev.bind (AreWords_ev ws (by omega)) ?_
 have fail : ∀ (_ : ¬ linesB ws ls = true), Ev (fun k => impl_widths.j0 k ws ls true) (if linesB ws ls = true then (usedL ws ls, true) else ([], false)) := fun hb => by
  rw [if_neg hb]
  exact Ev.step (fun k => impl_widths.j0.eq_2 ..) (ev_pos rfl (ev_now rfl))
 by_cases h : wordsB ws = true
 ·refine ev_pos h ?_
  have e := linesB_impl ws ls h
  obtain ⟨⟨w1, w2⟩, w3⟩ := wordsB_true h
  refine Ev.bind (allWithin_ev ls 1 30 (by omega)) ?_
  by_cases c1 : ∀ n ∈ ls, 1 ≤ n ∧ n ≤ 30
  ·refine ev_pos (decide_eq_true c1) ?_
   rw [decide_eq_true c1, Bool.true_and] at e
   by_cases c2 : ls.length ≤ 30
   ·rw [decide_eq_true c2, Bool.true_and] at e
    refine ev_neg (by omega) (Ev.bind (total_30 ls c2 c1) ?_)
    by_cases c3 : ls.sum = (ws.length : Int)
    ·have hb : linesB ws ls = true := by rw [e, decide_eq_true c3]
     rw [if_pos hb]
     refine Ev.step (fun k => impl_widths.j0.eq_2 ..) (ev_neg (by simp [c3]) ?_)
     exact widths_l0 ls c2 ls 0 ws [] (by omega) rfl (fun n hn => (c1 n hn).1) c3 (by omega) w3 (by simp; omega)
    ·have hb : ¬ linesB ws ls = true := by rw [e, decide_eq_false c3]; simp
     have e2 : (ls.sum != (ws.length : Int)) = true := by simpa using c3
     rw [e2]
     exact fail hb
   ·exact ev_pos (by omega) (fail (by rw [e, decide_eq_false c2]; simp))
  ·exact ev_neg (by rw [decide_eq_false c1]; simp) (fail (by rw [e, decide_eq_false c1]; simp))
 ·exact ev_neg h (fail (fun hb => h (linesB_true hb).1))

theorem lnLines_l0 (ws ls : List Int) (hl : ls.length ≤ 30) (hin : ∀ n ∈ ls, 1 ≤ n ∧ n ≤ 30) : ∀ (ys : List Int) (i s : Int), 0 ≤ i → ls.drop i.toNat = ys → 0 ≤ s → s + 30 * ys.length ≤ 100000 →
  Ev (fun k => spec_lnLines.l0 k ws s ls (ls.length : Int) i) (decide (s + ys.sum = (ws.length : Int))) := by
 intro ys
 induction ys with
 | nil =>
  intro i s h0 h _ _
  have := drop_nil h0 h
  refine Ev.step (fun k => spec_lnLines.l0.eq_2 ..) ?_
  refine ev_neg (by omega) (ev_now ?_)
  simp
  rfl
 | cons y ys ih =>
  intro i s h0 h hs hb
  obtain ⟨h1, h2, h3, _⟩ := drop_cons h0 h
  have hy := hin y (List.mem_of_mem_drop (by rw [h]; exact List.mem_cons_self))
  simp only [List.length_cons] at hb
  refine Ev.step (fun k => spec_lnLines.l0.eq_2 ..) ?_
  refine ev_pos h1 (ev_pos h0 (ev_pos h1 ?_))
  rw [h2, w64 (x := i + 1) (by omega) (by omega), w64 (by omega) (by omega)]
  refine ev_val (ih (i + 1) (s + y) (by omega) h3 (by omega) (by omega)) ?_
  rw [List.sum_cons]
  exact decide_eq_decide.2 (by omega)
theorem lnLines_ev (ws ls : List Int) (hn : ws.length ≤ 1048576) (hn2 : ls.length ≤ 1048576) : Ev (fun k => spec_lnLines.f k ws ls) (linesB ws ls) := by
 unfold spec_lnLines.f
 refine Ev.bind (lnGood_ev ws (by omega)) ?_
 have fail : ∀ (_ : linesB ws ls = false), Ev (fun k => spec_lnLines.j0 k ws ls true) (linesB ws ls) := fun hb => by
  rw [hb]
  exact Ev.step (fun k => spec_lnLines.j0.eq_2 ..) (ev_pos rfl (ev_now rfl))
 by_cases h : wordsB ws = true
 ·obtain ⟨⟨w1, w2⟩, w3⟩ := wordsB_true h
  refine ev_pos h ?_
  have e : linesB ws ls = (decide (ls.length ≤ ws.length) && (decide (∀ n ∈ ls, 1 ≤ n ∧ n ≤ (ws.length : Int)) && decide (ls.sum = (ws.length : Int)))) := by unfold linesB; rw [h, Bool.true_and]
  by_cases c1 : ls.length ≤ ws.length
  ·refine ev_neg (by omega) (Ev.bind (l1All_ev ls 1 (ws.length : Int) (by omega)) ?_)
   rw [decide_eq_true c1, Bool.true_and] at e
   by_cases c2 : ∀ n ∈ ls, 1 ≤ n ∧ n ≤ (ws.length : Int)
   ·rw [decide_eq_true c2, Bool.true_and] at e
    rw [decide_eq_true c2]
    refine Ev.step (fun k => spec_lnLines.j0.eq_2 ..) (ev_neg (by simp) ?_)
    exact ev_val (lnLines_l0 ws ls (by omega) (fun n hn => ⟨(c2 n hn).1, by have := (c2 n hn).2; omega⟩) ls 0 0 (by omega) rfl (by omega) (by omega)) (by rw [e]; exact decide_eq_decide.2 (by omega))
   ·rw [decide_eq_false c2]
    exact fail (by rw [e, decide_eq_false c2]; rfl)
  ·exact ev_pos (by omega) (fail (by rw [e, decide_eq_false c1]; rfl))
 ·exact ev_neg h (fail (by cases hb : linesB ws ls with | false => rfl | true => exact absurd (linesB_true hb).1 h))
theorem lnUsed_l0 (ws ls : List Int) (hl : ls.length ≤ 30) (hw : ws.length ≤ 30) (hin : ∀ n ∈ ws, 1 ≤ n ∧ n ≤ 80) : ∀ (ys : List Int) (i at_ : Int) (out : List Int), 0 ≤ i → ls.drop i.toNat = ys → (∀ n ∈ ys, 1 ≤ n) → 0 ≤ at_ → at_ + ys.sum = (ws.length : Int) → out.length + ys.length ≤ 100 →
  Ev (fun k => spec_lnUsed.l0 k ws out at_ ls (ls.length : Int) i) (out ++ usedL (ws.drop at_.toNat) ys) := by
 intro ys
 induction ys with
 | nil =>
  intro i at_ out h0 h _ _ _ _
  have := drop_nil h0 h
  refine Ev.step (fun k => spec_lnUsed.l0.eq_2 ..) ?_
  exact ev_neg (by omega) (ev_now (by simp [usedL]))
 | cons y ys ih =>
  intro i at_ out h0 h hpos ha hsum ho
  obtain ⟨h1, h2, h3, _⟩ := drop_cons h0 h
  have hy := hpos y List.mem_cons_self
  have hpos2 := fun n hn => hpos n (List.mem_cons_of_mem y hn)
  have hs := (sum_ge ys hpos2).1
  rw [List.sum_cons] at hsum
  simp only [List.length_cons] at ho
  refine Ev.step (fun k => spec_lnUsed.l0.eq_2 ..) ?_
  rw [h2, w64 (x := i + 1) (by omega) (by omega), w64 (x := at_ + y) (by omega) (by omega)]
  have e1 : (ws.take (at_ + y).toNat).drop at_.toNat = (ws.drop at_.toNat).take y.toNat := by
   rw [List.drop_take]; congr 1; omega
  have e2 : ws.drop (at_ + y).toNat = (ws.drop at_.toNat).drop y.toNat := by
   rw [List.drop_drop]; congr 1; omega
  rw [e1]
  refine ev_pos h1 (ev_pos h0 (ev_pos h1 (ev_pos (by omega) (ev_pos (by omega) (ev_pos (by omega) (Ev.bind (lnNeed_ev _ ?_ ?_) (ev_pos (by omega) ?_)))))))
  ·rw [List.length_take, List.length_drop]; omega
  ·exact fun n hn => hin n (List.mem_of_mem_drop (List.mem_of_mem_take hn))
  ·refine ev_val (ih (i + 1) (at_ + y) _ (by omega) h3 hpos2 (by omega) (by omega) (by simp; omega)) ?_
   rw [e2]
   simp [usedL]
theorem lnUsed_ev (ws ls : List Int) (h : linesB ws ls = true) : Ev (fun k => spec_lnUsed.f k ws ls) (usedL ws ls) := by
 obtain ⟨b1, b2, b3, b4⟩ := linesB_true h
 obtain ⟨⟨w1, w2⟩, w3⟩ := wordsB_true b1
 exact lnUsed_l0 ws ls (by omega) (by omega) w3 ls 0 0 [] (by omega) rfl (fun n hn => (b3 n hn).1) (by omega) (by omega) (by simp; omega)

def linesM (l : List Int) (wide : Int) : List Int := if settingB l wide = true then fillM wide l else []
theorem linesM_small (l : List Int) (wide : Int) : (linesM l wide).length ≤ 1048576 := by
 unfold linesM
 split
 ·rename_i h
  have := (wordsB_true (settingB_true h).1).1
  have h2 := fillL_length wide l.length l
  unfold fillM; omega
 ·simp
theorem specFill_ev (l : List Int) (wide : Int) (hn : l.length ≤ 1048576) : Ev (fun k => spec_FillLines.f k l wide) (linesM l wide, settingB l wide) := by
 unfold spec_FillLines.f linesM
 refine Ev.bind (lnFits_ev l wide (by omega)) ?_
 by_cases h : settingB l wide = true
 ·have hw := wordsB_true (settingB_true h).1
  exact ev_pos h (Ev.bind (lnFill_ev wide l (by omega) hw.2) (ev_now (by rw [if_pos h, h])))
 ·exact ev_neg h (ev_now (by rw [if_neg h, Bool.eq_false_iff.mpr h]))
theorem specCount_ev (l : List Int) (wide : Int) (hn : l.length ≤ 1048576) : Ev (fun k => spec_CountLines.f k l wide) (((linesM l wide).length : Int), settingB l wide) := by
 unfold spec_CountLines.f linesM
 refine Ev.bind (lnFits_ev l wide (by omega)) ?_
 by_cases h : settingB l wide = true
 ·have hw := wordsB_true (settingB_true h).1
  exact ev_pos h (Ev.bind (lnFill_ev wide l (by omega) hw.2) (ev_now (by rw [if_pos h, h])))
 ·exact ev_neg h (ev_now (by rw [if_neg h, Bool.eq_false_iff.mpr h]; rfl))
theorem implFill_ev (l : List Int) (wide : Int) (hn : l.length ≤ 1048576) : Ev (fun k => impl_FillLines.f k l wide) (linesM l wide, settingB l wide) := by
 unfold impl_FillLines.f linesM
 refine Ev.bind (isSetting_ev l wide (by omega)) ?_
 by_cases h : settingB l wide = true
 ·have hw := wordsB_true (settingB_true h).1
  exact ev_pos h (Ev.bind (filled_ev wide l (by omega) hw.2) (ev_now (by rw [if_pos h, h])))
 ·exact ev_neg h (ev_now (by rw [if_neg h, Bool.eq_false_iff.mpr h]))
theorem implCount_ev (l : List Int) (wide : Int) (hn : l.length ≤ 1048576) : Ev (fun k => impl_CountLines.f k l wide) (((linesM l wide).length : Int), settingB l wide) := by
 unfold impl_CountLines.f
 exact Ev.bind (implFill_ev l wide hn) (ev_now rfl)
def usedM (ws ls : List Int) : List Int × Bool := if linesB ws ls = true then (usedL ws ls, true) else ([], false)
theorem usedM_small (ws ls : List Int) : (usedM ws ls).1.length ≤ 1000 := by
 unfold usedM
 split
 ·rename_i h
  obtain ⟨b1, b2, b3, b4⟩ := linesB_true h
  obtain ⟨⟨w1, w2⟩, w3⟩ := wordsB_true b1
  simp only [usedL_length]; omega
 ·simp
theorem specWidths_ev (ws ls : List Int) (hn : ws.length ≤ 1048576) (hn2 : ls.length ≤ 1048576) : Ev (fun k => spec_WidthsUsed.f k ws ls) (usedM ws ls) := by
 unfold spec_WidthsUsed.f usedM
 refine Ev.bind (lnLines_ev ws ls hn hn2) ?_
 by_cases h : linesB ws ls = true
 ·exact ev_pos h (Ev.bind (lnUsed_ev ws ls h) (ev_now (by rw [if_pos h])))
 ·exact ev_neg h (ev_now (by rw [if_neg h]))
theorem implWidths_ev (ws ls : List Int) (hn : ws.length ≤ 1048576) (hn2 : ls.length ≤ 1048576) : Ev (fun k => impl_WidthsUsed.f k ws ls) (usedM ws ls) := by
 unfold impl_WidthsUsed.f usedM
 exact Ev.bind (widths_ev ws ls hn hn2) (ev_now rfl)
def raggedB (ws : List Int) (wide : Int) (ls : List Int) : Bool := linesB ws ls && (decide (1 ≤ wide ∧ wide ≤ 80) && decide (∀ n ∈ usedL ws ls, n ≤ wide))
def raggedM (ws : List Int) (wide : Int) (ls : List Int) : Int := if raggedB ws wide ls = true then costL wide (usedL ws ls) else 0
theorem sq_bd {wide x : Int} (h1 : -1 ≤ x) (h2 : x ≤ wide) (h3 : wide ≤ 80) : 0 ≤ (wide - x) * (wide - x) ∧ (wide - x) * (wide - x) ≤ 6561 := by
 have h4 : 0 ≤ wide - x := by omega
 have h5 : wide - x ≤ 81 := by omega
 exact ⟨Int.mul_nonneg h4 h4, by have := Int.mul_le_mul h5 h5 h4 (by omega : (0:Int) ≤ 81); omega⟩
theorem usedL_ge : ∀ (ls ws : List Int), (∀ n ∈ ws, 1 ≤ n ∧ n ≤ 80) → ws.length ≤ 30 → ∀ n ∈ usedL ws ls, -1 ≤ n ∧ n ≤ 3000
 | [], ws, _, _, n, hn => by simp [usedL] at hn
 | y :: ys, ws, h, hl, n, hn => by
  rw [usedL, List.mem_cons] at hn
  rcases hn with rfl | hn
  ·have := sum_bd (ws.take y.toNat) (fun n hn => h n (List.mem_of_mem_take hn))
   have h2 : (ws.take y.toNat).length ≤ 30 := by rw [List.length_take]; omega
   unfold needL; omega
  ·exact usedL_ge ys (ws.drop y.toNat) (fun n hn => h n (List.mem_of_mem_drop hn)) (by rw [List.length_drop]; omega) n hn
theorem ragged_l (wide : Int) (hwd : 1 ≤ wide ∧ wide ≤ 80) (us : List Int) (hu : us.length ≤ 30) (hb : ∀ n ∈ us, -1 ≤ n ∧ n ≤ 3000) : ∀ (ys : List Int) (i s : Int), 0 ≤ i → us.drop i.toNat = ys → 0 ≤ s → s + 6561 * ys.length ≤ 1000000 →
  Ev (fun k => spec_RaggedOf.l0 k wide s us us (us.length : Int) i) (if ∀ n ∈ ys, n ≤ wide then (s + costL wide ys, true) else (0, false)) := by
 intro ys
 induction ys with
 | nil =>
  intro i s h0 h _ _
  have := drop_nil h0 h
  refine Ev.step (fun k => spec_RaggedOf.l0.eq_2 ..) ?_
  exact ev_neg (by omega) (ev_now (by simp [costL]))
 | cons y ys ih =>
  intro i s h0 h hs hbd
  obtain ⟨h1, h2, h3, _⟩ := drop_cons h0 h
  have hy := hb y (List.mem_of_mem_drop (by rw [h]; exact List.mem_cons_self))
  simp only [List.length_cons] at hbd
  refine Ev.step (fun k => spec_RaggedOf.l0.eq_2 ..) ?_
  refine ev_pos h1 (ev_pos h0 (ev_pos h1 ?_))
  rw [h2, w64 (x := i + 1) (by omega) (by omega), w64 (x := (us.length : Int) - 1) (by omega) (by omega), w64 (x := wide - y) (by omega) (by omega)]
  by_cases c : y ≤ wide
  ·refine ev_neg (by omega) ?_
   have hq := sq_bd hy.1 c hwd.2
   have hcs : (∀ n ∈ y :: ys, n ≤ wide) ↔ (∀ n ∈ ys, n ≤ wide) := by simp [c]
   rcases hys : ys with _ | ⟨z, zs⟩
   ·have hlen := drop_nil (by omega) (h3.trans hys)
    refine ev_neg (by omega) ?_
    refine ev_val (ih (i + 1) s (by omega) h3 hs (by omega)) ?_
    rw [hys]; simp [costL, c]
   ·have hl2 := (drop_cons (by omega) (h3.trans hys)).1
    refine ev_pos (by omega) ?_
    rw [w64 (x := (wide - y) * (wide - y)) (by omega) (by omega), w64 (by omega) (by omega)]
    refine ev_val (ih (i + 1) _ (by omega) h3 (by omega) (by omega)) ?_
    rw [← hys]
    have hc : costL wide (y :: ys) = (wide - y) * (wide - y) + costL wide ys := by rw [hys]; rfl
    by_cases d : ∀ n ∈ ys, n ≤ wide
    ·rw [if_pos d, if_pos (hcs.2 d), hc]; congr 1; omega
    ·rw [if_neg d, if_neg (fun h => d (hcs.1 h))]
  ·refine ev_pos (by omega) (ev_now ?_)
   rw [if_neg (by simp [c])]
theorem lnWide_eqR (w : Int) : spec_lnWide.f w = some (decide (1 ≤ w ∧ w ≤ 80)) := by
 unfold spec_lnWide.f
 rw [l1In_eq]; rfl
theorem specRagged_ev (ws : List Int) (wide : Int) (ls : List Int) (hn : ws.length ≤ 1048576) (hn2 : ls.length ≤ 1048576) : Ev (fun k => spec_RaggedOf.f k ws wide ls) (raggedM ws wide ls, raggedB ws wide ls) := by
 unfold spec_RaggedOf.f raggedM
 refine Ev.bind (lnLines_ev ws ls hn hn2) ?_
 by_cases h : linesB ws ls = true
 ·refine ev_pos h (ev_some (lnWide_eqR wide) ?_)
  obtain ⟨b1, b2, b3, b4⟩ := linesB_true h
  obtain ⟨⟨w1, w2⟩, w3⟩ := wordsB_true b1
  by_cases h2 : 1 ≤ wide ∧ wide ≤ 80
  ·rw [decide_eq_true h2]
   refine Ev.step (fun k => spec_RaggedOf.j0.eq_2 ..) (ev_neg (by simp) (Ev.bind (lnUsed_ev ws ls h) ?_))
   have hul := usedL_length ls ws
   refine ev_val (ragged_l wide h2 (usedL ws ls) (by omega) (usedL_ge ls ws w3 (by omega)) (usedL ws ls) 0 0 (by omega) rfl (by omega) (by omega)) ?_
   by_cases d : ∀ n ∈ usedL ws ls, n ≤ wide
   ·have hb : raggedB ws wide ls = true := by unfold raggedB; rw [h, decide_eq_true h2, decide_eq_true d]; rfl
    rw [if_pos hb, hb, if_pos d]; simp
   ·have hb : raggedB ws wide ls = false := by unfold raggedB; rw [decide_eq_false d]; simp
    rw [hb, if_neg d]; rfl
  ·rw [decide_eq_false h2]
   refine Ev.step (fun k => spec_RaggedOf.j0.eq_2 ..) (ev_pos rfl (ev_now ?_))
   have hb : raggedB ws wide ls = false := by unfold raggedB; rw [decide_eq_false h2]; simp
   rw [hb]; rfl
 ·refine ev_neg h (Ev.step (fun k => spec_RaggedOf.j0.eq_2 ..) (ev_pos rfl (ev_now ?_)))
  have hb : raggedB ws wide ls = false := by unfold raggedB; rw [Bool.eq_false_iff.mpr h]; rfl
  rw [hb]; rfl
theorem costL_take (wide : Int) : ∀ l : List Int, costL wide l = ((l.take (l.length - 1)).map fun n => (wide - n) * (wide - n)).sum
 | [] => rfl
 | [_] => rfl
 | x :: y :: ys => by
  have ih := costL_take wide (y :: ys)
  rw [costL, ih]
  simp
theorem implRag_l (wide : Int) (hwd : 1 ≤ wide ∧ wide ≤ 80) (us : List Int) (hu : us.length ≤ 30) (hb : ∀ n ∈ us, -1 ≤ n ∧ n ≤ wide) : ∀ (ys : List Int) (i s : Int), 0 ≤ i → us.drop i.toNat = ys → 0 ≤ s → s + 6561 * ys.length ≤ 1000000 →
  Ev (fun k => impl_RaggedOf.l0 k wide s us (us.length : Int) i) (s + (ys.map fun n => (wide - n) * (wide - n)).sum, true) := by
 intro ys
 induction ys with
 | nil =>
  intro i s h0 h _ _
  have := drop_nil h0 h
  exact Ev.step (fun k => impl_RaggedOf.l0.eq_2 ..) (ev_neg (by omega) (ev_now (by simp)))
 | cons y ys ih =>
  intro i s h0 h hs hbd
  obtain ⟨h1, h2, h3, _⟩ := drop_cons h0 h
  have hy := hb y (List.mem_of_mem_drop (by rw [h]; exact List.mem_cons_self))
  have hq := sq_bd hy.1 hy.2 hwd.2
  simp only [List.length_cons] at hbd
  refine Ev.step (fun k => impl_RaggedOf.l0.eq_2 ..) (ev_pos h1 (ev_pos h0 (ev_pos h1 ?_)))
  rw [h2, w64 (x := i + 1) (by omega) (by omega), w64 (x := wide - y) (by omega) (by omega), w64 (x := (wide - y) * (wide - y)) (by omega) (by omega), w64 (by omega) (by omega)]
  refine ev_val (ih (i + 1) _ (by omega) h3 (by omega) (by omega)) ?_
  rw [List.map_cons, List.sum_cons, Int.add_assoc]
theorem implRagged_ev (ws : List Int) (wide : Int) (ls : List Int) (hn : ws.length ≤ 1048576) (hn2 : ls.length ≤ 1048576) : Ev (fun k => impl_RaggedOf.f k ws wide ls) (raggedM ws wide ls, raggedB ws wide ls) := by
 unfold impl_RaggedOf.f
 have no : ∀ q : List Int, raggedB ws wide ls = false → Ev (fun k => impl_RaggedOf.j0 k wide q true) (raggedM ws wide ls, raggedB ws wide ls) := fun q hb => by
  unfold raggedM; rw [hb]
  exact Ev.step (fun k => impl_RaggedOf.j0.eq_2 ..) (ev_pos rfl (ev_now rfl))
 refine Ev.bind (widths_ev ws ls hn hn2) ?_
 by_cases h : linesB ws ls = true
 ·rw [if_pos h]
  obtain ⟨b1, b2, b3, b4⟩ := linesB_true h
  obtain ⟨⟨w1, w2⟩, w3⟩ := wordsB_true b1
  have hul := usedL_length ls ws
  have hl1 : 1 ≤ ls.length := by
   rcases Nat.eq_zero_or_pos ls.length with h0 | h0
   ·rw [List.eq_nil_of_length_eq_zero h0, List.sum_nil] at b4; omega
   ·exact h0
  refine ev_pos rfl (ev_some (within_eq ..) ?_)
  by_cases h2 : 1 ≤ wide ∧ wide ≤ 80
  ·refine ev_pos (decide_eq_true h2) (ev_some (show slices_Max_int_int.f (usedL ws ls) = some (Lib.maxOf (usedL ws ls)) from by unfold slices_Max_int_int.f; rw [if_pos (by omega)]) ?_)
   have hm := maxOf_le wide (usedL ws ls) (by omega)
   by_cases d : ∀ n ∈ usedL ws ls, n ≤ wide
   ·have hb : raggedB ws wide ls = true := by unfold raggedB; rw [h, decide_eq_true h2, decide_eq_true d]; rfl
    have hmd := hm.2 d
    rw [decide_eq_false (by omega)]
    refine Ev.step (fun k => impl_RaggedOf.j0.eq_2 ..) (ev_neg (by simp) ?_)
    simp only
    rw [w64 (x := ((usedL ws ls).length : Int) - 1) (by omega) (by omega)]
    refine ev_pos (by omega) (ev_pos (by omega) (ev_some rfl ?_))
    have ht : (((usedL ws ls).length : Int) - 1).toNat = (usedL ws ls).length - 1 := by omega
    rw [ht]
    have hge := usedL_ge ls ws w3 (by omega)
    have htl : ((usedL ws ls).take ((usedL ws ls).length - 1)).length ≤ 30 := by rw [List.length_take]; omega
    refine ev_val (implRag_l wide h2 _ htl (fun n hn => ⟨(hge n (List.mem_of_mem_take hn)).1, d n (List.mem_of_mem_take hn)⟩) _ 0 0 (by omega) rfl (by omega) (by rw [Int.toNat_zero, List.drop_zero]; omega)) ?_
    rw [Int.toNat_zero, List.drop_zero, ← costL_take, Int.zero_add]
    unfold raggedM; rw [hb, if_pos rfl]
   ·have hmd : ¬ Lib.maxOf (usedL ws ls) ≤ wide := fun q => d (hm.1 q)
    rw [decide_eq_true (by omega)]
    exact no _ (by unfold raggedB; rw [decide_eq_false d]; simp)
  ·exact ev_neg (by rw [decide_eq_false h2]; simp) (no _ (by unfold raggedB; rw [decide_eq_false h2]; simp))
 ·rw [if_neg h]
  exact ev_neg (by simp) (no _ (by unfold raggedB; rw [Bool.eq_false_iff.mpr h]; rfl))
theorem specWid_l0 (l : List Int) (k : Int) (hl : wordsB l = true) : ∀ (f : Nat) (x : Int), x + f = 81 → maxL l ≤ x → 1 ≤ x →
  Ev (fun r => spec_LeastWidth.l0 r l k x) (leastFrom l k f x) := by
 have hw := wordsB_true hl
 intro f
 induction f with
 | zero =>
  intro x hx _ _
  refine Ev.step (fun r => spec_LeastWidth.l0.eq_2 ..) ?_
  exact ev_neg (by omega) (ev_now rfl)
 | succ f ih =>
  intro x hx hm h1
  have hs : settingB l x = true := by
   unfold settingB
   rw [hl, decide_eq_true (⟨h1, by omega⟩ : 1 ≤ x ∧ x ≤ 80), decide_eq_true ((maxL_le x l (by omega)).1 hm)]; rfl
  refine Ev.step (fun r => spec_LeastWidth.l0.eq_2 ..) ?_
  refine ev_pos (by omega) (Ev.bind (lnFits_ev l x (by omega)) ?_)
  rw [hs]
  refine ev_pos rfl (Ev.bind (lnFill_ev x l (by omega) hw.2) ?_)
  rw [w64 (by omega) (by omega)]
  unfold leastFrom
  by_cases c : ((fillM x l).length : Int) ≤ k
  ·exact ev_pos c (ev_now (by rw [if_pos c]))
  ·rw [if_neg c]
   exact ev_neg c (ih (x + 1) (by omega) (by omega) (by omega))
theorem specWid_pre (l : List Int) (k : Int) (hl : wordsB l = true) : ∀ (f : Nat) (x : Int), x + f = maxL l → 1 ≤ x →
  Ev (fun r => spec_LeastWidth.l0 r l k x) (leastFrom l k (81 - maxL l).toNat (maxL l)) := by
 have hw := wordsB_true hl
 have hm := hw.2 _ (maxL_mem l (by omega))
 intro f
 induction f with
 | zero =>
  intro x hx h1
  obtain rfl : x = maxL l := by omega
  exact specWid_l0 l k hl _ _ (by omega) (by omega) (by omega)
 | succ f ih =>
  intro x hx h1
  have hs : settingB l x = false := by
   rw [← Bool.not_eq_true]
   intro h
   have := (maxL_le x l (by omega)).2 (settingB_true h).2.2
   omega
  refine Ev.step (fun r => spec_LeastWidth.l0.eq_2 ..) ?_
  refine ev_pos (by omega) (Ev.bind (lnFits_ev l x (by omega)) ?_)
  rw [hs]
  refine ev_neg (by simp) ?_
  rw [w64 (by omega) (by omega)]
  exact ih (x + 1) (by omega) (by omega)
theorem specWid_ev (l : List Int) (k : Int) (hn : l.length ≤ 1048576) : Ev (fun r => spec_LeastWidth.f r l k) (leastW l k) := by
 unfold spec_LeastWidth.f leastW leastB
 refine Ev.bind (lnGood_evF l (by omega)) ?_
 by_cases h : wordsB l = true
 ·refine ev_pos h (ev_some (l1In_eq ..) ?_)
  have hm := (wordsB_true h).2 _ (maxL_mem l (by have := (wordsB_true h).1; omega))
  by_cases h2 : 1 ≤ k ∧ k ≤ 30
  ·rw [decide_eq_true h2, h]
   refine Ev.step (fun k => spec_LeastWidth.j0.eq_2 ..) (ev_neg (by simp) ?_)
   exact ev_val (specWid_pre l k h (maxL l - 1).toNat 1 (by omega) (by omega)) (by simp)
  ·rw [decide_eq_false h2]
   exact Ev.step (fun k => spec_LeastWidth.j0.eq_2 ..) (ev_pos rfl (ev_now (by simp)))
 ·refine ev_neg h (Ev.step (fun k => spec_LeastWidth.j0.eq_2 ..) (ev_pos rfl (ev_now ?_)))
  rw [Bool.eq_false_iff.mpr h]; rfl
theorem maxOf_eq (l : List Int) (h : 1 ≤ l.length) : Lib.maxOf l = maxL l :=
 Int.le_antisymm ((maxOf_le _ l h).2 ((maxL_le _ l h).1 (Int.le_refl _))) ((maxL_le _ l h).2 ((maxOf_le _ l h).1 (Int.le_refl _)))
theorem implWid_l0 (l : List Int) (k : Int) (hl : wordsB l = true) : ∀ (f : Nat) (x : Int), x + f = 81 → 1 ≤ x → Ev (fun r => impl_LeastWidth.l0 r l k x) (leastFrom l k f x) := by
 have hw := wordsB_true hl
 intro f
 induction f with
 | zero =>
  intro x hx _
  exact Ev.step (fun r => impl_LeastWidth.l0.eq_2 ..) (ev_neg (by omega) (ev_now rfl))
 | succ f ih =>
  intro x hx h1
  refine Ev.step (fun r => impl_LeastWidth.l0.eq_2 ..) (ev_pos (by omega) (Ev.bind (filled_ev x l (by omega) hw.2) ?_))
  rw [w64 (by omega) (by omega)]
  unfold leastFrom
  by_cases c : ((fillM x l).length : Int) ≤ k
  ·exact ev_pos c (ev_now (by rw [if_pos c]))
  ·rw [if_neg c]
   exact ev_neg c (ih (x + 1) (by omega) (by omega))
theorem implWid_ev (l : List Int) (k : Int) (hn : l.length ≤ 1048576) : Ev (fun r => impl_LeastWidth.f r l k) (leastW l k) := by
 unfold impl_LeastWidth.f leastW leastB
 refine Ev.bind (AreWords_ev l (by omega)) ?_
 by_cases h : wordsB l = true
 ·refine ev_pos h (ev_some (within_eq ..) ?_)
  have hw1 := (wordsB_true h).1
  have hm := (wordsB_true h).2 _ (maxL_mem l (by omega))
  by_cases h2 : 1 ≤ k ∧ k ≤ 30
  ·rw [decide_eq_true h2, h]
   refine Ev.step (fun k => impl_LeastWidth.j0.eq_2 ..) (ev_neg (by simp) (ev_some (show slices_Max_int_int.f l = some (maxL l) from by unfold slices_Max_int_int.f; rw [if_pos (by omega), maxOf_eq l (by omega)]) ?_))
   exact ev_val (implWid_l0 l k h (81 - maxL l).toNat (maxL l) (by omega) (by omega)) (by simp)
  ·rw [decide_eq_false h2]
   exact Ev.step (fun k => impl_LeastWidth.j0.eq_2 ..) (ev_pos rfl (ev_now (by simp)))
 ·refine ev_neg h (Ev.step (fun k => impl_LeastWidth.j0.eq_2 ..) (ev_pos rfl (ev_now ?_)))
  rw [Bool.eq_false_iff.mpr h]; rfl
theorem specAre_ev (xs : List Int) (hn : xs.length < 4611686018427387904) : Ev (fun k => spec_AreWords.f k xs) (wordsB xs) := by
 unfold spec_AreWords.f
 exact Ev.bind (lnGood_ev xs hn) (ev_now rfl)
theorem specWords_ev (l : List UInt8) (hl : l.length ≤ 1048576) : Ev (fun k => spec_WordsOfText.f k (mkB l)) (wordsM l) := by
 unfold spec_WordsOfText.f wordsM
 refine Ev.bind (lnText_ev l hl) ?_
 by_cases h : textOk l = true
 ·have ht := textOk_true h
  rw [if_pos h]
  refine ev_pos h (Ev.bind (lnParts_ev l (by omega)) (Ev.bind (lnLengths_ev _ (parts_small l (by omega))) ?_))
  rw [szL_parts]
  refine Ev.bind (lnGood_ev (lensT l) (by have := parts_length 32 l; rw [lensT_length]; omega)) ?_
  by_cases c : wordsB (lensT l) = true
  ·exact ev_pos c (ev_now (by rw [if_pos c]))
  ·exact ev_neg c (ev_now (by rw [if_neg c]))
 ·exact ev_neg h (ev_now (by rw [if_neg h]))
theorem wordsM_small (l : List UInt8) : (wordsM l).1.length ≤ 1000 := by
 unfold wordsM
 split
 ·split
  ·rename_i h
   have := (wordsB_true h).1.2
   simp only; omega
  ·simp
 ·simp

def validK : List Int → Nat → Prop
 | [], _ => True
 | k :: ks, n => (1 ≤ k ∧ k ≤ (n : Int)) ∧ validK ks (n - k.toNat)
theorem fillL_valid (wide : Int) : ∀ (f : Nat) (ws : List Int), ws.length ≤ f → validK (fillL wide f ws) ws.length
 | 0, ws, h => by
  have : ws = [] := List.eq_nil_of_length_eq_zero (by omega)
  subst this; trivial
 | f + 1, [], _ => trivial
 | f + 1, w :: ws, h => by
  have hk := fillK_ge wide (w :: ws) ws.length 1
  have hr := fillL_valid wide f ((w :: ws).drop (fillK wide (w :: ws) ws.length 1)) (by simp only [List.length_drop, List.length_cons] at h ⊢; omega)
  rw [fillL, validK]
  refine ⟨⟨by omega, by simp only [List.length_cons]; omega⟩, ?_⟩
  rw [List.length_drop] at hr
  rw [Int.toNat_natCast]
  exact hr
def linesJ : List Int → List (List UInt8) → List (List UInt8)
 | [], _ => []
 | k :: ks, ps => Lib.join (ps.take k.toNat) [32] :: linesJ ks (ps.drop k.toNat)
theorem linesJ_length : ∀ (ks : List Int) (ps : List (List UInt8)), (linesJ ks ps).length = ks.length
 | [], _ => rfl
 | k :: ks, ps => by rw [linesJ, List.length_cons, linesJ_length ks, List.length_cons]
theorem joinTail_len (M : Nat) : ∀ (r : List (List UInt8)), (∀ p ∈ r, p.length ≤ M) → (Lib.joinTail [32] r).length ≤ (M + 1) * r.length
 | [], _ => by simp [Lib.joinTail]
 | p :: r, h => by
  have h1 := h p List.mem_cons_self
  have h2 := joinTail_len M r (fun q hq => h q (List.mem_cons_of_mem _ hq))
  have e : Lib.joinTail [32] (p :: r) = ([32] ++ p) ++ Lib.joinTail [32] r := by simp [Lib.joinTail]
  rw [e, List.length_append, List.length_append, List.length_cons (a := p), Nat.mul_succ]
  simp only [List.length_cons, List.length_nil]
  omega
theorem join_len (M : Nat) (ps : List (List UInt8)) (h : ∀ p ∈ ps, p.length ≤ M) : (Lib.join ps [32]).length ≤ (M + 1) * ps.length := by
 rcases ps with _ | ⟨p, ps⟩
 ·simp [Lib.join_nil]
 ·rw [Lib.join_cons, List.length_append, List.length_cons, Nat.mul_succ]
  have h1 := h p List.mem_cons_self
  have h2 := joinTail_len M ps (fun q hq => h q (List.mem_cons_of_mem _ hq))
  omega

theorem e32s_ : (⟨#[32]⟩ : ByteArray) = mkB [32] := rfl
theorem take_mkB (ps : List (List UInt8)) (k : Nat) : (ps.map mkB).take k = (ps.take k).map mkB := by rw [List.map_take]
theorem drop_mkB (ps : List (List UInt8)) (k : Nat) : (ps.map mkB).drop k = (ps.drop k).map mkB := by rw [List.map_drop]
theorem joinB_mkB (ps : List (List UInt8)) (c : UInt8) : joinB (ps.map mkB) (mkB [c]) = Lib.join ps [c] := by
 unfold joinB
 rw [List.map_map, mkB_data]
 have : ((fun x : ByteArray => x.data.toList) ∘ mkB) = id := by funext x; exact mkB_data x
 rw [this, List.map_id]
theorem implSet_l (ks : List Int) (hk : ks.length ≤ 1000) : ∀ (ys : List Int) (i : Int) (ps : List (List UInt8)) (out : List ByteArray), 0 ≤ i → ks.drop i.toNat = ys → validK ys ps.length → ps.length ≤ 1000 → (∀ p ∈ ps, p.length ≤ 1000) → out.length + ys.length ≤ 1000 →
  Ev (fun k => impl_SetText.l0 k out (ps.map mkB) ks (ks.length : Int) i) (out ++ (linesJ ys ps).map mkB, true) := by
 intro ys
 induction ys with
 | nil =>
  intro i ps out h0 h _ _ _ _
  have := drop_nil h0 h
  refine Ev.step (fun k => impl_SetText.l0.eq_2 ..) ?_
  exact ev_neg (by omega) (ev_now (by simp [linesJ]))
 | cons y ys ih =>
  intro i ps out h0 h hv hp hb ho
  obtain ⟨h1, h2, h3, _⟩ := drop_cons h0 h
  obtain ⟨hv1, hv2⟩ := hv
  simp only [List.length_cons] at ho
  have htl : (ps.take y.toNat).length ≤ 1000 := by rw [List.length_take]; omega
  have hjl := join_len 1000 (ps.take y.toNat) (fun p hp => hb p (List.mem_of_mem_take hp))
  have hm : (1000 + 1) * (ps.take y.toNat).length ≤ 1001 * 1000 := Nat.mul_le_mul (Nat.le_refl _) htl
  have hj : strings_Join.f ((ps.map mkB).take y.toNat) (⟨#[32]⟩ : ByteArray) = some (mkB (Lib.join (ps.take y.toNat) [32])) := by
   unfold strings_Join.f
   rw [take_mkB, e32s_, joinB_mkB, if_pos (by rw [List.length_map]; omega), if_pos (by omega)]
   rfl
  refine Ev.step (fun k => impl_SetText.l0.eq_2 ..) ?_
  rw [h2, w64 (x := i + 1) (by omega) (by omega), hj]
  refine ev_pos h1 (ev_pos h0 (ev_pos h1 (ev_pos (by omega) (ev_pos (by rw [List.length_map]; omega) (ev_some rfl (ev_pos (by omega) ?_))))))
  rw [drop_mkB]
  refine ev_val (ih (i + 1) (ps.drop y.toNat) _ (by omega) h3 (by rw [List.length_drop]; exact hv2) (by rw [List.length_drop]; omega) (fun p hp => hb p (List.mem_of_mem_drop hp)) (by simp only [List.length_append, List.length_cons, List.length_nil]; omega)) ?_
  rw [linesJ, List.map_cons, List.append_assoc]; rfl
theorem specSet_l1 (x6 x7 : List ByteArray) (x9 : Int) (ks : List Int) (i : Int) (rs : List (List UInt8)) (hrn : rs.length ≤ 1000) (hb : ∀ p ∈ rs, p.length ≤ 1000) (h7 : x7.length ≤ 100000) (h9 : 0 ≤ x9) (h9b : x9 ≤ (x6.length : Int)) (hi : 0 ≤ i ∧ i ≤ 100000) (r : List ByteArray × Bool) : ∀ (ys : List (List UInt8)) (j : Int) (acc : List UInt8), 0 ≤ j → rs.drop j.toNat = ys → acc.length + 1001 * ys.length ≤ 10000000 →
  Ev (fun k => spec_SetText.l0 k (x6.drop x9.toNat) (x7 ++ [mkB (acc ++ Lib.joinTail [32] ys)]) ks (ks.length : Int) (i + 1)) r →
  Ev (fun k => spec_SetText.l1 k x6 x7 x9 (mkB acc) ks (ks.length : Int) i (rs.map mkB) ((rs.map mkB).length : Int) j) r := by
 intro ys
 induction ys with
 | nil =>
  intro j acc h0 h _ hr
  have := drop_nil h0 h
  refine Ev.step (fun k => spec_SetText.l1.eq_2 ..) ?_
  rw [w64 (x := i + 1) (by omega) (by omega)]
  refine ev_neg (by rw [List.length_map]; omega) (ev_pos (by omega) (ev_pos h9 (ev_pos h9b ?_)))
  simpa [Lib.joinTail] using hr
 | cons y ys ih =>
  intro j acc h0 h ha hr
  obtain ⟨h1, _, h3, _⟩ := drop_get h0 h
  have hy := hb y (List.mem_of_mem_drop (by rw [h]; exact List.mem_cons_self))
  simp only [List.length_cons] at ha
  have hdm : (rs.map mkB).drop j.toNat = mkB y :: ys.map mkB := by rw [drop_mkB, h]; rfl
  refine Ev.step (fun k => spec_SetText.l1.eq_2 ..) ?_
  rw [rdOf_drop h0 hdm, w64 (x := j + 1) (by omega) (by omega), e32s_, mkB_append, mkB_append, mkB_size, mkB_size, mkB_size]
  refine ev_pos (by rw [List.length_map]; omega) (ev_pos h0 (ev_pos (by rw [List.length_map]; omega) (ev_pos (by omega) (ev_pos (by simp only [List.length_append, List.length_cons, List.length_nil]; omega) ?_))))
  refine ih (j + 1) _ (by omega) h3 (by simp only [List.length_append, List.length_cons, List.length_nil]; omega) ?_
  have e : acc ++ ([32] ++ y) ++ Lib.joinTail [32] ys = acc ++ Lib.joinTail [32] (y :: ys) := by simp [Lib.joinTail]
  rw [e]
  exact hr
theorem specSet_l (ks : List Int) (hk : ks.length ≤ 1000) : ∀ (ys : List Int) (i : Int) (ps : List (List UInt8)) (out : List ByteArray), 0 ≤ i → ks.drop i.toNat = ys → validK ys ps.length → ps.length ≤ 1000 → (∀ p ∈ ps, p.length ≤ 1000) → out.length + ys.length ≤ 1000 →
  Ev (fun k => spec_SetText.l0 k (ps.map mkB) out ks (ks.length : Int) i) (out ++ (linesJ ys ps).map mkB, true) := by
 intro ys
 induction ys with
 | nil =>
  intro i ps out h0 h _ _ _ _
  have := drop_nil h0 h
  refine Ev.step (fun k => spec_SetText.l0.eq_2 ..) ?_
  exact ev_neg (by omega) (ev_now (by simp [linesJ]))
 | cons y ys ih =>
  intro i ps out h0 h hv hp hb ho
  obtain ⟨h1, h2, h3, _⟩ := drop_cons h0 h
  obtain ⟨hv1, hv2⟩ := hv
  simp only [List.length_cons] at ho
  obtain ⟨p, qs, hpq⟩ : ∃ p qs, ps = p :: qs := by
   rcases ps with _ | ⟨p, qs⟩
   ·simp only [List.length_nil] at hv1; omega
   ·exact ⟨p, qs, rfl⟩
  have hr0 : rdOf ByteArray.empty (ps.map mkB) 0 = mkB p := by rw [hpq]; rfl
  have hcut : ((ps.map mkB).take y.toNat).drop 1 = (qs.take (y.toNat - 1)).map mkB := by
   rw [take_mkB, drop_mkB, hpq]
   obtain ⟨m, hm⟩ : ∃ m, y.toNat = m + 1 := ⟨y.toNat - 1, by omega⟩
   rw [hm, List.take_succ_cons, List.drop_succ_cons, List.drop_zero, Nat.add_sub_cancel]
  have hjoin : Lib.join (ps.take y.toNat) [32] = p ++ Lib.joinTail [32] (qs.take (y.toNat - 1)) := by
   rw [hpq]
   obtain ⟨m, hm⟩ : ∃ m, y.toNat = m + 1 := ⟨y.toNat - 1, by omega⟩
   rw [hm, List.take_succ_cons, Lib.join_cons, Nat.add_sub_cancel]
  have hqn : (qs.take (y.toNat - 1)).length ≤ 1000 := by
   have : qs.length ≤ 1000 := by rw [hpq, List.length_cons] at hp; omega
   rw [List.length_take]; omega
  have hpl : p.length ≤ 1000 := hb p (by rw [hpq]; exact List.mem_cons_self)
  refine Ev.step (fun k => spec_SetText.l0.eq_2 ..) ?_
  rw [h2, hr0, hcut]
  refine ev_pos h1 (ev_pos h0 (ev_pos h1 (ev_pos (by rw [List.length_map]; omega) (ev_pos (by omega) (ev_pos (by rw [List.length_map]; omega) (ev_some rfl ?_))))))
  refine specSet_l1 (ps.map mkB) out y ks i (qs.take (y.toNat - 1)) hqn (fun q hq => hb q (by rw [hpq]; exact List.mem_cons_of_mem _ (List.mem_of_mem_take hq))) (by omega) (by omega) (by rw [List.length_map]; omega) (by omega) _ _ 0 p (by omega) rfl (by rw [Int.toNat_zero, List.drop_zero]; omega) ?_
  rw [drop_mkB, Int.toNat_zero, List.drop_zero, ← hjoin]
  refine ev_val (ih (i + 1) (ps.drop y.toNat) _ (by omega) h3 (by rw [List.length_drop]; exact hv2) (by rw [List.length_drop]; omega) (fun p hp => hb p (List.mem_of_mem_drop hp)) (by simp only [List.length_append, List.length_cons, List.length_nil]; omega)) ?_
  rw [linesJ, List.map_cons, List.append_assoc]; rfl
def setOk (l : List UInt8) (w : Int) : Bool := textOk l && settingB (lensT l) w
def setM (l : List UInt8) (w : Int) : List ByteArray × Bool := if setOk l w = true then ((linesJ (fillM w (lensT l)) (parts 32 l)).map mkB, true) else ([], false)
theorem setOk_facts {l : List UInt8} {w : Int} (h : setOk l w = true) : textOk l = true ∧ settingB (lensT l) w = true ∧ (lensT l).length ≤ 30 ∧ (∀ n ∈ lensT l, 1 ≤ n ∧ n ≤ 80) ∧ (parts 32 l).length ≤ 30 ∧ (∀ p ∈ parts 32 l, p.length ≤ 1000) ∧ validK (fillM w (lensT l)) (parts 32 l).length ∧ (fillM w (lensT l)).length ≤ 30 := by
 simp only [setOk, Bool.and_eq_true] at h
 obtain ⟨h1, h2⟩ := h
 have ht := textOk_true h1
 have hw := wordsB_true (settingB_true h2).1
 have hl := lensT_length l
 refine ⟨h1, h2, by omega, hw.2, by omega, fun p hp => ?_, ?_, ?_⟩
 ·have := parts_part_len 32 l p hp; omega
 ·rw [← hl]; exact fillL_valid w _ _ (Nat.le_refl _)
 ·have := fillL_length w (lensT l).length (lensT l)
  unfold fillM; omega
theorem setM_small (l : List UInt8) (w : Int) : (setM l w).1.length ≤ 1000 := by
 unfold setM
 split
 ·rename_i h
  have := (setOk_facts h).2.2.2.2.2.2.2
  simp only [List.length_map, linesJ_length]; omega
 ·simp
theorem specSet_ev (l : List UInt8) (w : Int) (hl : l.length ≤ 1048576) : Ev (fun k => spec_SetText.f k (mkB l) w) (setM l w) := by
 have fall : ∀ b : Bool, b = true → setOk l w = false → Ev (fun k => spec_SetText.j0 k (mkB l) w b) (setM l w) := fun b hb hf => by
  refine Ev.step (fun k => spec_SetText.j0.eq_2 ..) (ev_pos hb (ev_now ?_))
  unfold setM; rw [hf]; rfl
 unfold spec_SetText.f
 refine Ev.bind (lnText_ev l hl) ?_
 by_cases h1 : textOk l = true
 ·have ht := textOk_true h1
  refine ev_pos h1 (Ev.bind (lnParts_ev l (by omega)) (Ev.bind (lnLengths_ev _ (parts_small l (by omega))) ?_))
  rw [szL_parts]
  refine Ev.bind (lnFits_ev (lensT l) w (by have := parts_length 32 l; rw [lensT_length]; omega)) ?_
  by_cases h2 : settingB (lensT l) w = true
  ·have hok : setOk l w = true := by unfold setOk; rw [h1, h2]; rfl
   obtain ⟨_, _, f1, f2, f3, f4, f5, f6⟩ := setOk_facts hok
   refine Ev.step (fun k => spec_SetText.j0.eq_2 ..) (ev_neg (by rw [h2]; simp) (Ev.bind (lnParts_ev l (by omega)) (Ev.bind (lnLengths_ev _ (parts_small l (by omega))) ?_)))
   rw [szL_parts]
   refine Ev.bind (lnFill_ev w (lensT l) f1 f2) ?_
   refine ev_val (specSet_l _ (by omega) _ 0 (parts 32 l) [] (by omega) rfl f5 (by omega) f4 (by simp only [List.length_nil, Int.toNat_zero, List.drop_zero]; omega)) ?_
   unfold setM; rw [if_pos hok]; rfl
  ·exact fall _ (by rw [Bool.eq_false_iff.2 h2]; rfl) (by unfold setOk; rw [Bool.eq_false_iff.2 h2, Bool.and_false])
 ·exact ev_neg h1 (fall _ rfl (by unfold setOk; rw [Bool.eq_false_iff.2 h1, Bool.false_and]))
theorem implSet_ev (l : List UInt8) (w : Int) (hl : l.length ≤ 1048576) : Ev (fun k => impl_SetText.f k (mkB l) w) (setM l w) := by
 have fall : ∀ (x : List Int) (b : Bool), b = true → setOk l w = false → Ev (fun k => impl_SetText.j0 k (mkB l) w x b) (setM l w) := fun x b hb hf => by
  refine Ev.step (fun k => impl_SetText.j0.eq_2 ..) (ev_pos hb (ev_now ?_))
  unfold setM; rw [hf]; rfl
 unfold impl_SetText.f
 refine Ev.bind (implWords_ev l hl) ?_
 by_cases h1 : textOk l = true
 ·have ht := textOk_true h1
  by_cases h3 : wordsB (lensT l) = true
  ·have e : wordsM l = (lensT l, true) := by unfold wordsM; rw [if_pos h1, if_pos h3]
   rw [e]
   refine ev_pos rfl (Ev.bind (isSetting_ev (lensT l) w (by have := parts_length 32 l; rw [lensT_length]; omega)) ?_)
   by_cases h2 : settingB (lensT l) w = true
   ·have hok : setOk l w = true := by unfold setOk; rw [h1, h2]; rfl
    obtain ⟨_, _, f1, f2, f3, f4, f5, f6⟩ := setOk_facts hok
    refine Ev.step (fun k => impl_SetText.j0.eq_2 ..) (ev_neg (by rw [h2]; simp) (ev_some (split_eq 32 l (by omega)) (Ev.bind (filled_ev w (lensT l) f1 f2) ?_)))
    refine ev_val (implSet_l _ (by omega) _ 0 (parts 32 l) [] (by omega) rfl f5 (by omega) f4 (by simp only [List.length_nil, Int.toNat_zero, List.drop_zero]; omega)) ?_
    unfold setM; rw [if_pos hok]; rfl
   ·exact fall _ _ (by rw [Bool.eq_false_iff.2 h2]; rfl) (by unfold setOk; rw [Bool.eq_false_iff.2 h2, Bool.and_false])
  ·have e : wordsM l = ([], false) := by unfold wordsM; rw [if_pos h1, if_neg h3]
   have hs : settingB (lensT l) w = false := by unfold settingB; rw [Bool.eq_false_iff.2 h3, Bool.false_and]
   rw [e]
   exact ev_neg (by simp) (fall _ _ rfl (by unfold setOk; rw [hs, Bool.and_false]))
 ·have e : wordsM l = ([], false) := by unfold wordsM; rw [if_neg h1]
  rw [e]
  exact ev_neg (by simp) (fall _ _ rfl (by unfold setOk; rw [Bool.eq_false_iff.2 h1, Bool.false_and]))

/-! ### The lines of a text: just as wide as their words need, and joined they are the text -/
theorem jt_cons (c : UInt8) (p : List UInt8) (r : List (List UInt8)) : Lib.joinTail [c] (p :: r) = c :: (p ++ Lib.joinTail [c] r) := by simp [Lib.joinTail]
theorem jt_append (c : UInt8) (a b : List (List UInt8)) : Lib.joinTail [c] (a ++ b) = Lib.joinTail [c] a ++ Lib.joinTail [c] b := by simp [Lib.joinTail]
theorem jt_join (c : UInt8) (q : List (List UInt8)) (h : q ≠ []) : c :: Lib.join q [c] = Lib.joinTail [c] q := by
 cases q with
 | nil => exact absurd rfl h
 | cons p r => rw [Lib.join_cons, jt_cons]
def lenL (ps : List (List UInt8)) : List Int := ps.map fun p => (p.length : Int)
theorem jt_len (c : UInt8) : ∀ r : List (List UInt8), ((Lib.joinTail [c] r).length : Int) = (lenL r).sum + r.length
 | [] => by simp [Lib.joinTail, lenL]
 | p :: r => by
  have ih := jt_len c r
  rw [jt_cons, List.length_cons, List.length_append]
  simp only [lenL, List.map_cons, List.sum_cons, List.length_cons] at ih ⊢
  omega
theorem join_need (q : List (List UInt8)) (h : q ≠ []) : ((Lib.join q [32]).length : Int) = needL (lenL q) := by
 have h1 := congrArg List.length (jt_join 32 q h)
 have h2 := jt_len 32 q
 have h3 : (lenL q).length = q.length := by simp [lenL]
 rw [List.length_cons] at h1
 unfold needL; omega
theorem lenL_take (ps : List (List UInt8)) (k : Nat) : lenL (ps.take k) = (lenL ps).take k := by unfold lenL; rw [List.map_take]
theorem lenL_drop (ps : List (List UInt8)) (k : Nat) : lenL (ps.drop k) = (lenL ps).drop k := by unfold lenL; rw [List.map_drop]
theorem lenL_length (ps : List (List UInt8)) : (lenL ps).length = ps.length := by simp [lenL]
theorem lines_wide (w : Int) : ∀ (ks : List Int) (ps : List (List UInt8)), LinesOf (lenL ps) ks → (∀ u ∈ usedL (lenL ps) ks, u ≤ w) → ∀ ln ∈ linesJ ks ps, (ln.length : Int) ≤ w
 | [], ps, _, _, ln, h => by simp [linesJ] at h
 | k :: ks, ps, hL, hu, ln, h => by
  obtain ⟨⟨h1, h2⟩, h3⟩ := hL
  rw [lenL_length] at h2
  rw [usedL] at hu
  rw [← lenL_drop] at h3
  rw [linesJ] at h
  rcases List.mem_cons.1 h with rfl | h
  ·have hne : ps.take k.toNat ≠ [] := fun q => by
    have := congrArg List.length q
    rw [List.length_take, List.length_nil] at this
    omega
   rw [join_need _ hne, lenL_take]
   exact hu _ List.mem_cons_self
  ·exact lines_wide w ks (ps.drop k.toNat) h3 (fun u q => hu u (List.mem_cons_of_mem _ (by rw [← lenL_drop]; exact q))) ln h
theorem lines_join (c : UInt8) (hc : c = 32) : ∀ (ks : List Int) (ps : List (List UInt8)), LinesOf (lenL ps) ks → Lib.joinTail [c] (linesJ ks ps) = Lib.joinTail [c] ps
 | [], ps, h => by
  have : ps = [] := by
   have := congrArg List.length h
   rw [lenL_length] at this
   exact List.eq_nil_of_length_eq_zero (by simpa using this)
  subst this; rfl
 | k :: ks, ps, h => by
  obtain ⟨⟨h1, h2⟩, h3⟩ := h
  rw [lenL_length] at h2
  rw [← lenL_drop] at h3
  have hne : ps.take k.toNat ≠ [] := fun q => by
   have := congrArg List.length q
   rw [List.length_take, List.length_nil] at this
   omega
  have ih := lines_join c hc ks (ps.drop k.toNat) h3
  have hj := jt_join c _ hne
  rw [linesJ, jt_cons, ih, ← hc, ← List.cons_append, hj, ← jt_append, List.take_append_drop]
theorem parts_join (c : UInt8) : ∀ l : List UInt8, Lib.joinTail [c] (parts c l) = c :: l
 | [] => by simp [parts, Lib.joinTail]
 | x :: xs => by
  have ih := parts_join c xs
  rw [parts]
  split
  ·rename_i h
   rw [jt_cons, ih, h]; rfl
  ·rcases hp : parts c xs with _ | ⟨p, ps⟩
   ·exact absurd hp (parts_ne c xs)
   ·rw [hp, jt_cons] at ih
    injection ih with _ ih
    rw [headOn, jt_cons, List.cons_append, ih]
/-- What the law knows of the lines of a text. -/
theorem set_facts {l : List UInt8} {w : Int} (hf : ∀ n ∈ lensT l, n ≤ w) : Lib.joinTail [32] (linesJ (fillM w (lensT l)) (parts 32 l)) = 32 :: l ∧ ∀ ln ∈ linesJ (fillM w (lensT l)) (parts 32 l), (ln.length : Int) ≤ w := by
 have e : lensT l = lenL (parts 32 l) := rfl
 obtain ⟨h1, h2, _⟩ := fill_lines w _ (lensT l) (Nat.le_refl _) hf
 exact ⟨by rw [lines_join 32 rfl _ _ h1, parts_join], lines_wide w _ _ h1 h2⟩

/-! ### A cursor's draws: they end, and what they draw is small -/
def Dr {α : Type} (P : α → Prop) (B : Int) (g : Nat → Option (α × Int × Int)) : Prop := ∃ p : α × Int × Int, Ev g p ∧ P p.1 ∧ 0 ≤ p.2.1 ∧ p.2.1 ≤ B
theorem Dr.bind {α β : Type} {P : α → Prop} {Q : β → Prop} {B C : Int} {g : Nat → Option (α × Int × Int)} {f : Nat → (α × Int × Int) → Option (β × Int × Int)} (h : Dr P B g) (k : ∀ p : α × Int × Int, P p.1 → 0 ≤ p.2.1 → p.2.1 ≤ B → Dr Q C (fun n => f n p)) : Dr Q C (fun n => (g n).bind (f n)) := by
 obtain ⟨p, h1, h2, h3, h4⟩ := h
 obtain ⟨q, k1, k2, k3, k4⟩ := k p h2 h3 h4
 exact ⟨q, Ev.bind h1 k1, k2, k3, k4⟩
theorem Dr.now {α : Type} {P : α → Prop} {B : Int} {r : α} {a s : Int} (h : P r) (h0 : 0 ≤ a) (h1 : a ≤ B) : Dr P B (fun _ => some (r, a, s)) := ⟨(r, a, s), ev_now rfl, h, h0, h1⟩
theorem Dr.pos {α : Type} {P : α → Prop} {B : Int} {c : Prop} [Decidable c] {f g : Nat → Option (α × Int × Int)} (hc : c) (h : Dr P B f) : Dr P B (fun k => if c then f k else g k) := by
 simpa only [if_pos hc] using h
theorem Dr.neg {α : Type} {P : α → Prop} {B : Int} {c : Prop} [Decidable c] {f g : Nat → Option (α × Int × Int)} (hc : ¬ c) (h : Dr P B g) : Dr P B (fun k => if c then f k else g k) := by
 simpa only [if_neg hc] using h
theorem Dr.step {α : Type} {P : α → Prop} {B : Int} {g f : Nat → Option (α × Int × Int)} (h : ∀ k, g (k + 1) = f k) (k : Dr P B f) : Dr P B g := by
 obtain ⟨p, k1, k2⟩ := k
 exact ⟨p, Ev.step h k1, k2⟩
theorem Dr.mono {α : Type} {P Q : α → Prop} {B C : Int} {g : Nat → Option (α × Int × Int)} (h : Dr P B g) (hP : ∀ r, P r → Q r) (hB : B ≤ C) : Dr Q C g := by
 obtain ⟨p, h1, h2, h3, h4⟩ := h
 exact ⟨p, h1, hP _ h2, h3, by omega⟩
theorem Dr.some {α : Type} {γ : Type} {P : α → Prop} {B : Int} {x : Option γ} {y : γ} {f : Nat → γ → Option (α × Int × Int)} (h : x = Option.some y) (k : Dr P B (fun n => f n y)) : Dr P B (fun n => x.bind (f n)) := by
 subst h; exact k
def byteL (c : List Int) : Prop := ∀ x ∈ c, 0 ≤ x ∧ x ≤ 255
theorem byte_rd {c : List Int} (hc : byteL c) (i : Int) : 0 ≤ rd c i ∧ rd c i ≤ 255 := by
 unfold rd
 rw [List.getD_eq_getElem?_getD]
 rcases h : c[i.toNat]? with _ | x
 ·simp
 ·exact hc x (List.mem_of_getElem? h)
theorem b255 (z : Int) (h : 0 ≤ z) (h2 : z < 18446744073709551616) : 0 ≤ Go.bits .and .u64 z 255 ∧ Go.bits .and .u64 z 255 ≤ 255 := by
 obtain ⟨n, rfl⟩ : ∃ n : Nat, z = n := ⟨z.toNat, by omega⟩
 have e := bits_and_u64_nat n 255 (by omega) (by omega)
 have e2 : ((255 : Nat) : Int) = 255 := rfl
 rw [e2] at e
 rw [e]
 have := Nat.and_le_right (n := n) (m := 255)
 omega
theorem u64r (z : Int) : 0 ≤ IntKind.u64.wrap z ∧ IntKind.u64.wrap z < 18446744073709551616 := by
 have e : IntKind.u64.wrap z = z % 18446744073709551616 := by simp [IntKind.wrap, IntKind.signed, IntKind.bits]
 rw [e]; omega
theorem next_ok (c : List Int) (hc : byteL c) (a s : Int) (h0 : 0 ≤ a) (h1 : a ≤ 1000000000) : ∃ r s', spec_l1Cur_next.f c a s = some (r, a + 1, s') ∧ 0 ≤ r ∧ r ≤ 255 := by
 unfold spec_l1Cur_next.f
 rw [w64 (x := a + 1) (by omega) (by omega)]
 have hb := byte_rd hc a
 have hz : ∀ z : Int, 0 ≤ wrap64 (Go.bits .and .u64 (IntKind.u64.wrap z / 1099511627776) 255) ∧ wrap64 (Go.bits .and .u64 (IntKind.u64.wrap z / 1099511627776) 255) ≤ 255 := fun z => by
  have h := u64r z
  have := b255 (IntKind.u64.wrap z / 1099511627776) (by omega) (by omega)
  rw [w64 (by omega) (by omega)]; exact this
 by_cases c1 : a < (c.length : Int)
 ·by_cases c2 : a + 1 ≤ (c.length : Int)
  ·exact ⟨_, _, by rw [if_pos c1, if_pos h0, if_pos c2], by rw [w64 (by omega) (by omega)]; exact hb⟩
  ·exact ⟨_, _, by rw [if_pos c1, if_pos h0, if_neg c2], hz _⟩
 ·by_cases c2 : a + 1 ≤ (c.length : Int)
  ·exact ⟨_, _, by rw [if_neg c1, if_pos c2], by omega⟩
  ·exact ⟨_, _, by rw [if_neg c1, if_neg c2], hz _⟩
theorem pick_ok (c : List Int) (hc : byteL c) (a s n : Int) (h0 : 0 ≤ a) (h1 : a ≤ 1000000) (hn : n ≤ 1000000) : ∃ r a' s', spec_l1Cur_pick.f c a s n = some (r, a', s') ∧ (0 ≤ r ∧ (r < n ∨ r = 0)) ∧ 0 ≤ a' ∧ a' ≤ a + 2 := by
 unfold spec_l1Cur_pick.f
 by_cases c1 : n ≤ 1
 ·exact ⟨0, a, s, by rw [if_pos c1], by omega, h0, by omega⟩
 obtain ⟨x, s1, e1, x0, x1⟩ := next_ok c hc a s h0 (by omega)
 by_cases c2 : n > 200
 ·obtain ⟨y, s2, e2, y0, y1⟩ := next_ok c hc (a + 1) s1 (by omega) (by omega)
  have hm : Int.tmod (x * 256 + y) n = (x * 256 + y) % n := Int.tmod_eq_emod_of_nonneg (by omega)
  have hr0 := Int.emod_nonneg (x * 256 + y) (by omega : n ≠ 0)
  have hr1 := Int.emod_lt_of_pos (x * 256 + y) (by omega : 0 < n)
  refine ⟨(x * 256 + y) % n, a + 2, s2, ?_, by omega, by omega, by omega⟩
  rw [if_neg c1, e1]
  simp only [Option.bind_some]
  rw [if_pos c2, e2]
  simp only [Option.bind_some]
  rw [if_neg (by omega), w64 (x := x * 256) (by omega) (by omega), w64 (by omega) (by omega), hm, show a + 1 + 1 = a + 2 from by omega]
 ·have hm : Int.tmod x n = x % n := Int.tmod_eq_emod_of_nonneg (by omega)
  have hr0 := Int.emod_nonneg x (by omega : n ≠ 0)
  have hr1 := Int.emod_lt_of_pos x (by omega : 0 < n)
  refine ⟨x % n, a + 1, s1, ?_, by omega, by omega, by omega⟩
  rw [if_neg c1, e1]
  simp only [Option.bind_some]
  rw [if_neg c2, if_neg (by omega), hm]
theorem pick_dr (c : List Int) (hc : byteL c) (a s n B : Int) (h0 : 0 ≤ a) (h1 : a ≤ B) (hB : B ≤ 1000000) (hn : n ≤ 1000000) : Dr (fun r => 0 ≤ r ∧ (r < n ∨ r = 0)) (B + 2) (fun _ => spec_l1Cur_pick.f c a s n) := by
 obtain ⟨r, a', s', e, h2, h3, h4⟩ := pick_ok c hc a s n h0 (by omega) hn
 exact ⟨(r, a', s'), by rw [e]; exact ev_now rfl, h2, h3, by show a' ≤ B + 2; omega⟩
theorem one_dr (c : List Int) (hc : byteL c) (a s n B : Int) (h0 : 0 ≤ a) (h1 : a ≤ B) (hB : B ≤ 1000000) (hn : n ≤ 1000000) : Dr (fun _ => True) (B + 2) (fun _ => spec_l1Cur_one.f c a s n) := by
 unfold spec_l1Cur_one.f
 exact Dr.bind (pick_dr c hc a s n B h0 h1 hB hn) fun p3 _ h3 h4 => Dr.now trivial h3 h4
theorem among_dr (c : List Int) (hc : byteL c) (a s B : Int) (l : List Int) (hl : 1 ≤ l.length) (hl2 : l.length ≤ 1000000) (h0 : 0 ≤ a) (h1 : a ≤ B) (hB : B ≤ 1000000) : Dr (fun _ => True) (B + 2) (fun _ => spec_l1Cur_among.f c a s l) := by
 unfold spec_l1Cur_among.f
 refine Dr.bind (pick_dr c hc a s _ B h0 h1 hB (by omega)) fun p3 h2 h3 h4 => ?_
 exact Dr.pos h2.1 (Dr.pos (by omega) (Dr.now trivial h3 h4))

theorem sureWords_l (c : List Int) (hc : byteL c) : ∀ (m : Nat) (out : List Int) (a s B : Int), 0 ≤ a → a ≤ B → B + 2 * m ≤ 1000000 → out.length + m ≤ 1000 →
  Dr (fun r => r.length ≤ out.length + m) (B + 2 * m) (fun k => spec_l1Cur_sureWords.l0 k out (m : Int) c a s) := by
 intro m
 induction m with
 | zero =>
  intro out a s B h0 h1 hB ho
  refine Dr.step (fun k => spec_l1Cur_sureWords.l0.eq_2 ..) (Dr.neg (by omega) (Dr.now (by simp) h0 (by omega)))
 | succ m ih =>
  intro out a s B h0 h1 hB ho
  refine Dr.step (fun k => spec_l1Cur_sureWords.l0.eq_2 ..) (Dr.pos (by omega) (Dr.bind (pick_dr c hc a s 8 B h0 h1 (by omega) (by omega)) fun p3 h2 h3 h4 => ?_))
  refine Dr.pos (by omega) ?_
  have e : wrap64 (((m + 1 : Nat) : Int) - 1) = (m : Int) := by rw [w64 (by omega) (by omega)]; omega
  rw [e]
  exact (ih (out ++ [wrap64 (1 + p3.1)]) p3.2.1 p3.2.2 (B + 2) h3 h4 (by omega) (by simp; omega)).mono (fun _ h => by simp at h; omega) (by omega)
theorem sureWords_dr (c : List Int) (hc : byteL c) (a s B n : Int) (h0 : 0 ≤ a) (h1 : a ≤ B) (hB : B ≤ 900000) (hn0 : 1 ≤ n) (hn : n ≤ 100) : Dr (fun r => r.length ≤ 100) (B + 300) (fun k => spec_l1Cur_sureWords.f k c a s n) := by
 unfold spec_l1Cur_sureWords.f
 refine Dr.bind (pick_dr c hc a s n B h0 h1 (by omega) (by omega)) fun p3 h2 h3 h4 => ?_
 have e : wrap64 (1 + p3.1) = ((p3.1 + 1).toNat : Int) := by rw [w64 (by omega) (by omega)]; omega
 rw [e]
 exact (sureWords_l c hc (p3.1 + 1).toNat [] p3.2.1 p3.2.2 (B + 2) h3 h4 (by omega) (by simp; omega)).mono (fun _ h => by simp at h; omega) (by omega)
theorem words_l (c : List Int) (hc : byteL c) : ∀ (d : Nat) (out : List Int) (a s B : Int), 0 ≤ a → a ≤ B → B + 2 * d + 2 ≤ 1000000 → 200 ≤ out.length + d → out.length ≤ 200 →
  Dr (fun r => r.length ≤ 200) (B + 2 * d + 2) (fun k => spec_l1Cur_words.l0 k out c a s) := by
 intro d
 induction d with
 | zero =>
  intro out a s B h0 h1 hB ho ho2
  refine Dr.step (fun k => spec_l1Cur_words.l0.eq_2 ..) (Dr.bind (pick_dr c hc a s 2 B h0 h1 (by omega) (by omega)) fun p3 h2 h3 h4 => ?_)
  exact Dr.neg (by rw [w64 (by omega) (by omega)]; omega) (Dr.now ho2 h3 (by omega))
 | succ d ih =>
  intro out a s B h0 h1 hB ho ho2
  refine Dr.step (fun k => spec_l1Cur_words.l0.eq_2 ..) (Dr.bind (pick_dr c hc a s 2 B h0 h1 (by omega) (by omega)) fun p3 h2 h3 h4 => ?_)
  by_cases q : (out.length : Int) < wrap64 (30 + p3.1)
  ·rw [w64 (by omega) (by omega)] at q
   refine Dr.pos (by rw [w64 (by omega) (by omega)]; exact q) (Dr.pos (by omega) ?_)
   exact (ih (out ++ [3]) p3.2.1 p3.2.2 (B + 2) h3 h4 (by omega) (by simp; omega) (by simp; omega)).mono (fun _ h => h) (by omega)
  ·exact Dr.neg q (Dr.now ho2 h3 (by omega))
theorem words_dr (c : List Int) (hc : byteL c) (a s B : Int) (h0 : 0 ≤ a) (h1 : a ≤ B) (hB : B ≤ 500000) : Dr (fun r => r.length ≤ 200) (B + 1000) (fun k => spec_l1Cur_words.f k c a s) := by
 unfold spec_l1Cur_words.f
 refine Dr.bind (sureWords_dr c hc a s B 9 h0 h1 (by omega) (by omega) (by omega)) fun p3 ho h3 h4 => ?_
 refine Dr.bind (pick_dr c hc p3.2.1 p3.2.2 20 (B + 300) h3 h4 (by omega) (by omega)) fun p5 _ h5 h6 => ?_
 by_cases c1 : p5.1 = 0
 ·exact Dr.pos c1 (Dr.now (by simp) h5 (by omega))
 refine Dr.neg c1 ?_
 by_cases c2 : p5.1 = 1
 ·refine Dr.pos c2 (Dr.bind (among_dr c hc p5.2.1 p5.2.2 (B + 302) _ (by simp) (by simp) h5 (by omega) (by omega)) fun p7 _ h7 h8 => ?_)
  exact Dr.pos (by omega) (Dr.now (by simp; omega) h7 (by omega))
 refine Dr.neg c2 ?_
 by_cases c3 : p5.1 = 2
 ·exact Dr.pos c3 ((words_l c hc 200 p3.1 p5.2.1 p5.2.2 (B + 302) h5 (by omega) (by omega) (by omega) (by omega)).mono (fun _ h => h) (by omega))
 ·exact Dr.neg c3 (Dr.now (by omega) h5 (by omega))
theorem wide_dr (c : List Int) (hc : byteL c) (a s B : Int) (h0 : 0 ≤ a) (h1 : a ≤ B) (hB : B ≤ 900000) : Dr (fun _ => True) (B + 4) (fun _ => spec_l1Cur_wide.f c a s) := by
 unfold spec_l1Cur_wide.f
 refine Dr.bind (one_dr c hc a s 8 B h0 h1 (by omega) (by omega)) fun p3 _ h3 h4 => ?_
 by_cases c1 : p3.1 = true
 ·exact Dr.pos c1 (Dr.bind (among_dr c hc p3.2.1 p3.2.2 (B + 2) _ (by simp) (by simp) h3 (by omega) (by omega)) fun p7 _ h7 h8 => Dr.now trivial h7 (by omega))
 ·exact Dr.neg c1 (Dr.bind (pick_dr c hc p3.2.1 p3.2.2 18 (B + 2) h3 h4 (by omega) (by omega)) fun p7 _ h7 h8 => Dr.now trivial h7 (by omega))

theorem sz_ext0 (x : ByteArray) (i : Nat) (h : i ≤ x.size) : (x.extract 0 i).size = i := by rw [ByteArray.size_extract]; omega
theorem sz_ext1 (x : ByteArray) (i : Nat) : (x.extract i x.size).size = x.size - i := by rw [ByteArray.size_extract]; omega
theorem sz_one (z : Int) : (strOfNums [z]).size = 1 := rfl
theorem spoilt_l (c : List Int) (hc : byteL c) (x2 : ByteArray) (h2a : 1 ≤ x2.size) (h2b : x2.size ≤ 1000) : ∀ (m : Nat) (x1 : ByteArray) (a s B : Int), 0 ≤ a → a ≤ B → B + 6 * m ≤ 1000000 → x1.size + m ≤ 900000 →
  Dr (fun r => r.size ≤ x1.size + m) (B + 6 * m) (fun k => spec_l1Cur_spoilt.l0 k x1 x2 (m : Int) c a s) := by
 intro m
 induction m with
 | zero =>
  intro x1 a s B h0 h1 hB ho
  exact Dr.step (fun k => spec_l1Cur_spoilt.l0.eq_2 ..) (Dr.neg (by omega) (Dr.step (fun k => spec_l1Cur_spoilt.j1.eq_2 ..) (Dr.neg (by simp) (Dr.now (by simp) h0 (by omega)))))
 | succ m ih =>
  intro x1 a s B h0 h1 hB ho
  refine Dr.step (fun k => spec_l1Cur_spoilt.l0.eq_2 ..) (Dr.pos (by omega) ?_)
  by_cases hs : (x1.size : Int) > 0
  ·rw [decide_eq_true hs]
   refine Dr.step (fun k => spec_l1Cur_spoilt.j1.eq_2 ..) (Dr.pos rfl ?_)
   refine Dr.bind (pick_dr c hc a s _ B h0 h1 (by omega) (by omega)) fun p3 hi h3 h4 => ?_
   refine Dr.bind (pick_dr c hc p3.2.1 p3.2.2 _ (B + 2) h3 h4 (by omega) (by omega)) fun p5 hj h5 h6 => ?_
   refine Dr.pos hj.1 (Dr.pos (by omega) (Dr.some rfl ?_))
   refine Dr.bind (pick_dr c hc p5.2.1 p5.2.2 3 (B + 2 + 2) h5 h6 (by omega) (by omega)) fun p7 _ h7 h8 => ?_
   have e : wrap64 (((m + 1 : Nat) : Int) - 1) = (m : Int) := by rw [w64 (by omega) (by omega)]; omega
   have e2 : wrap64 (p3.1 + 1) = p3.1 + 1 := w64 (by omega) (by omega)
   have z0 := sz_ext0 x1 p3.1.toNat (by omega)
   have z1 := sz_ext1 x1 p3.1.toNat
   have z2 := sz_ext1 x1 (p3.1 + 1).toNat
   have z3 := sz_one (bt x2 p5.1)
   rw [e, e2]
   by_cases c1 : p7.1 = 0
   ·refine Dr.pos c1 (Dr.pos hi.1 (Dr.pos (by omega) (Dr.pos (by omega) (Dr.pos (by rw [ByteArray.size_append]; omega) ?_))))
    refine (ih _ p7.2.1 p7.2.2 (B + 6) h7 (by omega) (by omega) ?_).mono (fun r h => ?_) (by omega)
    ·rw [ByteArray.size_append, ByteArray.size_append]; omega
    ·rw [ByteArray.size_append, ByteArray.size_append] at h; omega
   refine Dr.neg c1 ?_
   by_cases c2 : p7.1 = 1
   ·refine Dr.pos c2 (Dr.pos hi.1 (Dr.pos (by omega) (Dr.pos (by omega) (Dr.pos (by omega) (Dr.pos (by omega) (Dr.pos (by rw [ByteArray.size_append]; omega) ?_))))))
    refine (ih _ p7.2.1 p7.2.2 (B + 6) h7 (by omega) (by omega) ?_).mono (fun r h => ?_) (by omega)
    ·rw [ByteArray.size_append, ByteArray.size_append]; omega
    ·rw [ByteArray.size_append, ByteArray.size_append] at h; omega
   ·refine Dr.neg c2 (Dr.pos hi.1 (Dr.pos (by omega) (Dr.pos (by omega) (Dr.pos (by omega) (Dr.pos (by omega) ?_)))))
    refine (ih _ p7.2.1 p7.2.2 (B + 6) h7 (by omega) (by omega) ?_).mono (fun r h => ?_) (by omega)
    ·rw [ByteArray.size_append]; omega
    ·rw [ByteArray.size_append] at h; omega
  ·rw [decide_eq_false hs]
   exact Dr.step (fun k => spec_l1Cur_spoilt.j1.eq_2 ..) (Dr.neg (by simp) (Dr.now (by omega) h0 (by omega)))
theorem spoilt_dr (c : List Int) (hc : byteL c) (x1 x2 : ByteArray) (h2a : 1 ≤ x2.size) (h2b : x2.size ≤ 1000) (h1a : x1.size ≤ 800000) (a s B : Int) (h0 : 0 ≤ a) (h1 : a ≤ B) (hB : B ≤ 900000) : Dr (fun r => r.size ≤ x1.size + 2) (B + 14) (fun k => spec_l1Cur_spoilt.f k c a s x1 x2) := by
 unfold spec_l1Cur_spoilt.f
 refine Dr.bind (pick_dr c hc a s 2 B h0 h1 (by omega) (by omega)) fun p3 h2 h3 h4 => ?_
 have e : wrap64 (1 + p3.1) = ((p3.1 + 1).toNat : Int) := by rw [w64 (by omega) (by omega)]; omega
 rw [e]
 exact (spoilt_l c hc x2 h2a h2b (p3.1 + 1).toNat x1 p3.2.1 p3.2.2 (B + 2) h3 h4 (by omega) (by omega)).mono (fun r h => by omega) (by omega)

theorem of_dr (c : List Int) (hc : byteL c) (a s B : Int) (l : List ByteArray) (N : Nat) (hN : ∀ x ∈ l, x.size ≤ N) (hl : 1 ≤ l.length) (hl2 : l.length ≤ 1000000) (h0 : 0 ≤ a) (h1 : a ≤ B) (hB : B ≤ 1000000) : Dr (fun r => r.size ≤ N) (B + 2) (fun _ => spec_l1Cur_of.f c a s l) := by
 unfold spec_l1Cur_of.f
 refine Dr.bind (pick_dr c hc a s _ B h0 h1 hB (by omega)) fun p3 h2 h3 h4 => ?_
 refine Dr.pos h2.1 (Dr.pos (by omega) (Dr.now ?_ h3 h4))
 have hr : p3.1.toNat < l.length := by omega
 refine hN _ ?_
 show rdOf ByteArray.empty l p3.1 ∈ l
 unfold rdOf
 rw [List.getD_eq_getElem?_getD, List.getElem?_eq_getElem hr]
 exact List.getElem_mem hr

theorem text_l (c : List Int) (hc : byteL c) : ∀ (m : Nat) (x : ByteArray) (a s B : Int), 0 ≤ a → a ≤ B → B + 2 * m ≤ 800000 → x.size + 100 * m ≤ 10000 →
  Dr (fun r => r.size ≤ 20000) (B + 2 * m + 100) (fun k => spec_l1Cur_text.l0 k x (m : Int) c a s) := by
 intro m
 induction m with
 | zero =>
  intro x a s B h0 h1 hB ho
  refine Dr.step (fun k => spec_l1Cur_text.l0.eq_2 ..) (Dr.neg (by omega) (Dr.bind (pick_dr c hc a s 14 B h0 h1 (by omega) (by omega)) fun p3 h2 h3 h4 => ?_))
  by_cases c1 : p3.1 = 0
  ·refine Dr.pos c1 (Dr.bind (of_dr c hc p3.2.1 p3.2.2 (B + 2) _ 1000 ?_ (by simp) (by simp) h3 h4 (by omega)) fun p5 h5 h6 h7 => Dr.now (by omega) h6 (by omega))
   intro y hy
   simp only [List.mem_cons, List.not_mem_nil, or_false] at hy
   rcases hy with rfl | rfl | rfl | rfl | rfl | rfl | rfl <;> decide
  refine Dr.neg c1 ?_
  by_cases c2 : p3.1 = 1
  ·exact Dr.pos c2 (Dr.bind (spoilt_dr c hc x _ (by decide) (by decide) (by omega) p3.2.1 p3.2.2 (B + 2) h3 h4 (by omega)) fun p5 h5 h6 h7 => Dr.now (by omega) h6 (by omega))
  ·exact Dr.neg c2 (Dr.now (by omega) h3 (by omega))
 | succ m ih =>
  intro x a s B h0 h1 hB ho
  have hw : ∀ y ∈ [(⟨#[97]⟩ : ByteArray), (⟨#[111, 102]⟩ : ByteArray), (⟨#[116, 104, 101]⟩ : ByteArray), (⟨#[98, 111, 111, 107]⟩ : ByteArray), (⟨#[112, 97, 103, 101, 115]⟩ : ByteArray), (⟨#[108, 101, 97, 118, 101, 115]⟩ : ByteArray), (⟨#[114, 101, 97, 100, 105, 110, 103]⟩ : ByteArray), (⟨#[73]⟩ : ByteArray), (⟨#[111, 110]⟩ : ByteArray)], y.size ≤ 20 := by
   intro y hy
   simp only [List.mem_cons, List.not_mem_nil, or_false] at hy
   rcases hy with rfl | rfl | rfl | rfl | rfl | rfl | rfl | rfl | rfl <;> decide
  have e : wrap64 (((m + 1 : Nat) : Int) - 1) = (m : Int) := by rw [w64 (by omega) (by omega)]; omega
  refine Dr.step (fun k => spec_l1Cur_text.l0.eq_2 ..) (Dr.pos (by omega) ?_)
  rw [e]
  have z32 : (⟨#[32]⟩ : ByteArray).size = 1 := rfl
  by_cases c1 : x.toList = ([] : List UInt8)
  ·refine Dr.pos c1 (Dr.bind (of_dr c hc a s B _ 20 hw (by simp) (by simp) h0 h1 (by omega)) fun p3 h2 h3 h4 => ?_)
   refine Dr.pos (by omega) ?_
   exact (ih _ p3.2.1 p3.2.2 (B + 2) h3 h4 (by omega) (by rw [ByteArray.size_append]; omega)).mono (fun r h => h) (by omega)
  ·refine Dr.neg c1 (Dr.pos (by omega) (Dr.bind (of_dr c hc a s B _ 20 hw (by simp) (by simp) h0 h1 (by omega)) fun p3 h2 h3 h4 => ?_))
   refine Dr.pos (by rw [ByteArray.size_append]; omega) ?_
   exact (ih _ p3.2.1 p3.2.2 (B + 2) h3 h4 (by omega) (by rw [ByteArray.size_append, ByteArray.size_append]; omega)).mono (fun r h => h) (by omega)
theorem text_dr (c : List Int) (hc : byteL c) (a s B : Int) (h0 : 0 ≤ a) (h1 : a ≤ B) (hB : B ≤ 500000) : Dr (fun r => r.size ≤ 20000) (B + 200) (fun k => spec_l1Cur_text.f k c a s) := by
 unfold spec_l1Cur_text.f
 refine Dr.bind (pick_dr c hc a s 8 B h0 h1 (by omega) (by omega)) fun p3 h2 h3 h4 => ?_
 have e : wrap64 (1 + p3.1) = ((p3.1 + 1).toNat : Int) := by rw [w64 (by omega) (by omega)]; omega
 have z : (⟨#[]⟩ : ByteArray).size = 0 := rfl
 rw [e]
 exact (text_l c hc (p3.1 + 1).toNat _ p3.2.1 p3.2.2 (B + 2) h3 h4 (by omega) (by omega)).mono (fun r h => h) (by omega)

theorem drawFL (c : List Int) (hc : byteL c) : ∃ l w, Ev (fun k => spec_DrawFillLines.f k c) (l, w) ∧ l.length ≤ 200 := by
 unfold spec_DrawFillLines.f
 obtain ⟨p2, e2, h2, a2, b2⟩ := words_dr c hc 0 0 0 (by omega) (by omega) (by omega)
 obtain ⟨p3, e3, _, a3, b3⟩ := wide_dr c hc p2.2.1 p2.2.2 1000 a2 (by omega) (by omega)
 exact ⟨_, _, Ev.bind e2 (Ev.bind e3 (ev_now rfl)), h2⟩
theorem drawLW (c : List Int) (hc : byteL c) : ∃ l w, Ev (fun k => spec_DrawLeastWidth.f k c) (l, w) ∧ l.length ≤ 200 := by
 unfold spec_DrawLeastWidth.f spec_DrawLeastWidth0.f
 obtain ⟨p2, e2, h2, a2, b2⟩ := words_dr c hc 0 0 0 (by omega) (by omega) (by omega)
 obtain ⟨p3, e3, _, a3, b3⟩ := among_dr c hc p2.2.1 p2.2.2 1000 [1, 2, 2, 3, 3, 4, 5, 30, 31, 0] (by simp) (by simp) a2 (by omega) (by omega)
 exact ⟨_, _, Ev.bind (Ev.bind e2 (Ev.bind e3 (ev_now rfl))) (ev_now rfl), h2⟩
theorem drawSet (c : List Int) (hc : byteL c) : ∃ t w, Ev (fun k => spec_DrawSetText.f k c) (t, w) ∧ t.size ≤ 20000 := by
 unfold spec_DrawSetText.f
 obtain ⟨p2, e2, h2, a2, b2⟩ := text_dr c hc 0 0 0 (by omega) (by omega) (by omega)
 obtain ⟨p3, e3, _, a3, b3⟩ := wide_dr c hc p2.2.1 p2.2.2 200 a2 (by omega) (by omega)
 exact ⟨_, _, Ev.bind e2 (Ev.bind e3 (ev_now rfl)), h2⟩
theorem lined_j1 (c : List Int) (hc : byteL c) (u : List Int) (v : Int) (out : List Int) (ho : out.length ≤ 100) (a s B : Int) (h0 : 0 ≤ a) (h1 : a ≤ B) (hB : B ≤ 900000) : ∃ r, Ev (fun k => spec_l1Cur_lined.j1 k u v out c a s) r ∧ r.1 = u ∧ r.2.2.1.length ≤ 200 := by
 obtain ⟨p1, e1, _, a1, b1⟩ := one_dr c hc a s 8 B h0 h1 (by omega) (by omega)
 by_cases q : p1.1 = true
 ·obtain ⟨p3, e3, _, a3, b3⟩ := among_dr c hc p1.2.1 p1.2.2 (B + 2) [(-1), 0, 1, 2, 4611686018427387904] (by simp) (by simp) a1 (by omega) (by omega)
  exact ⟨_, Ev.step (fun k => spec_l1Cur_lined.j1.eq_2 ..) (Ev.bind e1 (ev_pos q (Ev.bind e3 (ev_pos (by omega) (ev_now rfl))))), rfl, by simp; omega⟩
 ·exact ⟨_, Ev.step (fun k => spec_l1Cur_lined.j1.eq_2 ..) (Ev.bind e1 (ev_neg q (ev_now rfl))), rfl, by simp only; omega⟩
theorem lined_l0 (c : List Int) (hc : byteL c) (u : List Int) (v : Int) (xs : List Int) (hx : xs.length ≤ 30) (hxb : ∀ n ∈ xs, 1 ≤ n ∧ n ≤ 1000) : ∀ (ys : List Int) (i : Int) (out : List Int) (a s B : Int), 0 ≤ i → xs.drop i.toNat = ys → out.length + 2 * ys.length ≤ 100 → 0 ≤ a → a ≤ B → B + 4 * ys.length ≤ 500000 →
  ∃ r, Ev (fun k => spec_l1Cur_lined.l0 k u v out xs (xs.length : Int) i c a s) r ∧ r.1 = u ∧ r.2.2.1.length ≤ 200 := by
 intro ys
 induction ys with
 | nil =>
  intro i out a s B h0 h ho h1 h2 hB
  have := drop_nil h0 h
  obtain ⟨r, e, r1, r2⟩ := lined_j1 c hc u v out (by simpa using ho) a s B h1 h2 (by simp at hB; omega)
  exact ⟨r, Ev.step (fun k => spec_l1Cur_lined.l0.eq_2 ..) (ev_neg (by omega) e), r1, r2⟩
 | cons y ys ih =>
  intro i out a s B h0 h ho h1 h2 hB
  obtain ⟨g1, g2, g3, _⟩ := drop_cons h0 h
  have hy := hxb y (List.mem_of_mem_drop (by rw [h]; exact List.mem_cons_self))
  simp only [List.length_cons] at ho hB
  have e2 : wrap64 (i + 1) = i + 1 := w64 (by omega) (by omega)
  by_cases q : y > 1
  ·obtain ⟨p1, e1, _, a1, b1⟩ := one_dr c hc a s 3 B h1 h2 (by omega) (by omega)
   by_cases q1 : p1.1 = true
   ·have e3 : wrap64 (y - 1) = y - 1 := w64 (by omega) (by omega)
    obtain ⟨p3, e4, _, a3, b3⟩ := pick_dr c hc p1.2.1 p1.2.2 (y - 1) (B + 2) a1 (by omega) (by omega) (by omega)
    obtain ⟨r, er, r1, r2⟩ := ih (i + 1) ((out ++ [wrap64 (1 + p3.1)]) ++ [wrap64 (y - wrap64 (1 + p3.1))]) p3.2.1 p3.2.2 (B + 4) (by omega) g3 (by simp; omega) a3 (by omega) (by omega)
    refine ⟨r, Ev.step (fun k => spec_l1Cur_lined.l0.eq_2 ..) ?_, r1, r2⟩
    rw [g2, e2, e3]
    exact ev_pos g1 (ev_pos h0 (ev_pos g1 (ev_pos q (Ev.bind e1 (ev_pos q1 (Ev.bind e4 (ev_pos (by omega) (ev_some rfl (ev_pos (by simp; omega) er)))))))))
   ·obtain ⟨r, er, r1, r2⟩ := ih (i + 1) (out ++ [y]) p1.2.1 p1.2.2 (B + 2) (by omega) g3 (by simp; omega) a1 (by omega) (by omega)
    refine ⟨r, Ev.step (fun k => spec_l1Cur_lined.l0.eq_2 ..) ?_, r1, r2⟩
    rw [g2, e2]
    exact ev_pos g1 (ev_pos h0 (ev_pos g1 (ev_pos q (Ev.bind e1 (ev_neg q1 (ev_pos (by omega) er))))))
  ·obtain ⟨r, er, r1, r2⟩ := ih (i + 1) (out ++ [y]) a s B (by omega) g3 (by simp; omega) h1 h2 (by omega)
   refine ⟨r, Ev.step (fun k => spec_l1Cur_lined.l0.eq_2 ..) ?_, r1, r2⟩
   rw [g2, e2]
   exact ev_pos g1 (ev_pos h0 (ev_pos g1 (ev_neg q (ev_pos (by omega) er))))
theorem lined_ok (c : List Int) (hc : byteL c) : ∃ r, Ev (fun k => spec_l1Cur_lined.f k c 0 0) r ∧ r.1.length ≤ 200 ∧ r.2.2.1.length ≤ 200 := by
 unfold spec_l1Cur_lined.f
 obtain ⟨p2, e2, h2, a2, b2⟩ := words_dr c hc 0 0 0 (by omega) (by omega) (by omega)
 obtain ⟨p3, e3, _, a3, b3⟩ := wide_dr c hc p2.2.1 p2.2.2 1000 a2 (by omega) (by omega)
 have e4 := lnFits_ev p2.1 p3.1 (by omega)
 by_cases q : settingB p2.1 p3.1 = true
 ·obtain ⟨w1, w2, w3⟩ := settingB_true q
  have hw := wordsB_true w1
  obtain ⟨f1, _, _⟩ := fill_lines p3.1 _ p2.1 (Nat.le_refl _) w3
  obtain ⟨f2, f3⟩ := (LinesOf_iff _ _).1 f1
  have f4 := sum_ge _ f2
  obtain ⟨r, er, r1, r2⟩ := lined_l0 c hc p2.1 p3.1 (fillM p3.1 p2.1) (by omega) (fun n hn => ⟨f2 n hn, by have := f4.2 n hn; omega⟩) (fillM p3.1 p2.1) 0 [] p3.2.1 p3.2.2 2000 (by omega) rfl (by simp; omega) a3 (by omega) (by omega)
  exact ⟨r, Ev.bind e2 (Ev.bind e3 (Ev.bind e4 (ev_pos q (Ev.bind (lnFill_ev p3.1 p2.1 (by omega) hw.2) er)))), by rw [r1]; exact h2, r2⟩
 ·obtain ⟨r, er, r1, r2⟩ := lined_j1 c hc p2.1 p3.1 [] (by simp) p3.2.1 p3.2.2 2000 a3 (by omega) (by omega)
  exact ⟨r, Ev.bind e2 (Ev.bind e3 (Ev.bind e4 (ev_neg q er))), by rw [r1]; exact h2, r2⟩
theorem drawRag (c : List Int) (hc : byteL c) : ∃ u v ls, Ev (fun k => spec_DrawRaggedOf.f k c) (u, v, ls) ∧ Ev (fun k => spec_DrawWidthsUsed.f k c) (u, ls) ∧ u.length ≤ 200 ∧ ls.length ≤ 200 := by
 unfold spec_DrawRaggedOf.f spec_DrawWidthsUsed.f
 obtain ⟨r, e, h1, h2⟩ := lined_ok c hc
 exact ⟨_, _, _, Ev.bind e (ev_now rfl), Ev.bind e (ev_now rfl), h1, h2⟩

theorem xSum_l (l : List Int) (hn : l.length ≤ 1048576) (hb : ∀ x ∈ l, 0 ≤ x ∧ x ≤ 5000) : ∀ (ys : List Int) (i s : Int), 0 ≤ i → l.drop i.toNat = ys → 0 ≤ s → s + 5000 * ys.length ≤ 1000000000000 → Ev (fun k => laws_xSum.l0 k s l (l.length : Int) i) (s + ys.sum) := by
 intro ys
 induction ys with
 | nil =>
  intro i s h0 h _ _
  have := drop_nil h0 h
  exact Ev.step (fun k => laws_xSum.l0.eq_2 ..) (ev_neg (by omega) (ev_now (by simp)))
 | cons y ys ih =>
  intro i s h0 h hs hb2
  obtain ⟨h1, h2, h3, _⟩ := drop_cons h0 h
  have hy := hb y (List.mem_of_mem_drop (by rw [h]; exact List.mem_cons_self))
  simp only [List.length_cons] at hb2
  refine Ev.step (fun k => laws_xSum.l0.eq_2 ..) (ev_pos h1 (ev_pos h0 (ev_pos h1 ?_)))
  rw [h2, w64 (x := i + 1) (by omega) (by omega), w64 (by omega) (by omega)]
  exact ev_val (ih (i + 1) (s + y) (by omega) h3 (by omega) (by omega)) (by rw [List.sum_cons]; omega)
theorem xSum_ev (l : List Int) (hn : l.length ≤ 1048576) (hb : ∀ x ∈ l, 0 ≤ x ∧ x ≤ 5000) : Ev (fun k => laws_xSum.f k l) l.sum :=
 ev_val (xSum_l l hn hb l 0 0 (by omega) rfl (by omega) (by omega)) (by omega)
theorem xSame_l (l : List Int) (hn : l.length ≤ 1048576) : ∀ (ys : List Int) (i : Int), 0 ≤ i → l.drop i.toNat = ys → Ev (fun k => laws_xSame.l0 k l l (l.length : Int) i) true := by
 intro ys
 induction ys with
 | nil =>
  intro i h0 h
  have := drop_nil h0 h
  exact Ev.step (fun k => laws_xSame.l0.eq_2 ..) (ev_neg (by omega) (ev_now rfl))
 | cons y ys ih =>
  intro i h0 h
  obtain ⟨h1, h2, h3, _⟩ := drop_cons h0 h
  refine Ev.step (fun k => laws_xSame.l0.eq_2 ..) (ev_pos h1 (ev_pos h0 (ev_pos h1 (ev_pos h1 (ev_pos rfl ?_)))))
  rw [w64 (x := i + 1) (by omega) (by omega)]
  exact ih (i + 1) (by omega) h3
theorem xSame_ev (l : List Int) (hn : l.length ≤ 1048576) : Ev (fun k => laws_xSame.f k l l) true := by
 unfold laws_xSame.f
 exact ev_pos rfl (xSame_l l hn l 0 (by omega) rfl)
theorem xTexts_l (l : List ByteArray) (hn : l.length ≤ 1048576) : ∀ (ys : List ByteArray) (i : Int), 0 ≤ i → l.drop i.toNat = ys → Ev (fun k => laws_xTexts.l0 k l l (l.length : Int) i) true := by
 intro ys
 induction ys with
 | nil =>
  intro i h0 h
  have := drop_nil h0 h
  exact Ev.step (fun k => laws_xTexts.l0.eq_2 ..) (ev_neg (by omega) (ev_now rfl))
 | cons y ys ih =>
  intro i h0 h
  obtain ⟨h1, _, h3, _⟩ := drop_get h0 h
  refine Ev.step (fun k => laws_xTexts.l0.eq_2 ..) (ev_pos h1 (ev_pos h0 (ev_pos h1 (ev_pos h1 (ev_pos rfl ?_)))))
  rw [w64 (x := i + 1) (by omega) (by omega)]
  exact ih (i + 1) (by omega) h3
theorem xTexts_ev (l : List ByteArray) (hn : l.length ≤ 1048576) : Ev (fun k => laws_xTexts.f k l l) true := by
 unfold laws_xTexts.f
 exact ev_pos rfl (xTexts_l l hn l 0 (by omega) rfl)

theorem used_bd {ws ls : List Int} (h : linesB ws ls = true) : ∀ u ∈ usedL ws ls, 0 ≤ u ∧ u ≤ 3000 := by
 obtain ⟨b1, _, _, _⟩ := linesB_true h
 obtain ⟨⟨w1, w2⟩, w3⟩ := wordsB_true b1
 have hL := (linesB_iff b1).1 h
 have go : ∀ (ls ws : List Int), (∀ n ∈ ws, 1 ≤ n ∧ n ≤ 80) → ws.length ≤ 30 → LinesOf ws ls → ∀ u ∈ usedL ws ls, 0 ≤ u ∧ u ≤ 3000 := by
  intro ls
  induction ls with
  | nil => intro ws _ _ _ u hu; simp [usedL] at hu
  | cons n ns ih =>
   intro ws hw hl hL u hu
   obtain ⟨⟨h1, h2⟩, h3⟩ := hL
   rw [usedL] at hu
   rcases List.mem_cons.1 hu with rfl | hu
   ·have hs := sum_bd (ws.take n.toNat) (fun m hm => hw m (List.mem_of_mem_take hm))
    have hlt : (ws.take n.toNat).length ≤ 30 := by rw [List.length_take]; omega
    have hlt1 : 1 ≤ (ws.take n.toNat).length := by rw [List.length_take]; omega
    unfold needL; omega
   ·exact ih _ (fun m hm => hw m (List.mem_of_mem_drop hm)) (by rw [List.length_drop]; omega) h3 u hu
 exact go ls ws w3 (by omega) hL
theorem ct0_ : (⟨#[]⟩ : ByteArray) = mkB [] := rfl
theorem LS_l1s (l : List UInt8) (w : Int) (L : List (List UInt8)) (hL : L.length ≤ 1000) (hw : ∀ p ∈ L, (p.length : Int) ≤ w) (hll : l.length ≤ 1048576) : ∀ (ys : List (List UInt8)) (i : Int) (acc : List UInt8), 1 ≤ i → L.drop i.toNat = ys → acc ++ Lib.joinTail [32] ys = l →
  Ev (fun k => laws_FnLinesSet.l1 k (mkB l) w (mkB acc) (L.map mkB) ((L.map mkB).length : Int) i) true := by
 intro ys
 induction ys with
 | nil =>
  intro i acc h1 h e
  have := drop_nil (by omega) h
  have e2 : acc = l := by rw [← e]; simp [Lib.joinTail]
  subst e2
  exact Ev.step (fun k => laws_FnLinesSet.l1.eq_2 ..) (ev_neg (by rw [List.length_map]; omega) (ev_pos rfl (ev_now rfl)))
 | cons y ys ih =>
  intro i acc h1 h e
  obtain ⟨g1, _, g3, _⟩ := drop_get (by omega) h
  have hdm : (L.map mkB).drop i.toNat = mkB y :: ys.map mkB := by rw [← List.map_drop, h]; rfl
  have g1m : i < ((L.map mkB).length : Int) := by rw [List.length_map]; exact g1
  have hy := hw y (List.mem_of_mem_drop (by rw [h]; exact List.mem_cons_self))
  have e3 : (acc ++ [32] ++ y) ++ Lib.joinTail [32] ys = l := by rw [← e, jt_cons]; simp
  have hlen := congrArg List.length e3
  simp only [List.length_append, List.length_cons, List.length_nil] at hlen
  have nx := ih (i + 1) (acc ++ [32] ++ y) (by omega) g3 e3
  have ew : wrap64 (i + 1) = i + 1 := w64 (by omega) (by omega)
  refine Ev.step (fun k => laws_FnLinesSet.l1.eq_2 ..) ?_
  rw [rdOf_drop (by omega) hdm, ew, e32s_, mkB_append, mkB_append, mkB_size, mkB_size, mkB_size]
  clear ew
  exact ev_pos g1m (ev_pos (by omega) (ev_pos g1m (ev_pos (by omega) (ev_pos (by omega) (ev_neg (by omega) (ev_pos (by simp only [List.length_append, List.length_cons, List.length_nil]; omega) nx))))))
theorem LS_l1 (l : List UInt8) (w : Int) (L : List (List UInt8)) (hL : L.length ≤ 1000) (hw : ∀ p ∈ L, (p.length : Int) ≤ w) (hll : l.length ≤ 1048576) (e : Lib.joinTail [32] L = 32 :: l) :
  Ev (fun k => laws_FnLinesSet.l1 k (mkB l) w (⟨#[]⟩ : ByteArray) (L.map mkB) ((L.map mkB).length : Int) 0) true := by
 cases L with
 | nil => simp [Lib.joinTail] at e
 | cons y ys =>
  rw [jt_cons] at e
  injection e with _ e
  have hy := hw y List.mem_cons_self
  have hlen := congrArg List.length e
  simp only [List.length_append] at hlen
  have nx := LS_l1s l w (y :: ys) hL hw hll ys 1 y (by omega) rfl e
  have g1m : (0 : Int) < (((y :: ys).map mkB).length : Int) := by simp only [List.length_map, List.length_cons]; omega
  have ew : wrap64 ((0 : Int) + 1) = 1 := w64 (by omega) (by omega)
  have er : rdOf ByteArray.empty ((y :: ys).map mkB) 0 = mkB y := rfl
  refine Ev.step (fun k => laws_FnLinesSet.l1.eq_2 ..) ?_
  rw [er, ew, ct0_, mkB_append, mkB_size, mkB_size, List.nil_append]
  clear ew
  exact ev_pos g1m (ev_pos (by omega) (ev_pos g1m (ev_neg (by omega) (ev_neg (by omega) (ev_pos (by simp only [List.length_nil]; omega) nx)))))
theorem LS_j8 (t : ByteArray) (w : Int) (ht : t.size ≤ 20000) : Ev (fun k => laws_FnLinesSet.j8 k t w (setM t.data.toList w).1 (setM t.data.toList w).2 (wordsM t.data.toList).1) true := by
 have hz : t.data.toList.length = t.size := by rw [Array.length_toList]; rfl
 refine Ev.step (fun k => laws_FnLinesSet.j8.eq_2 ..) ?_
 by_cases h : setOk t.data.toList w = true
 ·obtain ⟨f0, f1, f2, f3, f4, f5, f6, f7⟩ := setOk_facts h
  have e1 : setM t.data.toList w = ((linesJ (fillM w (lensT t.data.toList)) (parts 32 t.data.toList)).map mkB, true) := if_pos h
  have e2 : wordsM t.data.toList = (lensT t.data.toList, true) := by unfold wordsM; rw [if_pos f0, if_pos (settingB_true f1).1]
  have hc := implCount_ev (lensT t.data.toList) w (by omega)
  have e3 : linesM (lensT t.data.toList) w = fillM w (lensT t.data.toList) := if_pos f1
  rw [e3, f1] at hc
  obtain ⟨g1, g2⟩ := set_facts (l := t.data.toList) (w := w) (settingB_true f1).2.2
  have hLn := linesJ_length (fillM w (lensT t.data.toList)) (parts 32 t.data.toList)
  have e4 : ((((linesJ (fillM w (lensT t.data.toList)) (parts 32 t.data.toList)).map mkB).length : Int) != ((fillM w (lensT t.data.toList)).length : Int)) = false := by rw [List.length_map, hLn]; simp
  have hl1 := LS_l1 t.data.toList w _ (by omega) g2 (by omega) g1
  rw [mkB_eq] at hl1
  rw [e1, e2]
  refine ev_pos rfl (Ev.bind hc (ev_pos rfl ?_))
  simp only
  rw [e4]
  exact Ev.step (fun k => laws_FnLinesSet.j9.eq_2 ..) (ev_neg (by simp) hl1)
 ·have e1 : setM t.data.toList w = ([], false) := if_neg h
  rw [e1]
  exact ev_neg (by simp) (ev_now rfl)
theorem LS_j6 (x : List Int) (m : Int) (hx : x.length ≤ 200) (t : ByteArray) (w : Int) (ht : t.size ≤ 20000) : Ev (fun k => laws_FnLinesSet.j6 k x m (leastW x m).1 (leastW x m).2 t w (setM t.data.toList w).1 (setM t.data.toList w).2 (wordsM t.data.toList).1 false) true := by
 have h8 := LS_j8 t w ht
 refine Ev.step (fun k => laws_FnLinesSet.j6.eq_2 ..) (ev_neg (by simp) ?_)
 by_cases h : (leastW x m).2 = true
 ·obtain ⟨f1, f2, f3⟩ := leastW_facts h
  have hc := implCount_ev x (leastW x m).1 (by omega)
  have e3 : linesM x (leastW x m).1 = fillM (leastW x m).1 x := if_pos f1
  rw [e3, f1] at hc
  obtain ⟨_, s2, _⟩ := settingB_true f1
  refine ev_pos h (Ev.bind hc (ev_pos rfl ?_))
  simp only
  rw [decide_eq_false (by omega)]
  refine Ev.step (fun k => laws_FnLinesSet.j7.eq_2 ..) (ev_neg (by simp) ?_)
  by_cases c : (leastW x m).1 > 1
  ·have hc2 := implCount_ev x ((leastW x m).1 - 1) (by omega)
   have ew : wrap64 ((leastW x m).1 - 1) = (leastW x m).1 - 1 := w64 (by omega) (by omega)
   refine ev_pos c ?_
   rw [ew]
   refine Ev.bind hc2 ?_
   by_cases q : settingB x ((leastW x m).1 - 1) = true
   ·have e4 : linesM x ((leastW x m).1 - 1) = fillM ((leastW x m).1 - 1) x := if_pos q
    have := f3 ((leastW x m).1 - 1) (by clear ew; omega) q
    exact ev_pos q (ev_neg (by rw [e4]; exact this) h8)
   ·exact ev_neg q h8
  ·exact ev_neg c h8
 ·exact ev_neg h h8
theorem LS_j5 (u ls x : List Int) (m : Int) (hu : u.length ≤ 200) (hx : x.length ≤ 200) (t : ByteArray) (w : Int) (ht : t.size ≤ 20000) : Ev (fun k => laws_FnLinesSet.j5 k u ls (usedM u ls).1 (usedM u ls).2 x m (leastW x m).1 (leastW x m).2 t w (setM t.data.toList w).1 (setM t.data.toList w).2 (wordsM t.data.toList).1) true := by
 have h6 := LS_j6 x m hx t w ht
 refine Ev.step (fun k => laws_FnLinesSet.j5.eq_2 ..) ?_
 by_cases h : linesB u ls = true
 ·have e : usedM u ls = (usedL u ls, true) := if_pos h
  obtain ⟨b1, b2, b3, b4⟩ := linesB_true h
  obtain ⟨⟨w1, w2⟩, w3⟩ := wordsB_true b1
  have hul := usedL_length ls u
  have hub := used_bd h
  have hsb := sum_bd u w3
  have h1 := xSum_ev (usedL u ls) (by omega) (fun q hq => by have := hub q hq; omega)
  have h2 := xSum_ev u (by omega) (fun q hq => by have := w3 q hq; omega)
  have hs := used_sum ls u ((linesB_iff b1).1 h)
  rw [e]
  refine ev_pos rfl (Ev.bind h1 (Ev.bind h2 ?_))
  rw [w64 (x := u.sum + (u.length : Int)) (by omega) (by omega), w64 (x := u.sum + (u.length : Int) - (ls.length : Int)) (by omega) (by omega), hs]
  simp only [bne_self_eq_false]
  exact h6
 ·have e : usedM u ls = ([], false) := if_neg h
  rw [e]
  exact ev_neg (by simp) h6
theorem LS_j4 (u : List Int) (v : Int) (ls x : List Int) (m : Int) (hu : u.length ≤ 200) (hx : x.length ≤ 200) (t : ByteArray) (w : Int) (ht : t.size ≤ 20000) : Ev (fun k => laws_FnLinesSet.j4 k u v (raggedM u v ls) (raggedB u v ls) u ls (usedM u ls).1 (usedM u ls).2 x m (leastW x m).1 (leastW x m).2 t w (setM t.data.toList w).1 (setM t.data.toList w).2 (wordsM t.data.toList).1 false) true := by
 have h5 := LS_j5 u ls x m hu hx t w ht
 refine Ev.step (fun k => laws_FnLinesSet.j4.eq_2 ..) (ev_neg (by simp) ?_)
 by_cases h : raggedB u v ls = true
 ·have hh := h
  unfold raggedB at hh
  simp only [Bool.and_eq_true, decide_eq_true_eq] at hh
  obtain ⟨b0, b5, b6⟩ := hh
  obtain ⟨b1, b2, b3, b4⟩ := linesB_true b0
  obtain ⟨⟨w1, w2⟩, w3⟩ := wordsB_true b1
  have hL := (linesB_iff b1).1 b0
  have hs : settingB u v = true := by unfold settingB; rw [b1, decide_eq_true b5, decide_eq_true (fits_words v ls u w3 hL b6)]; rfl
  have hb := best_least v ls u w3 (by omega) hL b6
  have e1 : impl_LeastRagged.f u v = some (bestM sqPut u v, true) := by unfold impl_LeastRagged.f leastRagM; rw [if_pos (by omega), hs, if_pos rfl]
  have e2 : raggedM u v ls = costL v (usedL u ls) := if_pos h
  exact ev_pos h (ev_some e1 (ev_pos rfl (ev_neg (by rw [e2]; simp only; omega) h5)))
 ·exact ev_neg h h5
theorem LS_j3 (c : List Int) (hc : byteL c) : Ev (fun k => laws_FnLinesSet.j3 k c) true := by
 obtain ⟨u, v, ls, eu, ew, hu, hls⟩ := drawRag c hc
 obtain ⟨x, m, ex, hx⟩ := drawLW c hc
 obtain ⟨t, w, et, ht⟩ := drawSet c hc
 have hz : t.data.toList.length = t.size := by rw [Array.length_toList]; rfl
 have h4 := LS_j4 u v ls x m hu hx t w ht
 have s1 := implSet_ev t.data.toList w (by omega)
 have s2 := specSet_ev t.data.toList w (by omega)
 have s3 := implWords_ev t.data.toList (by omega)
 have s4 := specWords_ev t.data.toList (by omega)
 rw [mkB_eq] at s1 s2 s3 s4
 have z1 : (usedM u ls).1.length ≤ 1048576 := by have := usedM_small u ls; omega
 have z2 : (setM t.data.toList w).1.length ≤ 1048576 := by have := setM_small t.data.toList w; omega
 have z3 : (wordsM t.data.toList).1.length ≤ 1048576 := by have := wordsM_small t.data.toList; omega
 refine Ev.step (fun k => laws_FnLinesSet.j3.eq_2 ..) ?_
 refine Ev.bind eu (Ev.bind (implRagged_ev u v ls (by omega) (by omega)) (Ev.bind (specRagged_ev u v ls (by omega) (by omega)) (Ev.bind ew (Ev.bind (implWidths_ev u ls (by omega) (by omega)) (Ev.bind (specWidths_ev u ls (by omega) (by omega)) (Ev.bind ex (Ev.bind (implWid_ev x m (by omega)) (Ev.bind (specWid_ev x m (by omega)) (Ev.bind et (Ev.bind s1 (Ev.bind s2 (Ev.bind s3 (Ev.bind s4 ?_)))))))))))))
 refine ev_neg (by simp) (ev_pos rfl (ev_neg (by simp) (Ev.bind (xSame_ev _ z1) (ev_pos rfl (ev_neg (by simp) (ev_pos rfl (ev_neg (by simp) (Ev.bind (xTexts_ev _ z2) (ev_pos rfl (ev_neg (by simp) (Ev.bind (xSame_ev _ z3) (ev_pos rfl ?_))))))))))))
 by_cases q : (setM t.data.toList w).2 = true
 ·have ok : setOk t.data.toList w = true := by
   by_cases ok : setOk t.data.toList w = true
   ·exact ok
   ·unfold setM at q; rw [if_neg ok] at q; cases q
  obtain ⟨f0, f1, _⟩ := setOk_facts ok
  have e2 : (!(wordsM t.data.toList).2) = false := by unfold wordsM; rw [if_pos f0, if_pos (settingB_true f1).1]; rfl
  refine ev_pos q ?_
  simp only
  rw [e2]
  exact h4
 ·exact ev_neg q h4
theorem LS_l0 (c : List Int) (hc : byteL c) (ws : List Int) (wide : Int) (hw : ∀ n ∈ ws, 1 ≤ n ∧ n ≤ 80) (hwl : ws.length ≤ 30) (us fs : List Int) (hus : us.length ≤ 1000) (hfs : fs.length ≤ 1000) : ∀ (ks : List Int) (i : Int) (at_ : Nat), 0 ≤ i → fs.drop i.toNat = ks → at_ ≤ ws.length → LinesOf (ws.drop at_) ks → us.drop i.toNat = usedL (ws.drop at_) ks → Greedy wide (ws.drop at_) ks →
  Ev (fun k => laws_FnLinesSet.l0 k c ws wide us (at_ : Int) fs (fs.length : Int) i) true := by
 intro ks
 induction ks with
 | nil =>
  intro i at_ h0 h _ _ _ _
  have := drop_nil h0 h
  have _ := hfs
  exact Ev.step (fun k => laws_FnLinesSet.l0.eq_2 ..) (ev_neg (by omega) (LS_j3 c hc))
 | cons y ks ih =>
  intro i at_ h0 h hal hL hU hG
  obtain ⟨h1, h2, h3, _⟩ := drop_cons h0 h
  obtain ⟨⟨y1, y2⟩, hL2⟩ := hL
  obtain ⟨⟨g1, g2⟩, hG2⟩ := hG
  rw [usedL] at hU
  obtain ⟨u1, u2, u3, _⟩ := drop_cons h0 hU
  obtain ⟨yn, rfl⟩ : ∃ yn : Nat, y = (yn : Int) := ⟨y.toNat, by omega⟩
  rw [Int.toNat_natCast] at hL2 hG2 g1 g2 u2 u3
  rw [List.length_drop] at y2 g2
  rw [List.drop_drop] at hL2 hG2 u3
  have nx := ih (i + 1) (at_ + yn) (by omega) h3 (by omega) hL2 u3 hG2
  have hsb := sum_bd ((ws.drop at_).take yn) (fun n hn => hw n (List.mem_of_mem_drop (List.mem_of_mem_take hn)))
  have hlt : ((ws.drop at_).take yn).length ≤ 30 := by rw [List.length_take, List.length_drop]; omega
  have hnb : -1 ≤ needL ((ws.drop at_).take yn) ∧ needL ((ws.drop at_).take yn) ≤ 3000 := by unfold needL; omega
  have e1 : wrap64 ((at_ : Int) + (yn : Int)) = ((at_ + yn : Nat) : Int) := (w64 (by omega) (by omega)).trans (Int.natCast_add at_ yn).symm
  have e2 : wrap64 (i + 1) = i + 1 := w64 (by omega) (by omega)
  generalize needL ((ws.drop at_).take yn) = nd at *
  refine Ev.step (fun k => laws_FnLinesSet.l0.eq_2 ..) ?_
  rw [h2, u2, e1, e2]
  clear e1 e2
  refine ev_pos h1 (ev_pos h0 (ev_pos h1 (ev_pos u1 (ev_neg (by omega) ?_))))
  by_cases q : ((at_ + yn : Nat) : Int) < (ws.length : Int)
  ·have hrd : rd ws ((at_ + yn : Nat) : Int) = (ws.drop at_).getD yn 0 := by
    unfold rd
    rw [Int.toNat_natCast, List.getD_eq_getElem?_getD, List.getD_eq_getElem?_getD, List.getElem?_drop]
   have hmem : rd ws ((at_ + yn : Nat) : Int) ∈ ws := by
    unfold rd
    rw [Int.toNat_natCast, List.getD_eq_getElem?_getD, List.getElem?_eq_getElem (by omega)]; exact List.getElem_mem _
   have hb := hw _ hmem
   have g3 := g2 (by omega)
   rw [← hrd] at g3
   have e3 : wrap64 (wrap64 (nd + 1) + rd ws ((at_ + yn : Nat) : Int)) = nd + 1 + rd ws ((at_ + yn : Nat) : Int) := by rw [w64 (x := nd + 1) (by omega) (by omega), w64 (by omega) (by omega)]
   refine ev_pos q (ev_pos (by omega) ?_)
   rw [e3]
   clear e3
   exact ev_neg (by omega) nx
  ·exact ev_neg q nx
theorem LS_j0 (c : List Int) (hc : byteL c) (ws : List Int) (wide : Int) (hwl : ws.length ≤ 200) : Ev (fun k => laws_FnLinesSet.j0 k c ws wide (linesM ws wide) (settingB ws wide) ((linesM ws wide).length : Int) (leastRagM ws wide) (firstM ws wide) (leastWorM ws wide) (breaksM ws wide) false) true := by
 refine Ev.step (fun k => laws_FnLinesSet.j0.eq_2 ..) (ev_neg (by simp) ?_)
 by_cases h : settingB ws wide = true
 ·obtain ⟨s1, s2, s3⟩ := settingB_true h
  obtain ⟨⟨w1, w2⟩, w3⟩ := wordsB_true s1
  have e1 : linesM ws wide = fillM wide ws := if_pos h
  have e2 : leastRagM ws wide = bestM sqPut ws wide := if_pos h
  have e3 : firstM ws wide = firstS wide ws := if_pos h
  have e4 : leastWorM ws wide = bestM maxPut ws wide := if_pos h
  have e5 : breaksM ws wide = canM ws wide wide := if_pos h
  obtain ⟨f1, f2, f3⟩ := fill_lines wide _ ws (Nat.le_refl _) s3
  obtain ⟨k1, k2, k3⟩ := first_lines wide _ ws (Nat.le_refl _) w3 s3
  have k3 := k3 (by omega)
  have few := fill_fewest wide _ ws w3 s3 k1 k2
  have hlb := (linesB_iff s1).2 f1
  have hlb2 := (linesB_iff s1).2 k1
  obtain ⟨_, c2, c3, c4⟩ := linesB_true hlb
  have hsg := sum_ge _ (fun n hn => (c3 n hn).1)
  have hc1 : 1 ≤ (fillM wide ws).length := by
   rcases Nat.eq_zero_or_pos (fillM wide ws).length with h0 | h0
   ·rw [List.eq_nil_of_length_eq_zero h0, List.sum_nil] at c4; omega
   ·exact h0
  have r1 : raggedB ws wide (fillM wide ws) = true := by unfold raggedB; rw [hlb, decide_eq_true s2, decide_eq_true f2]; rfl
  have r2 : raggedB ws wide (firstS wide ws) = true := by unfold raggedB; rw [hlb2, decide_eq_true s2, decide_eq_true k2]; rfl
  have r3 : raggedM ws wide (fillM wide ws) = costL wide (usedL ws (fillM wide ws)) := if_pos r1
  have r4 : raggedM ws wide (firstS wide ws) = bestM sqPut ws wide := (if_pos r2).trans k3
  have bl := best_least wide _ ws w3 (by omega) f1 f2
  obtain ⟨q1, q2, q3, q4⟩ := worst_facts h
  obtain ⟨lw1, lw2⟩ := leastW_has h (by omega) (by omega)
  have hul := usedL_length (fillM wide ws) ws
  have i1 := implRagged_ev ws wide (fillM wide ws) (by omega) (by omega)
  have hfl : (firstS wide ws).length ≤ 1048576 := by have := firstL_length wide ws.length ws; unfold firstS; omega
  have i2 := implRagged_ev ws wide (firstS wide ws) (by omega) hfl
  have i3 := implWidths_ev ws (fillM wide ws) (by omega) (by omega)
  have i4 := implWid_ev ws ((fillM wide ws).length : Int) (by omega)
  have e6 : usedM ws (fillM wide ws) = (usedL ws (fillM wide ws), true) := if_pos hlb
  have i5 := xSum_ev (fillM wide ws) (by omega) (fun n hn => by have := c3 n hn; omega)
  have hsq : wrap64 (bestM maxPut ws wide * bestM maxPut ws wide) = bestM maxPut ws wide * bestM maxPut ws wide := by
   have h80 := Int.mul_le_mul (by omega : bestM maxPut ws wide ≤ 80) (by omega : bestM maxPut ws wide ≤ 80) q1 (by omega : (0 : Int) ≤ 80)
   have h00 := Int.mul_nonneg q1 q1
   exact w64 (by omega) (by omega)
  rw [r1, r3] at i1
  rw [r2, r4] at i2
  rw [e6] at i3
  rw [c4] at i5
  rw [h, e1, e2, e3, e4, e5]
  refine ev_pos rfl (Ev.bind i1 (Ev.bind i2 (Ev.bind i3 (Ev.bind i4 (ev_pos rfl (Ev.bind i5 (ev_pos rfl (ev_neg (by omega) (ev_pos rfl (ev_neg (by simp only; omega) (ev_pos rfl (ev_pos rfl (ev_pos rfl (ev_pos (by simp only; omega) (ev_pos lw1 (ev_neg (by omega) (ev_neg (by omega) (ev_neg (by omega) (ev_neg (by omega) ?_)))))))))))))))))))
  rw [hsq, decide_eq_false (by clear hsq; omega)]
  refine Ev.step (fun k => laws_FnLinesSet.j1.eq_2 ..) (ev_neg (by simp) ?_)
  exact LS_l0 c hc ws wide w3 (by omega) (usedL ws (fillM wide ws)) (fillM wide ws) (by omega) (by omega) (fillM wide ws) 0 0 (by omega) rfl (by omega) f1 rfl f3
 ·exact ev_neg h (LS_j3 c hc)
theorem FnLinesSet (c d : List Int) (_hc : c.length ≤ 9223372036854775807) (hcb : ∀ s ∈ c, (Lit.int .u8 s).wf = true) (_hd : d.length ≤ 9223372036854775807) (hdb : ∀ s ∈ d, (Lit.int .u8 s).wf = true) : ∃ k, laws_FnLinesSet.f k c d = some true := by
 refine Ev.rounds ?_
 have hb : ∀ l : List Int, (∀ s ∈ l, (Lit.int .u8 s).wf = true) → byteL l := fun l h x hx => by
  have := h x hx
  simp [Lit.wf, IntKind.min, IntKind.max, IntKind.signed, IntKind.bits] at this
  omega
 obtain ⟨ws, wide, ed, hl⟩ := drawFL c (hb c hcb)
 have h0 := LS_j0 d (hb d hdb) ws wide hl
 unfold laws_FnLinesSet.f
 obtain ⟨b, eb⟩ : ∃ b, laws_big.f c d = some b := by
  unfold laws_big.f
  split
  ·exact ⟨_, rfl⟩
  ·exact ⟨_, rfl⟩
 refine ev_some eb ?_
 by_cases hbb : b = true
 ·exact ev_pos hbb (ev_now rfl)
 have hn : ws.length < 1073741824 := by omega
 have m1 : impl_LeastRagged.f ws wide = some (leastRagM ws wide, settingB ws wide) := if_pos hn
 have m2 : spec_LeastRagged.f ws wide = some (leastRagM ws wide, settingB ws wide) := if_pos hn
 have m3 : impl_FirstLeastRagged.f ws wide = some (firstM ws wide, settingB ws wide) := if_pos hn
 have m4 : spec_FirstLeastRagged.f ws wide = some (firstM ws wide, settingB ws wide) := if_pos hn
 have m5 : impl_LeastWorst.f ws wide = some (leastWorM ws wide, settingB ws wide) := if_pos hn
 have m6 : spec_LeastWorst.f ws wide = some (leastWorM ws wide, settingB ws wide) := if_pos hn
 have m7 : impl_CountBreaks.f ws wide = some (breaksM ws wide, settingB ws wide) := if_pos hn
 have m8 : spec_CountBreaks.f ws wide = some (breaksM ws wide, settingB ws wide) := if_pos hn
 have a1 := AreWords_ev ws (by omega)
 have a2 := specAre_ev ws (by omega)
 have z1 : (linesM ws wide).length ≤ 1048576 := linesM_small ws wide
 have z2 : (firstM ws wide).length ≤ 1048576 := firstM_small ws wide
 refine ev_neg hbb (Ev.bind ed (Ev.bind (implFill_ev ws wide (by omega)) (Ev.bind (specFill_ev ws wide (by omega)) (Ev.bind (implCount_ev ws wide (by omega)) (Ev.bind (specCount_ev ws wide (by omega)) (ev_some m1 (ev_some m2 (ev_some m3 (ev_some m4 (ev_some m5 (ev_some m6 (ev_some m7 (ev_some m8 ?_)))))))))))))
 refine ev_neg (by simp) (Ev.bind (xSame_ev _ z1) (ev_pos rfl (ev_neg (by simp) (ev_pos rfl (ev_neg (by simp) (ev_pos rfl (ev_neg (by simp) (Ev.bind (xSame_ev _ z2) (ev_pos rfl (ev_neg (by simp) (ev_pos rfl (ev_neg (by simp) (ev_pos rfl (ev_neg (by simp) (ev_neg (by simp) (ev_neg (by simp) (ev_neg (by simp) (ev_neg (by simp) ?_))))))))))))))))))
 by_cases q : settingB ws wide = true
 ·have hw := (settingB_true q).1
  refine ev_pos q (Ev.bind a1 (ev_pos hw (Ev.bind a1 (Ev.bind a2 ?_))))
  simp only [bne_self_eq_false]
  exact h0
 ·refine ev_neg q (Ev.bind a1 (Ev.bind a2 ?_))
  simp only [bne_self_eq_false]
  exact h0

end Go.Proofs.YtpedlkhfeoeogaaDoor.Pure
