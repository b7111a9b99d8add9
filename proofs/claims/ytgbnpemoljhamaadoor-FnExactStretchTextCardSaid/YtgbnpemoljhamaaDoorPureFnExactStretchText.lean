/- The law FnExactStretchText holds for every text and width: program and reference tell the same text. No condition but what the card lists. -/
import Derived.Test.YtgbnpemoljhamaaDoorPFnExactStretchTextx4
namespace Go.Proofs.YtgbnpemoljhamaaDoor.Pure
open Go.RowKit Go.Proofs.YtgbnpemoljhamaaDoor.PFnExactStretchText Go.Proofs.YtgbnpemoljhamaaDoorW.PrintWords Go.Proofs.YtgbnpemoljhamaaDoorW.PrintLast

theorem w64 {x : Int} (h1 : -9223372036854775808 ≤ x) (h2 : x ≤ 9223372036854775807) : wrap64 x = x := by
  unfold wrap64; omega
theorem ev_pos {α : Type} {c : Prop} [Decidable c] {f g : Nat → Option α} {r : α} (hc : c) (h : Ev f r) : Ev (fun k => if c then f k else g k) r := by
  simpa only [if_pos hc] using h
theorem ev_neg {α : Type} {c : Prop} [Decidable c] {f g : Nat → Option α} {r : α} (hc : ¬ c) (h : Ev g r) : Ev (fun k => if c then f k else g k) r := by
  simpa only [if_neg hc] using h
theorem ev_now {α : Type} {r s : α} (h : r = s) : Ev (fun _ => some r) s := h ▸ Ev.now r
theorem ev_some {α β : Type} {x : Option α} {f : Nat → α → Option β} {a : α} {r : β} (h : x = some a) (k : Ev (fun n => f n a) r) : Ev (fun n => x.bind (f n)) r := by
  subst h; exact k
theorem ev_val {α : Type} {g : Nat → Option α} {a b : α} (h : Ev g a) (e : a = b) : Ev g b := e ▸ h
theorem ev_suc {α : Type} {g : Nat → Option α} {r : α} (h : Ev (fun k => g (k + 1)) r) : Ev g r := Ev.step (fun _ => rfl) h
theorem drop_nil {α : Type} {xs : List α} {i : Int} (h0 : 0 ≤ i) (h : xs.drop i.toNat = []) : (xs.length : Int) ≤ i := by
  have := List.drop_eq_nil_iff.1 h
  omega
theorem drop_get {α : Type} {xs : List α} {i : Int} {y : α} {ys : List α} (h0 : 0 ≤ i) (h : xs.drop i.toNat = y :: ys) : i < (xs.length : Int) ∧ (∀ d, xs.getD i.toNat d = y) ∧ xs.drop (i + 1).toNat = ys ∧ xs.take (i + 1).toNat = xs.take i.toNat ++ [y] := by
  have hl : i.toNat < xs.length := by
    rcases Nat.lt_or_ge i.toNat xs.length with hl | hl
    · exact hl
    · rw [List.drop_eq_nil_iff.2 hl] at h; cases h
  have e := List.drop_eq_getElem_cons hl
  rw [h] at e
  injection e with e1 e2
  have h1 : (i + 1).toNat = i.toNat + 1 := by omega
  refine ⟨by omega, fun d => ?_, ?_, ?_⟩
  · rw [List.getD_eq_getElem?_getD, List.getElem?_eq_getElem hl, e1]; rfl
  · rw [h1]; exact e2.symm
  · rw [h1, List.take_add_one, List.getElem?_eq_getElem hl, e1]; rfl
theorem drop_cons {xs : List Int} {i : Int} {y : Int} {ys : List Int} (h0 : 0 ≤ i) (h : xs.drop i.toNat = y :: ys) : i < (xs.length : Int) ∧ rd xs i = y ∧ xs.drop (i + 1).toNat = ys ∧ xs.take (i + 1).toNat = xs.take i.toNat ++ [y] := by
  obtain ⟨h1, h2, h3⟩ := drop_get h0 h
  exact ⟨h1, h2 0, h3⟩

/-! ### Texts as lists of bytes -/
def mkB (l : List UInt8) : ByteArray := ⟨l.toArray⟩
theorem mkB_data (l : List UInt8) : (mkB l).data.toList = l := by simp [mkB]
theorem mkB_size (l : List UInt8) : (mkB l).size = l.length := by simp [mkB, ByteArray.size]
theorem mkB_eq (s : ByteArray) : mkB s.data.toList = s := by cases s; simp [mkB]
theorem mkB_append (a b : List UInt8) : mkB a ++ mkB b = mkB (a ++ b) := by
  apply ByteArray.ext
  simp [mkB, ByteArray.data_append]
theorem mkB_drop (l : List UInt8) (i : Nat) : (mkB l).extract i (mkB l).size = mkB (l.drop i) := by
  apply ByteArray.ext
  apply Array.toList_inj.1
  rw [mkB_size]
  simp only [mkB, ByteArray.data_extract, List.extract_toArray, List.extract_eq_take_drop]
  rw [List.take_of_length_le (by rw [List.length_drop]; exact Nat.le_refl _)]
theorem mkB_slice (l : List UInt8) (i j : Nat) : (mkB l).extract i j = mkB ((l.take j).drop i) := by
  apply ByteArray.ext
  apply Array.toList_inj.1
  simp [mkB, ByteArray.data_extract, List.drop_take]
theorem mkB_nums (xs : List Int) : strOfNums xs = mkB (xs.map fun n => UInt8.ofNat n.toNat) := rfl
theorem mkB_inj {a b : List UInt8} (h : mkB a = mkB b) : a = b := by
  have := congrArg (fun s => s.data.toList) h
  simpa [mkB] using this
theorem bt_mkB {l : List UInt8} {i : Nat} {x : UInt8} {xs : List UInt8} (h : l.drop i = x :: xs) : bt (mkB l) (i : Int) = (x.toNat : Int) := by
  have hl : i < l.length := by
    rcases Nat.lt_or_ge i l.length with g | g
    · exact g
    · rw [List.drop_eq_nil_iff.2 g] at h; cases h
  have e : l[i] = x := by
    have := List.drop_eq_getElem_cons hl
    rw [h] at this
    injection this with h1 _
    exact h1.symm
  have hs : (i : Int).toNat < (mkB l).size := by rw [Int.toNat_natCast, mkB_size]; exact hl
  rw [← bt_at _ _ hs, ← e]
  rfl
theorem drop_step {α : Type} {l : List α} {i : Nat} {x : α} {xs : List α} (h : l.drop i = x :: xs) : i < l.length ∧ l.drop (i + 1) = xs := by
  have hl : i < l.length := by
    rcases Nat.lt_or_ge i l.length with g | g
    · exact g
    · rw [List.drop_eq_nil_iff.2 g] at h; cases h
  have := List.drop_eq_getElem_cons hl
  rw [h] at this
  injection this with _ h2
  exact ⟨hl, h2.symm⟩

def headOn (x : UInt8) : List (List UInt8) → List (List UInt8)
  | p :: ps => (x :: p) :: ps
  | [] => [[x]]
/-- The parts of a text between a byte's places. -/
def parts (c : UInt8) : List UInt8 → List (List UInt8)
  | [] => [[]]
  | x :: xs => if x = c then [] :: parts c xs else headOn x (parts c xs)
def glue (cur : List UInt8) : List (List UInt8) → List (List UInt8)
  | p :: ps => (cur ++ p) :: ps
  | [] => [cur]
theorem headOn_length (x : UInt8) (ps : List (List UInt8)) (h : ps ≠ []) : (headOn x ps).length = ps.length := by
  cases ps with
  | nil => exact absurd rfl h
  | cons p ps => rfl
theorem parts_ne (c : UInt8) (l : List UInt8) : parts c l ≠ [] := by
  cases l with
  | nil => simp [parts]
  | cons x xs =>
    rw [parts]
    split
    · simp
    · cases parts c xs <;> simp [headOn]
theorem parts_length (c : UInt8) : ∀ (l : List UInt8), (parts c l).length ≤ l.length + 1
  | [] => by simp [parts]
  | x :: xs => by
    have := parts_length c xs
    rw [parts]
    split
    · simp only [List.length_cons]; omega
    · rw [headOn_length x _ (parts_ne c xs)]; simp only [List.length_cons]; omega
theorem parts_part_len (c : UInt8) : ∀ (l : List UInt8), ∀ p ∈ parts c l, p.length ≤ l.length
  | [], p, h => by simp [parts] at h; subst h; simp
  | x :: xs, p, h => by
    rw [parts] at h
    split at h
    · rcases List.mem_cons.1 h with rfl | h
      · simp
      · have := parts_part_len c xs p h; simp only [List.length_cons]; omega
    · have hne := parts_ne c xs
      rcases hp : parts c xs with _ | ⟨q, qs⟩
      · exact absurd hp hne
      · rw [hp] at h
        rcases List.mem_cons.1 h with rfl | h
        · have := parts_part_len c xs q (by rw [hp]; exact List.mem_cons_self)
          simp only [List.length_cons]; omega
        · have := parts_part_len c xs p (by rw [hp]; exact List.mem_cons_of_mem _ h)
          simp only [List.length_cons]; omega
theorem glue_nil (ps : List (List UInt8)) (h : ps ≠ []) : glue [] ps = ps := by
  cases ps with
  | nil => exact absurd rfl h
  | cons p ps => rfl
theorem glue_head (cur : List UInt8) (x : UInt8) (ps : List (List UInt8)) : glue (cur ++ [x]) ps = glue cur (headOn x ps) := by
  cases ps with
  | nil => rfl
  | cons p ps => simp [glue, headOn]

theorem index_cons_ (x c : UInt8) (xs : List UInt8) (h : x ≠ c) : Lib.index (x :: xs) [c] = if Lib.index xs [c] == -1 then -1 else Lib.index xs [c] + 1 := by
  have hp : ([c] : List UInt8).isPrefixOf (x :: xs) = false := by simp [List.isPrefixOf, Ne.symm h]
  rw [Lib.index, hp]; simp
theorem index_head_ (c : UInt8) (xs : List UInt8) : Lib.index (c :: xs) [c] = 0 := by rw [Lib.index]; simp [List.isPrefixOf]
theorem splitK_parts (c : UInt8) : ∀ (l : List UInt8) (k : Nat), l.count c ≤ k → Lib.splitK [c] 0 k l = parts c l := by
  intro l
  induction l with
  | nil =>
    intro k _
    cases k with
    | zero => rfl
    | succ k => unfold Lib.splitK; rw [if_pos (by simp [Lib.index])]; rfl
  | cons x xs ih =>
    intro k hk
    by_cases h : x = c
    · subst h
      rw [List.count_cons_self] at hk
      cases k with
      | zero => omega
      | succ k =>
        unfold Lib.splitK
        rw [index_head_, if_neg (by simp), parts, if_pos rfl]
        simp only [Int.toNat_zero, Nat.zero_add, List.take_zero, List.length_cons, List.length_nil, List.drop_succ_cons, List.drop_zero]
        rw [ih k (by omega)]
    · rw [List.count_cons_of_ne (by simpa using h)] at hk
      rw [parts, if_neg h, ← ih k hk]
      cases k with
      | zero => rfl
      | succ k =>
        unfold Lib.splitK
        rw [index_cons_ x c xs h]
        by_cases m : Lib.index xs [c] = -1
        · rw [if_pos (by rw [m]; simp), if_pos (by rw [m]; simp)]; rfl
        · have hge := Lib.index_ge xs [c]
          obtain ⟨j, hj⟩ : ∃ j : Nat, Lib.index xs [c] = j := ⟨(Lib.index xs [c]).toNat, by omega⟩
          have n1 : ((j : Int) == -1) = false := by simp
          have n2 : (((j : Int) + 1) == -1) = false := by simp; omega
          have t1 : ((j : Int) + 1).toNat = j + 1 := by omega
          rw [hj, n1]
          simp only [Bool.false_eq_true, if_false]
          rw [n2]
          simp only [Bool.false_eq_true, if_false, t1, Int.toNat_natCast, Nat.add_zero, List.length_cons, List.length_nil]
          rfl
theorem splitB_parts (c : UInt8) (l : List UInt8) : splitB (mkB l) (mkB [c]) = (parts c l).map mkB := by
  have h1 := Lib.splitB_data (mkB [c]) 0 (Lib.countB (mkB l) (mkB [c])) (mkB l)
  have h2 : Lib.countB (mkB l) (mkB [c]) = l.count c := by
    show Lib.count _ _ = _
    rw [mkB_data, mkB_data, Lib.count_one]
  rw [mkB_data, mkB_data, h2, splitK_parts c l _ (Nat.le_refl _)] at h1
  unfold splitB
  rw [h2]
  have h3 : (parts c l).map mkB = ((Lib.splitB (mkB [c]) 0 (l.count c) (mkB l)).map (·.data.toList)).map mkB := by rw [h1]
  rw [h3, List.map_map]
  have : (mkB ∘ fun x : ByteArray => x.data.toList) = id := by funext x; exact mkB_eq x
  rw [this, List.map_id]
theorem split_eq (c : UInt8) (l : List UInt8) (hl : l.length ≤ 4294967280) : strings_Split.f (mkB l) (mkB [c]) = some ((parts c l).map mkB) := by
  unfold strings_Split.f
  rw [if_pos (by rw [mkB_size]; exact hl), if_pos (by rw [mkB_size]; simp), splitB_parts]

theorem within_eq (a lo hi : Int) : impl_within.f a lo hi = some (decide (lo ≤ a ∧ a ≤ hi)) := by
  unfold impl_within.f
  by_cases h : a ≥ lo
  · rw [if_pos h]; congr 1; simp [show lo ≤ a from h]
  · rw [if_neg h]; congr 1; simp; omega

theorem l1In_eq (a lo hi : Int) : spec_l1In.f a lo hi = some (decide (lo ≤ a ∧ a ≤ hi)) := by
  unfold spec_l1In.f
  by_cases h : a ≥ lo
  · rw [if_pos h]; congr 1; simp [show lo ≤ a from h]
  · rw [if_neg h]; congr 1; simp; omega

def plainB (b : UInt8) : Bool := decide (32 ≤ b.toNat ∧ b.toNat ≤ 126)
theorem plain_lt {x : UInt8} (h : ¬ ((x.toNat : Int) < 32)) (h2 : ¬ ((x.toNat : Int) > 126)) : plainB x = true := by
  unfold plainB; rw [decide_eq_true_eq]; omega
theorem plain_not1 {x : UInt8} (h : (x.toNat : Int) < 32) : plainB x = false := by
  unfold plainB; rw [decide_eq_false_iff_not]; omega
theorem plain_not2 {x : UInt8} (h : (x.toNat : Int) > 126) : plainB x = false := by
  unfold plainB; rw [decide_eq_false_iff_not]; omega
/-- No part is empty; p: stands the byte ahead (or the begin). -/
def fullP (c : UInt8) : Bool → List UInt8 → Bool
  | p, [] => !p
  | p, x :: xs => if x = c then !p && fullP c true xs else fullP c false xs
theorem fullP_iff (c : UInt8) : ∀ (l : List UInt8), (fullP c true l = true ↔ [] ∉ parts c l) ∧ (fullP c false l = true ↔ [] ∉ (parts c l).tail)
  | [] => by simp [fullP, parts]
  | x :: xs => by
    obtain ⟨h1, h2⟩ := fullP_iff c xs
    by_cases e : x = c
    · subst e
      simp only [fullP, parts, if_true]
      exact ⟨by simp, by simpa using h1⟩
    · simp only [fullP, parts, if_neg e]
      rcases hp : parts c xs with _ | ⟨q, qs⟩
      · exact absurd hp (parts_ne c xs)
      · rw [hp] at h2
        simp only [headOn, List.tail_cons] at h2 ⊢
        exact ⟨by simpa using h2, h2⟩
def dblP (c : UInt8) : Bool → List UInt8 → Bool
  | _, [] => true
  | p, x :: xs => if x = c then !p && dblP c true xs else dblP c false xs
def endP (c : UInt8) : Bool → List UInt8 → Bool
  | p, [] => !p
  | _, x :: xs => endP c (decide (x = c)) xs
theorem fullP_eq (c : UInt8) : ∀ (l : List UInt8) (p : Bool), fullP c p l = (dblP c p l && endP c p l)
  | [], p => by simp [fullP, dblP, endP]
  | x :: xs, p => by
    by_cases e : x = c
    · simp [fullP, dblP, endP, e, fullP_eq c xs, Bool.and_assoc]
    · simp [fullP, dblP, endP, e, fullP_eq c xs]
def textOk (l : List UInt8) : Bool := decide (1 ≤ l.length ∧ l.length ≤ 200) && (l.all plainB && fullP 32 true l)
theorem textOk_true {l : List UInt8} (h : textOk l = true) : 1 ≤ l.length ∧ l.length ≤ 200 ∧ fullP 32 true l = true := by
  simp only [textOk, Bool.and_eq_true, decide_eq_true_eq] at h
  exact ⟨h.1.1, h.1.2, h.2.2⟩
theorem endP_last (c : UInt8) : ∀ (l : List UInt8) (p : Bool) (y : UInt8), l.drop (l.length - 1) = [y] → endP c p l = decide (y ≠ c)
  | [], p, y, h => by simp at h
  | [x], p, y, h => by simp at h; subst h; simp [endP]
  | x :: z :: zs, p, y, h => by
    rw [endP]
    refine endP_last c (z :: zs) _ y ?_
    simp only [List.length_cons] at h ⊢
    rw [show zs.length + 1 + 1 - 1 = (zs.length + 1 - 1) + 1 from by omega, List.drop_succ_cons] at h
    exact h
theorem toNat32 (y : UInt8) : ((y.toNat : Int) = 32) ↔ y = 32 := by
  constructor
  · intro h
    exact UInt8.toNat_inj.1 (by show y.toNat = 32; omega)
  · intro h; subst h; rfl
theorem lnText_l (l : List UInt8) (hl : l.length ≤ 1048576) : ∀ (ys : List UInt8) (i : Nat) (p : Bool), l.drop i = ys → (i = 0 → p = false ∧ ∀ y zs, ys = y :: zs → y ≠ 32) → (∀ z zs, 0 < i → l.drop (i - 1) = z :: zs → p = decide (z = 32)) →
    Ev (fun k => spec_lnText.l0 k (mkB l) (i : Int)) (ys.all plainB && dblP 32 p ys) := by
  intro ys
  induction ys with
  | nil =>
    intro i p h _ _
    have := List.drop_eq_nil_iff.1 h
    refine Ev.step (fun k => spec_lnText.l0.eq_2 ..) ?_
    exact ev_neg (by rw [mkB_size]; omega) (ev_now (by simp [dblP]))
  | cons y ys ih =>
    intro i p h h0 hp
    obtain ⟨g1, g2⟩ := drop_step h
    refine Ev.step (fun k => spec_lnText.l0.eq_2 ..) ?_
    rw [bt_mkB h, mkB_size, w64 (x := (i : Int) + 1) (by omega) (by omega), w64 (x := (i : Int) - 1) (by omega) (by omega)]
    refine ev_pos (by omega) (ev_pos (by omega) ?_)
    by_cases c1 : (y.toNat : Int) < 32
    · exact ev_pos c1 (ev_now (by rw [List.all_cons, plain_not1 c1, Bool.false_and, Bool.false_and]))
    by_cases c2 : (y.toNat : Int) > 126
    · exact ev_neg c1 (ev_pos c2 (ev_now (by rw [List.all_cons, plain_not2 c2, Bool.false_and, Bool.false_and])))
    refine ev_neg c1 (ev_neg c2 ?_)
    have hn := ih (i + 1) (decide (y = 32)) g2 (fun e => by omega) (fun z zs _ hz => by rw [show i + 1 - 1 = i from by omega, h] at hz; injection hz with a _; rw [a])
    rw [show ((i + 1 : Nat) : Int) = (i : Int) + 1 from by omega] at hn
    by_cases c3 : y = 32
    · have hi : 0 < i := by
        rcases Nat.eq_zero_or_pos i with z | z
        · exact absurd c3 ((h0 z).2 y ys rfl)
        · exact z
      obtain ⟨z, zs, hz⟩ : ∃ z zs, l.drop (i - 1) = z :: zs := by
        rcases hd : l.drop (i - 1) with _ | ⟨z, zs⟩
        · have := List.drop_eq_nil_iff.1 hd; omega
        · exact ⟨z, zs, rfl⟩
      have hpz := hp z zs hi hz
      have hb : bt (mkB l) ((i : Int) - 1) = (z.toNat : Int) := by rw [show (i : Int) - 1 = ((i - 1 : Nat) : Int) from by omega]; exact bt_mkB hz
      rw [hb]
      refine ev_pos ((toNat32 y).2 c3) (ev_pos (by omega) (ev_pos (by omega) ?_))
      by_cases c4 : z = 32
      · refine ev_pos ((toNat32 z).2 c4) (ev_now ?_)
        rw [dblP, if_pos c3, hpz, decide_eq_true c4]; simp
      · refine ev_neg (fun q => c4 ((toNat32 z).1 q)) (ev_val hn ?_)
        rw [List.all_cons, plain_lt c1 c2, Bool.true_and, dblP, if_pos c3, hpz, decide_eq_false c4, decide_eq_true c3]; simp
    · refine ev_neg (fun q => c3 ((toNat32 y).1 q)) (ev_val hn ?_)
      rw [List.all_cons, plain_lt c1 c2, Bool.true_and, dblP, if_neg c3, decide_eq_false c3]
theorem lnText_ev (l : List UInt8) (hl : l.length ≤ 1048576) : Ev (fun k => spec_lnText.f k (mkB l)) (textOk l) := by
  unfold spec_lnText.f
  rw [mkB_size]
  refine ev_some (l1In_eq ..) ?_
  by_cases h : 1 ≤ (l.length : Int) ∧ (l.length : Int) ≤ 200
  · have e : (1 ≤ l.length ∧ l.length ≤ 200) := by omega
    refine ev_pos (decide_eq_true h) (ev_pos (by omega) ?_)
    obtain ⟨x, xs, hx⟩ : ∃ x xs, l = x :: xs := by
      rcases l with _ | ⟨x, xs⟩
      · simp at e
      · exact ⟨x, xs, rfl⟩
    have hd0 : l.drop 0 = x :: xs := by rw [List.drop_zero, hx]
    have hb0 : bt (mkB l) 0 = (x.toNat : Int) := bt_mkB (i := 0) hd0
    obtain ⟨y, hy⟩ : ∃ y, l.drop (l.length - 1) = [y] := by
      have hlen : (l.drop (l.length - 1)).length = 1 := by rw [List.length_drop]; omega
      rcases hd : l.drop (l.length - 1) with _ | ⟨y, ys⟩
      · rw [hd] at hlen; simp at hlen
      · rw [hd] at hlen; simp at hlen; rw [hlen]; exact ⟨y, rfl⟩
    have hb1 : bt (mkB l) ((l.length : Int) - 1) = (y.toNat : Int) := by rw [show (l.length : Int) - 1 = ((l.length - 1 : Nat) : Int) from by omega]; exact bt_mkB hy
    rw [w64 (x := (l.length : Int) - 1) (by omega) (by omega), hb0, hb1]
    have hfull := fullP_eq 32 l true
    have hend := endP_last 32 l true y hy
    by_cases c1 : x = 32
    · refine ev_pos ((toNat32 x).2 c1) (Ev.step (fun k => spec_lnText.j0.eq_2 ..) (ev_pos rfl (ev_now ?_)))
      unfold textOk
      have : dblP 32 true l = false := by rw [hx, dblP, if_pos c1]; rfl
      rw [hfull, this]; simp
    · refine ev_neg (fun q => c1 ((toNat32 x).1 q)) (ev_pos (by omega) (ev_pos (by omega) (Ev.step (fun k => spec_lnText.j0.eq_2 ..) ?_)))
      by_cases c2 : y = 32
      · refine ev_pos (by rw [beq_iff_eq]; exact (toNat32 y).2 c2) (ev_now ?_)
        unfold textOk
        have q1 : decide (y ≠ 32) = false := decide_eq_false (fun z => z c2)
        rw [hfull, hend, q1]; simp
      · refine ev_neg (by rw [beq_iff_eq]; exact fun q => c2 ((toNat32 y).1 q)) ?_
        refine ev_val (lnText_l l hl l 0 false rfl (fun _ => ⟨rfl, fun a b hab => by rw [hx] at hab; injection hab with q _; rw [← q]; exact c1⟩) (fun _ _ z => by omega)) ?_
        unfold textOk
        have hdd : dblP 32 true l = dblP 32 false l := by rw [hx, dblP, dblP, if_neg c1, if_neg c1]
        have q1 : decide (y ≠ 32) = true := decide_eq_true c2
        rw [decide_eq_true e, Bool.true_and, hfull, hend, hdd, q1, Bool.and_true]
  · have e : ¬ (1 ≤ l.length ∧ l.length ≤ 200) := by omega
    refine ev_neg (by rw [decide_eq_false h]; simp) (Ev.step (fun k => spec_lnText.j0.eq_2 ..) (ev_pos rfl (ev_now ?_)))
    unfold textOk
    rw [decide_eq_false e, Bool.false_and]
theorem isText_end (l : List UInt8) (hl : l.length ≤ 1048576) : Ev (fun _ => (impl_within.f ((mkB l).size : Int) 1 200).bind fun t105 => (if t105 = true then ((strings_Split.f (mkB l) (⟨#[32]⟩ : ByteArray)).bind fun t106 => ((slices_Contains_string_string.f t106 (⟨#[]⟩ : ByteArray)).bind fun t109 => (some (!t109)))) else (some false))) (decide (1 ≤ l.length ∧ l.length ≤ 200) && fullP 32 true l) := by
  rw [mkB_size]
  refine ev_some (within_eq ..) ?_
  by_cases h : 1 ≤ (l.length : Int) ∧ (l.length : Int) ≤ 200
  · have e : (1 ≤ l.length ∧ l.length ≤ 200) := by omega
    refine ev_pos (decide_eq_true h) (ev_some (split_eq 32 l (by omega)) (ev_some rfl (ev_now ?_)))
    rw [decide_eq_true e, Bool.true_and]
    have hc : Lib.containsS ((parts 32 l).map mkB) (⟨#[]⟩ : ByteArray) = decide ([] ∈ parts 32 l) := by
      rw [Bool.eq_iff_iff, Lib.containsS_iff, decide_eq_true_eq]
      have e0 : (⟨#[]⟩ : ByteArray) = mkB [] := rfl
      rw [e0]
      constructor
      · intro hm
        obtain ⟨q, hq, hqe⟩ := List.mem_map.1 hm
        rw [← mkB_inj hqe]; exact hq
      · intro hm
        exact List.mem_map.2 ⟨[], hm, rfl⟩
    rw [hc]
    have := (fullP_iff 32 l).1
    rw [Bool.eq_iff_iff, this]
    simp
  · have e : ¬ (1 ≤ l.length ∧ l.length ≤ 200) := by omega
    refine ev_neg (by rw [decide_eq_false h]; simp) (ev_now ?_)
    rw [decide_eq_false e, Bool.false_and]
theorem isText_l (l : List UInt8) (hl : l.length ≤ 1048576) : ∀ (ys : List UInt8) (i : Nat), l.drop i = ys →
    Ev (fun k => impl_isText.l0 k (mkB l) (l.length : Int) (i : Int)) (decide (1 ≤ l.length ∧ l.length ≤ 200) && (ys.all plainB && fullP 32 true l)) := by
  intro ys
  induction ys with
  | nil =>
    intro i h
    have := List.drop_eq_nil_iff.1 h
    refine Ev.step (fun k => impl_isText.l0.eq_2 ..) ?_
    exact ev_neg (by omega) (ev_val (isText_end l hl) (by simp))
  | cons y ys ih =>
    intro i h
    obtain ⟨g1, g2⟩ := drop_step h
    refine Ev.step (fun k => impl_isText.l0.eq_2 ..) ?_
    rw [bt_mkB h, w64 (x := (i : Int) + 1) (by omega) (by omega)]
    refine ev_pos (by omega) (ev_pos (by omega) (ev_pos (by rw [mkB_size]; omega) ?_))
    by_cases c1 : (y.toNat : Int) < 32
    · exact ev_pos c1 (ev_now (by rw [List.all_cons, plain_not1 c1]; simp))
    by_cases c2 : (y.toNat : Int) > 126
    · exact ev_neg c1 (ev_pos c2 (ev_now (by rw [List.all_cons, plain_not2 c2]; simp)))
    have := ih (i + 1) g2
    rw [show ((i + 1 : Nat) : Int) = (i : Int) + 1 from by omega] at this
    exact ev_neg c1 (ev_neg c2 (ev_val this (by rw [List.all_cons, plain_lt c1 c2, Bool.true_and])))
theorem isText_ev (l : List UInt8) (hl : l.length ≤ 1048576) : Ev (fun k => impl_isText.f k (mkB l)) (textOk l) := by
  unfold impl_isText.f textOk
  rw [mkB_size]
  exact isText_l l hl l 0 rfl

theorem l1Split_l (c : UInt8) (l : List UInt8) (hl : l.length ≤ 1048576) : ∀ (ys : List UInt8) (i frm : Nat) (acc : List ByteArray), l.drop i = ys → i ≤ l.length → frm ≤ i → acc.length + ys.length ≤ 1048576 →
    Ev (fun k => spec_l1Split.l0 k (mkB l) (c.toNat : Int) acc (frm : Int) (i : Int)) (acc ++ (glue ((l.take i).drop frm) (parts c ys)).map mkB) := by
  intro ys
  induction ys with
  | nil =>
    intro i frm acc h hi hf ha
    have := List.drop_eq_nil_iff.1 h
    refine Ev.step (fun k => spec_l1Split.l0.eq_2 ..) ?_
    rw [mkB_size, Int.toNat_natCast]
    have e0 : (mkB l).extract frm l.length = mkB (l.drop frm) := by have := mkB_drop l frm; rw [mkB_size] at this; exact this
    rw [e0]
    refine ev_neg (by omega) (ev_pos (by omega) (ev_pos (by omega) (ev_pos (by simp only [List.length_nil] at ha; omega) (ev_now ?_))))
    rw [parts, glue, List.take_of_length_le (by omega)]
    simp
  | cons y ys ih =>
    intro i frm acc h hi hf ha
    obtain ⟨g1, g2⟩ := drop_step h
    simp only [List.length_cons] at ha
    refine Ev.step (fun k => spec_l1Split.l0.eq_2 ..) ?_
    rw [bt_mkB h, mkB_size, w64 (x := (i : Int) + 1) (by omega) (by omega), Int.toNat_natCast, Int.toNat_natCast, mkB_slice, show (i : Int) + 1 = ((i + 1 : Nat) : Int) from by omega]
    refine ev_pos (by omega) (ev_pos (by omega) ?_)
    have htk : (l.take (i + 1)).drop frm = (l.take i).drop frm ++ [y] := by
      have e : l.take (i + 1) = l.take i ++ [y] := by
        rw [List.take_add_one]
        have : l[i]? = some y := by rw [List.getElem?_eq_getElem g1]; have := List.drop_eq_getElem_cons g1; rw [h] at this; injection this with a _; rw [a]
        rw [this]; rfl
      rw [e, List.drop_append_of_le_length (by rw [List.length_take]; omega)]
    by_cases e : y = c
    · subst e
      refine ev_pos rfl (ev_pos (by omega) (ev_pos (by omega) (ev_pos (by omega) (ev_pos (by omega) ?_))))
      refine ev_val (ih (i + 1) (i + 1) _ g2 (by omega) (Nat.le_refl _) (by simp only [List.length_append, List.length_cons, List.length_nil]; omega)) ?_
      have e3 : (l.take (i + 1)).drop (i + 1) = [] := List.drop_of_length_le (by rw [List.length_take]; omega)
      rw [e3, glue_nil _ (parts_ne _ _), parts, if_pos rfl]
      simp only [glue, List.append_nil, List.map_cons, List.append_assoc, List.cons_append, List.nil_append]
    · have hne : ¬ ((y.toNat : Int) = (c.toNat : Int)) := fun q => e (UInt8.toNat_inj.1 (by omega))
      refine ev_neg hne (ev_val (ih (i + 1) frm acc g2 (by omega) (by omega) (by omega)) ?_)
      rw [htk, glue_head, parts, if_neg e]
theorem l1Split_ev (c : UInt8) (l : List UInt8) (hl : l.length ≤ 1048575) : Ev (fun k => spec_l1Split.f k (mkB l) (c.toNat : Int)) ((parts c l).map mkB) := by
  unfold spec_l1Split.f
  refine ev_val (l1Split_l c l (by omega) l 0 0 [] rfl (by omega) (Nat.le_refl _) (by simp only [List.length_nil]; omega)) ?_
  rw [List.take_zero, List.drop_nil, glue_nil _ (parts_ne _ _), List.nil_append]

def wordsB (xs : List Int) : Bool := decide (1 ≤ (xs.length : Int) ∧ (xs.length : Int) ≤ 30) && decide (∀ n ∈ xs, 1 ≤ n ∧ n ≤ 80)
theorem wordsB_true {xs : List Int} (h : wordsB xs = true) : (1 ≤ (xs.length : Int) ∧ (xs.length : Int) ≤ 30) ∧ ∀ n ∈ xs, 1 ≤ n ∧ n ≤ 80 := by simpa [wordsB] using h
/-- What a line of words needs. -/
def needL (xs : List Int) : Int := xs.sum + xs.length - 1
theorem sum_bd : ∀ (xs : List Int), (∀ n ∈ xs, 1 ≤ n ∧ n ≤ 80) → (xs.length : Int) ≤ xs.sum ∧ xs.sum ≤ 80 * xs.length
  | [], _ => by simp
  | x :: xs, h => by
    have h1 := h x List.mem_cons_self
    have ih := sum_bd xs (fun n hn => h n (List.mem_cons_of_mem _ hn))
    rw [List.sum_cons, List.length_cons]; omega

theorem l1All_l (lo hi : Int) (xs : List Int) (hn : xs.length < 4611686018427387904) : ∀ (ys : List Int) (i : Int), 0 ≤ i → xs.drop i.toNat = ys →
    Ev (fun k => spec_l1All.l0 k lo hi xs (xs.length : Int) i) (decide (∀ n ∈ ys, lo ≤ n ∧ n ≤ hi)) := by
  intro ys
  induction ys with
  | nil =>
    intro i h0 h
    have := drop_nil h0 h
    refine Ev.step (fun k => spec_l1All.l0.eq_2 ..) ?_
    exact ev_neg (by omega) (ev_now (by simp))
  | cons y ys ih =>
    intro i h0 h
    obtain ⟨h1, h2, h3, _⟩ := drop_cons h0 h
    refine Ev.step (fun k => spec_l1All.l0.eq_2 ..) ?_
    refine ev_pos h1 (ev_pos h0 (ev_pos h1 ?_))
    rw [h2, w64 (by omega) (by omega)]
    refine ev_some (l1In_eq ..) ?_
    by_cases hy : lo ≤ y ∧ y ≤ hi
    · exact ev_pos (by simpa using hy) (ev_val (ih _ (by omega) h3) (by simp [hy]))
    · exact ev_neg (by simpa using hy) (ev_now (by simp [hy]))
theorem l1All_ev (xs : List Int) (lo hi : Int) (hn : xs.length < 4611686018427387904) :
    Ev (fun k => spec_l1All.f k xs lo hi) (decide (∀ n ∈ xs, lo ≤ n ∧ n ≤ hi)) := l1All_l lo hi xs hn xs 0 (by omega) rfl

theorem allWithin_l (lo hi : Int) (xs : List Int) (hn : xs.length < 4611686018427387904) : ∀ (ys : List Int) (i : Int), 0 ≤ i → xs.drop i.toNat = ys →
    Ev (fun k => impl_allWithin.l0 k lo hi xs (xs.length : Int) i) (decide (∀ n ∈ ys, lo ≤ n ∧ n ≤ hi)) := by
  intro ys
  induction ys with
  | nil =>
    intro i h0 h
    have := drop_nil h0 h
    refine Ev.step (fun k => impl_allWithin.l0.eq_2 ..) ?_
    exact ev_neg (by omega) (ev_now (by simp))
  | cons y ys ih =>
    intro i h0 h
    obtain ⟨h1, h2, h3, _⟩ := drop_cons h0 h
    refine Ev.step (fun k => impl_allWithin.l0.eq_2 ..) ?_
    refine ev_pos h1 (ev_pos h0 (ev_pos h1 ?_))
    rw [h2, w64 (by omega) (by omega)]
    refine ev_some (within_eq ..) ?_
    by_cases hy : lo ≤ y ∧ y ≤ hi
    · exact ev_pos (by simpa using hy) (ev_val (ih _ (by omega) h3) (by simp [hy]))
    · exact ev_neg (by simpa using hy) (ev_now (by simp [hy]))
theorem allWithin_ev (xs : List Int) (lo hi : Int) (hn : xs.length < 4611686018427387904) :
    Ev (fun k => impl_allWithin.f k xs lo hi) (decide (∀ n ∈ xs, lo ≤ n ∧ n ≤ hi)) := allWithin_l lo hi xs hn xs 0 (by omega) rfl

theorem lnGood_ev (xs : List Int) (hn : xs.length < 4611686018427387904) : Ev (fun k => spec_lnGood.f k xs) (wordsB xs) := by
  unfold spec_lnGood.f wordsB
  refine ev_some (l1In_eq ..) ?_
  by_cases h : 1 ≤ (xs.length : Int) ∧ (xs.length : Int) ≤ 30
  · refine ev_pos (by simpa using h) (Ev.bind (l1All_ev xs 1 80 hn) (ev_now (by simp [h])))
  · exact ev_neg (by simpa using h) (ev_now (by simp [h]))
theorem AreWords_ev (xs : List Int) (hn : xs.length < 4611686018427387904) : Ev (fun k => impl_AreWords.f k xs) (wordsB xs) := by
  unfold impl_AreWords.f wordsB
  refine ev_some (within_eq ..) ?_
  by_cases h : 1 ≤ (xs.length : Int) ∧ (xs.length : Int) ≤ 30
  · refine ev_pos (by simpa using h) (Ev.bind (allWithin_ev xs 1 80 hn) (ev_now (by simp [h])))
  · exact ev_neg (by simpa using h) (ev_now (by simp [h]))

def szL (xs : List ByteArray) : List Int := xs.map fun s => (s.size : Int)
def lensT (l : List UInt8) : List Int := (parts 32 l).map fun p => (p.length : Int)
theorem szL_parts (l : List UInt8) : szL ((parts 32 l).map mkB) = lensT l := by
  unfold szL lensT
  rw [List.map_map]
  apply List.map_congr_left
  intro p _
  exact congrArg (fun n : Nat => (n : Int)) (mkB_size p)
theorem lensT_length (l : List UInt8) : (lensT l).length = (parts 32 l).length := by simp [lensT]
theorem rdOf_drop {xs : List ByteArray} {i : Int} {y : ByteArray} {ys : List ByteArray} (h0 : 0 ≤ i) (h : xs.drop i.toNat = y :: ys) : rdOf ByteArray.empty xs i = y := by
  obtain ⟨_, h2, _, _⟩ := drop_get h0 h
  exact h2 _
theorem lnLengths_l (xs : List ByteArray) (hn : xs.length ≤ 1048576) : ∀ (ys : List ByteArray) (i : Int), 0 ≤ i → xs.drop i.toNat = ys →
    Ev (fun k => spec_lnLengths.l0 k (szL (xs.take i.toNat)) xs (xs.length : Int) i) (szL xs) := by
  intro ys
  induction ys with
  | nil =>
    intro i h0 h
    have := drop_nil h0 h
    refine Ev.step (fun k => spec_lnLengths.l0.eq_2 ..) ?_
    exact ev_neg (by omega) (ev_now (by rw [List.take_of_length_le (by omega)]))
  | cons y ys ih =>
    intro i h0 h
    obtain ⟨h1, _, h3, h4⟩ := drop_get h0 h
    refine Ev.step (fun k => spec_lnLengths.l0.eq_2 ..) ?_
    rw [rdOf_drop h0 h, w64 (x := i + 1) (by omega) (by omega)]
    refine ev_pos h1 (ev_pos h0 (ev_pos h1 (ev_pos (by unfold szL; rw [List.length_map, List.length_take]; omega) ?_)))
    have := ih (i + 1) (by omega) h3
    rw [h4] at this
    unfold szL at this ⊢
    rw [List.map_append] at this
    exact this
theorem lnLengths_ev (xs : List ByteArray) (hn : xs.length ≤ 1048576) : Ev (fun k => spec_lnLengths.f k xs) (szL xs) := by
  unfold spec_lnLengths.f
  exact lnLengths_l xs hn xs 0 (by omega) rfl
theorem lnParts_ev (l : List UInt8) (hl : l.length ≤ 1048575) : Ev (fun k => spec_lnParts.f k (mkB l)) ((parts 32 l).map mkB) := by
  unfold spec_lnParts.f
  exact Ev.bind (l1Split_ev 32 l hl) (ev_now rfl)
def wordsM (l : List UInt8) : List Int × Bool := if textOk l = true then (if wordsB (lensT l) = true then (lensT l, true) else ([], false)) else ([], false)
theorem implWords_l (xs : List ByteArray) (hn : xs.length ≤ 1048576) : ∀ (ys : List ByteArray) (i : Int), 0 ≤ i → xs.drop i.toNat = ys →
    Ev (fun k => impl_WordsOfText.l0 k (szL (xs.take i.toNat)) xs (xs.length : Int) i) (if wordsB (szL xs) = true then (szL xs, true) else ([], false)) := by
  intro ys
  induction ys with
  | nil =>
    intro i h0 h
    have := drop_nil h0 h
    refine Ev.step (fun k => impl_WordsOfText.l0.eq_2 ..) ?_
    rw [List.take_of_length_le (by omega)]
    refine ev_neg (by omega) (Ev.bind (AreWords_ev (szL xs) (by unfold szL; rw [List.length_map]; omega)) ?_)
    by_cases c : wordsB (szL xs) = true
    · exact ev_pos c (ev_now (by rw [if_pos c]))
    · exact ev_neg c (ev_now (by rw [if_neg c]))
  | cons y ys ih =>
    intro i h0 h
    obtain ⟨h1, _, h3, h4⟩ := drop_get h0 h
    refine Ev.step (fun k => impl_WordsOfText.l0.eq_2 ..) ?_
    rw [rdOf_drop h0 h, w64 (x := i + 1) (by omega) (by omega)]
    refine ev_pos h1 (ev_pos h0 (ev_pos h1 (ev_pos (by unfold szL; rw [List.length_map, List.length_take]; omega) ?_)))
    have := ih (i + 1) (by omega) h3
    rw [h4] at this
    unfold szL at this ⊢
    rw [List.map_append] at this
    exact this
theorem parts_small (l : List UInt8) (h : l.length ≤ 1048575) : ((parts 32 l).map mkB).length ≤ 1048576 := by
  have := parts_length 32 l
  rw [List.length_map]; omega
theorem implWords_ev (l : List UInt8) (hl : l.length ≤ 1048576) : Ev (fun k => impl_WordsOfText.f k (mkB l)) (wordsM l) := by
  unfold impl_WordsOfText.f wordsM
  refine Ev.bind (isText_ev l hl) ?_
  by_cases h : textOk l = true
  · have ht := textOk_true h
    refine ev_pos h (ev_some (split_eq 32 l (by omega)) ?_)
    rw [if_pos h]
    have := implWords_l ((parts 32 l).map mkB) (parts_small l (by omega)) _ 0 (by omega) rfl
    rw [szL_parts] at this
    exact this
  · exact ev_neg h (ev_now (by rw [if_neg h]))

theorem lnNeed_l (xs : List Int) (hn : xs.length ≤ 1000) (hin : ∀ n ∈ xs, 1 ≤ n ∧ n ≤ 80) : ∀ (ys : List Int) (i s : Int), 0 ≤ i → xs.drop i.toNat = ys → -1 ≤ s → s + 80 * ys.length ≤ 1000000 →
    Ev (fun k => spec_lnNeed.l0 k s xs (xs.length : Int) i) (s + ys.sum) := by
  intro ys
  induction ys with
  | nil =>
    intro i s h0 h _ _
    have := drop_nil h0 h
    refine Ev.step (fun k => spec_lnNeed.l0.eq_2 ..) ?_
    exact ev_neg (by omega) (ev_now (by simp))
  | cons y ys ih =>
    intro i s h0 h hs hb
    obtain ⟨h1, h2, h3, _⟩ := drop_cons h0 h
    have hy := hin y (List.mem_of_mem_drop (by rw [h]; exact List.mem_cons_self))
    simp only [List.length_cons] at hb
    refine Ev.step (fun k => spec_lnNeed.l0.eq_2 ..) ?_
    refine ev_pos h1 (ev_pos h0 (ev_pos h1 ?_))
    rw [h2, w64 (x := i + 1) (by omega) (by omega), w64 (by omega) (by omega)]
    exact ev_val (ih (i + 1) (s + y) (by omega) h3 (by omega) (by omega)) (by rw [List.sum_cons]; omega)
theorem lnNeed_ev (xs : List Int) (hn : xs.length ≤ 1000) (hin : ∀ n ∈ xs, 1 ≤ n ∧ n ≤ 80) : Ev (fun k => spec_lnNeed.f k xs) (needL xs) := by
  unfold spec_lnNeed.f needL
  rw [w64 (by omega) (by omega)]
  exact ev_val (lnNeed_l xs hn hin xs 0 ((xs.length : Int) - 1) (by omega) rfl (by omega) (by omega)) (by omega)

def settingB (l : List Int) (wide : Int) : Bool := wordsB l && (decide (1 ≤ wide ∧ wide ≤ 80) && decide (∀ n ∈ l, n ≤ wide))
theorem settingB_true {l : List Int} {wide : Int} (h : settingB l wide = true) : wordsB l = true ∧ (1 ≤ wide ∧ wide ≤ 80) ∧ ∀ n ∈ l, n ≤ wide := by simpa [settingB] using h

theorem lnGood_evF (xs : List Int) (hn : xs.length < 4611686018427387904) : Ev (fun k => spec_lnGood.f k xs) (wordsB xs) := by
  unfold spec_lnGood.f wordsB
  refine ev_some (l1In_eq ..) ?_
  by_cases h : 1 ≤ (xs.length : Int) ∧ (xs.length : Int) ≤ 30
  · refine ev_pos (by simpa using h) (Ev.bind (l1All_ev xs 1 80 hn) (ev_now (by simp [h])))
  · exact ev_neg (by simpa using h) (ev_now (by simp [h]))
theorem lnWide_eq (w : Int) : spec_lnWide.f w = some (decide (1 ≤ w ∧ w ≤ 80)) := by
  unfold spec_lnWide.f
  rw [l1In_eq]; rfl
theorem lnFits_ev (xs : List Int) (wide : Int) (hn : xs.length < 4611686018427387904) : Ev (fun k => spec_lnFits.f k xs wide) (settingB xs wide) := by
  unfold spec_lnFits.f settingB
  refine Ev.bind (lnGood_evF xs hn) ?_
  by_cases h : wordsB xs = true
  · refine ev_pos h (ev_some (lnWide_eq wide) ?_)
    have hw := (wordsB_true h).2
    by_cases h2 : 1 ≤ wide ∧ wide ≤ 80
    · refine ev_pos (decide_eq_true h2) (Ev.bind (l1All_ev xs 1 wide hn) (ev_now ?_))
      rw [h, decide_eq_true h2]
      simp only [Bool.true_and]
      exact decide_eq_decide.2 ⟨fun hh n hm => (hh n hm).2, fun hh n hm => ⟨(hw n hm).1, hh n hm⟩⟩
    · exact ev_neg (by rw [decide_eq_false h2]; simp) (ev_now (by rw [decide_eq_false h2]; simp))
  · exact ev_neg h (ev_now (by rw [Bool.eq_false_iff.mpr h]; rfl))

theorem total_lw (xs : List Int) (hn : xs.length ≤ 1000) (hin : ∀ n ∈ xs, 1 ≤ n ∧ n ≤ 80) : ∀ (ys : List Int) (i s : Int), 0 ≤ i → xs.drop i.toNat = ys → 0 ≤ s → s + 80 * ys.length ≤ 1000000 →
    Ev (fun k => impl_total.l0 k s xs (xs.length : Int) i) (s + ys.sum) := by
  intro ys
  induction ys with
  | nil =>
    intro i s h0 h _ _
    have := drop_nil h0 h
    refine Ev.step (fun k => impl_total.l0.eq_2 ..) ?_
    exact ev_neg (by omega) (ev_now (by simp))
  | cons y ys ih =>
    intro i s h0 h hs hb
    obtain ⟨h1, h2, h3, _⟩ := drop_cons h0 h
    have hy := hin y (List.mem_of_mem_drop (by rw [h]; exact List.mem_cons_self))
    simp only [List.length_cons] at hb
    refine Ev.step (fun k => impl_total.l0.eq_2 ..) ?_
    refine ev_pos h1 (ev_pos h0 (ev_pos h1 ?_))
    rw [h2, w64 (x := i + 1) (by omega) (by omega), w64 (by omega) (by omega)]
    exact ev_val (ih (i + 1) (s + y) (by omega) h3 (by omega) (by omega)) (by rw [List.sum_cons]; omega)
theorem totalW_ev (xs : List Int) (hn : xs.length ≤ 1000) (hin : ∀ n ∈ xs, 1 ≤ n ∧ n ≤ 80) : Ev (fun k => impl_total.f k xs) xs.sum :=
  ev_val (total_lw xs hn hin xs 0 0 (by omega) rfl (by omega) (by omega)) (by omega)
theorem needs_ev (xs : List Int) (hn : xs.length ≤ 1000) (hin : ∀ n ∈ xs, 1 ≤ n ∧ n ≤ 80) : Ev (fun k => impl_needs.f k xs) (needL xs) := by
  have hs := sum_bd xs hin
  unfold impl_needs.f needL
  refine Ev.bind (totalW_ev xs hn hin) (ev_now ?_)
  rw [w64 (x := xs.sum + (xs.length : Int)) (by omega) (by omega), w64 (by omega) (by omega)]

theorem foldMax_le (w : Int) : ∀ (zs : List Int) (a : Int), zs.foldl max a ≤ w ↔ a ≤ w ∧ ∀ n ∈ zs, n ≤ w
  | [], a => by simp
  | z :: zs, a => by
    rw [List.foldl_cons, foldMax_le w zs (max a z)]
    simp only [List.mem_cons, forall_eq_or_imp]
    constructor
    · intro h; exact ⟨by omega, by omega, h.2⟩
    · intro h; exact ⟨by omega, h.2.2⟩
theorem maxOf_le (w : Int) (zs : List Int) (h : 0 < zs.length) : Lib.maxOf zs ≤ w ↔ ∀ n ∈ zs, n ≤ w := by
  unfold Lib.maxOf
  rw [foldMax_le]
  rcases zs with _ | ⟨z, zs⟩
  · simp at h
  · simp only [List.headD_cons, List.mem_cons, forall_eq_or_imp]
    constructor
    · intro q; exact ⟨q.1, q.2.2⟩
    · intro q; exact ⟨q.1, q.1, q.2⟩
theorem isSetting_ev (xs : List Int) (wide : Int) (hn : xs.length < 4611686018427387904) : Ev (fun k => impl_isSetting.f k xs wide) (settingB xs wide) := by
  unfold impl_isSetting.f settingB
  refine Ev.bind (AreWords_ev xs hn) ?_
  by_cases h : wordsB xs = true
  · have hw := (wordsB_true h).1
    refine ev_pos h (ev_some (within_eq ..) ?_)
    rw [h, Bool.true_and]
    by_cases h2 : 1 ≤ wide ∧ wide ≤ 80
    · refine ev_pos (decide_eq_true h2) (ev_some (show slices_Max_int_int.f xs = some (Lib.maxOf xs) from by unfold slices_Max_int_int.f; rw [if_pos (by omega)]) (ev_now ?_))
      rw [decide_eq_true h2, Bool.true_and]
      exact decide_eq_decide.2 (maxOf_le wide xs (by omega))
    · exact ev_neg (by rw [decide_eq_false h2]; simp) (ev_now (by rw [decide_eq_false h2]; simp))
  · exact ev_neg h (ev_now (by rw [Bool.eq_false_iff.mpr h]; rfl))

/-- The blanks from place i on, m of them, q each and one more before place r. -/
def strL (q r : Int) : Nat → Int → List Int
  | 0, _ => []
  | m + 1, i => (q + if i < r then 1 else 0) :: strL q r m (i + 1)
theorem strL_length (q r : Int) : ∀ (m : Nat) (i : Int), (strL q r m i).length = m
  | 0, _ => rfl
  | m + 1, i => by simp [strL, strL_length q r m]
def stretchB (l : List Int) (wide : Int) : Bool := settingB l wide && (decide ((l.length : Int) ≠ 1) && decide (needL l ≤ wide))
def stretchL (l : List Int) (wide : Int) : List Int := strL ((wide - l.sum) / ((l.length : Int) - 1)) ((wide - l.sum) % ((l.length : Int) - 1)) (l.length - 1) 0
def stretchM (l : List Int) (wide : Int) : List Int := if stretchB l wide = true then stretchL l wide else []
theorem stretchB_true {l : List Int} {wide : Int} (h : stretchB l wide = true) : settingB l wide = true ∧ (l.length : Int) ≠ 1 ∧ needL l ≤ wide := by simpa [stretchB] using h
theorem stretchM_small (l : List Int) (wide : Int) : (stretchM l wide).length ≤ 1048576 := by
  unfold stretchM
  split
  · rename_i h
    have := (wordsB_true (settingB_true (stretchB_true h).1).1).1
    unfold stretchL; rw [strL_length]; omega
  · simp
theorem ceil_step (q s m : Int) (hm : 0 ≤ m) (h0 : 0 ≤ s) (h1 : s ≤ m) : (q * (m + 1) + s + m) / (m + 1) = q + if 0 < s then 1 else 0 := by
  have e : q * (m + 1) + s + m = (s + m) + q * (m + 1) := by omega
  rw [e, Int.add_mul_ediv_right _ _ (by omega), Int.add_comm]
  congr 1
  by_cases h : 0 < s
  · rw [if_pos h]
    have e2 : s + m = (s - 1) + 1 * (m + 1) := by omega
    rw [e2, Int.add_mul_ediv_right _ _ (by omega), Int.ediv_eq_zero_of_lt (by omega) (by omega)]; rfl
  · rw [if_neg h]
    exact Int.ediv_eq_zero_of_lt (by omega) (by omega)
theorem stretch_l (q r : Int) (hq0 : 0 ≤ q) (hq : q ≤ 1000) (_hr0 : 0 ≤ r) : ∀ (m : Nat) (i : Int) (out : List Int), 0 ≤ i → m ≤ 1000 → (r - i ≤ 0 ∨ r - i < m) → out.length + m ≤ 100000 →
    Ev (fun k => spec_lnStretch.l0 k out (q * (m : Int) + if i < r then r - i else 0) (m : Int)) (out ++ strL q r m i) := by
  intro m
  induction m with
  | zero =>
    intro i out h0 hm hri ho
    refine Ev.step (fun k => spec_lnStretch.l0.eq_2 ..) ?_
    exact ev_neg (by omega) (ev_now (by simp [strL]))
  | succ m ih =>
    intro i out h0 hm hri ho
    have hmul0 : 0 ≤ q * (m : Int) := Int.mul_nonneg hq0 (by omega)
    have hmul1 : q * (m : Int) ≤ 1000 * 1000 := Int.mul_le_mul hq (by omega) (by omega) (by omega)
    generalize hs : (if i < r then r - i else 0 : Int) = s
    have hs0 : 0 ≤ s ∧ s ≤ m := by split at hs <;> omega
    have hmm : q * ((m + 1 : Nat) : Int) = q * (m : Int) + q := by rw [Int.natCast_add, Int.mul_add]; simp
    have hm1 : ((m + 1 : Nat) : Int) = (m : Int) + 1 := by omega
    have hc : (q * ((m + 1 : Nat) : Int) + s + (m : Int)) / ((m : Int) + 1) = q + if 0 < s then 1 else 0 := by rw [hm1]; exact ceil_step q s m (by omega) (by omega) (by omega)
    have hw1 : wrap64 (wrap64 (q * ((m + 1 : Nat) : Int) + s + ((m + 1 : Nat) : Int)) - 1) = q * ((m + 1 : Nat) : Int) + s + (m : Int) := by
      rw [w64 (x := q * ((m + 1 : Nat) : Int) + s + ((m + 1 : Nat) : Int)) (by omega) (by omega), w64 (by omega) (by omega)]; omega
    have hd : wrap64 (Int.tdiv (q * ((m + 1 : Nat) : Int) + s + (m : Int)) ((m + 1 : Nat) : Int)) = q + if i < r then 1 else 0 := by
      rw [Int.tdiv_eq_ediv_of_nonneg (by omega)]
      rw [hm1] at hc ⊢
      rw [hc]
      have : (if 0 < s then 1 else 0 : Int) = if i < r then 1 else 0 := by
        split at hs
        · rename_i h; rw [if_pos h, if_pos (by omega)]
        · rename_i h; rw [if_neg h, if_neg (by omega)]
      rw [this]
      exact w64 (by split <;> omega) (by split <;> omega)
    refine Ev.step (fun k => spec_lnStretch.l0.eq_2 ..) ?_
    rw [hw1, hd]
    refine ev_pos (by omega) (ev_neg (by omega) (ev_pos (by omega) ?_))
    have e1 : wrap64 (((m + 1 : Nat) : Int) - 1) = (m : Int) := by rw [w64 (by omega) (by omega)]; omega
    have e2 : wrap64 (q * ((m + 1 : Nat) : Int) + s - (q + if i < r then 1 else 0)) = q * (m : Int) + if i + 1 < r then r - (i + 1) else 0 := by
      have : s - (if i < r then 1 else 0) = if i + 1 < r then r - (i + 1) else 0 := by
        rw [← hs]; split <;> split <;> omega
      rw [w64 (by split <;> omega) (by split <;> omega)]
      omega
    rw [e1, e2]
    exact ev_val (ih (i + 1) _ (by omega) (by omega) (by omega) (by simp; omega)) (by simp [strL])
theorem strL_bd (q r : Int) (h : 0 ≤ q) : ∀ (m : Nat) (i : Int), ∀ x ∈ strL q r m i, 0 ≤ x ∧ x ≤ q + 1
  | 0, _, x, hx => by simp [strL] at hx
  | m + 1, i, x, hx => by
    rcases List.mem_cons.1 hx with rfl | hx
    · split <;> omega
    · exact strL_bd q r h m (i + 1) x hx
theorem stretchL_facts {l : List Int} {wide : Int} (h : stretchB l wide = true) : 2 ≤ l.length ∧ l.length ≤ 30 ∧ (∀ n ∈ l, 1 ≤ n ∧ n ≤ 80) ∧ (∀ x ∈ stretchL l wide, 0 ≤ x ∧ x ≤ 1000) ∧ (stretchL l wide).length = l.length - 1 := by
  obtain ⟨h1, h2, h3⟩ := stretchB_true h
  obtain ⟨⟨w1, w2⟩, w3⟩ := wordsB_true (settingB_true h1).1
  have hwd := (settingB_true h1).2.1
  have hs := sum_bd l w3
  have hnl : needL l = l.sum + l.length - 1 := rfl
  have hB : 0 ≤ wide - l.sum := by omega
  have hq := Int.ediv_nonneg hB (by omega : 0 ≤ (l.length : Int) - 1)
  have hq2 : (wide - l.sum) / ((l.length : Int) - 1) ≤ wide - l.sum := Int.ediv_le_self _ hB
  refine ⟨by omega, by omega, w3, fun x hx => ?_, ?_⟩
  · have := strL_bd _ _ hq _ _ x hx; omega
  · unfold stretchL; rw [strL_length]
theorem lnStretch_ev (l : List Int) (wide : Int) (h : stretchB l wide = true) : Ev (fun k => spec_lnStretch.f k l wide) (stretchL l wide) := by
  obtain ⟨h1, h2, h3⟩ := stretchB_true h
  obtain ⟨⟨w1, w2⟩, w3⟩ := wordsB_true (settingB_true h1).1
  have hwd := (settingB_true h1).2.1
  have hs := sum_bd l w3
  have hg : 0 < (l.length : Int) - 1 := by omega
  have hnl : needL l = l.sum + l.length - 1 := rfl
  have hB : 0 ≤ wide - l.sum := by omega
  have hr := Int.emod_nonneg (wide - l.sum) (by omega : (l.length : Int) - 1 ≠ 0)
  have hr2 := Int.emod_lt_of_pos (wide - l.sum) hg
  have hq := Int.ediv_nonneg hB (by omega : 0 ≤ (l.length : Int) - 1)
  have hq2 : (wide - l.sum) / ((l.length : Int) - 1) ≤ wide - l.sum := Int.ediv_le_self _ hB
  unfold spec_lnStretch.f
  refine Ev.bind (lnNeed_ev l (by omega) w3) ?_
  have e1 : wrap64 ((l.length : Int) - 1) = ((l.length - 1 : Nat) : Int) := by rw [w64 (by omega) (by omega)]; omega
  have e2 : wrap64 (wrap64 (wrap64 (wide - needL l) + (l.length : Int)) - 1) = (wide - l.sum) / ((l.length : Int) - 1) * ((l.length - 1 : Nat) : Int) + if 0 < (wide - l.sum) % ((l.length : Int) - 1) then (wide - l.sum) % ((l.length : Int) - 1) - 0 else 0 := by
    rw [w64 (x := wide - needL l) (by omega) (by omega), w64 (x := wide - needL l + (l.length : Int)) (by omega) (by omega), w64 (by omega) (by omega)]
    have e3 : ((l.length - 1 : Nat) : Int) = (l.length : Int) - 1 := by omega
    have e4 := Int.ediv_mul_add_emod (wide - l.sum) ((l.length : Int) - 1)
    rw [e3]
    split <;> omega
  rw [e1, e2]
  exact stretch_l _ _ hq (by omega) hr (l.length - 1) 0 [] (by omega) (by omega) (by omega) (by simp; omega)
theorem implStretch_l (q r g B : Int) (hg0 : 0 < g) (hg : g ≤ 1000) (hq : Int.tdiv B g = q) (hr : Int.tmod B g = r) (hq0 : 0 ≤ q) (hq1 : q ≤ 1000) : ∀ (m : Nat) (i : Int) (out : List Int), 0 ≤ i → i + m = g → out.length + m ≤ 100000 →
    Ev (fun k => impl_StretchSpaces.l0 k out g B g i) (out ++ strL q r m i, true) := by
  intro m
  induction m with
  | zero =>
    intro i out h0 hm ho
    refine Ev.step (fun k => impl_StretchSpaces.l0.eq_2 ..) ?_
    exact ev_neg (by omega) (ev_now (by simp [strL]))
  | succ m ih =>
    intro i out h0 hm ho
    refine Ev.step (fun k => impl_StretchSpaces.l0.eq_2 ..) ?_
    rw [hq, hr, w64 (x := i + 1) (by omega) (by omega), w64 (x := q) (by omega) (by omega), w64 (x := q + 1) (by omega) (by omega)]
    refine ev_pos (by omega) (ev_neg (by omega) ?_)
    by_cases c : i < r
    · refine ev_pos c (ev_pos (by omega) (ev_val (ih (i + 1) _ (by omega) (by omega) (by simp only [List.length_append, List.length_cons, List.length_nil]; omega)) ?_))
      simp [strL, c]
    · refine ev_neg c (ev_pos (by omega) (ev_val (ih (i + 1) _ (by omega) (by omega) (by simp only [List.length_append, List.length_cons, List.length_nil]; omega)) ?_))
      simp [strL, c]
theorem implStretch_ev (l : List Int) (wide : Int) (hn : l.length ≤ 1048576) : Ev (fun k => impl_StretchSpaces.f k l wide) (stretchM l wide, stretchB l wide) := by
  have fall : ∀ b : Bool, b = true → stretchB l wide = false → Ev (fun k => impl_StretchSpaces.j0 k l wide b) (stretchM l wide, stretchB l wide) := fun b hb hf => by
    refine Ev.step (fun k => impl_StretchSpaces.j0.eq_2 ..) (ev_pos hb (ev_now ?_))
    unfold stretchM; rw [hf]; rfl
  unfold impl_StretchSpaces.f
  refine Ev.bind (isSetting_ev l wide (by omega)) ?_
  by_cases h1 : settingB l wide = true
  · obtain ⟨⟨w1, w2⟩, w3⟩ := wordsB_true (settingB_true h1).1
    have hwd := (settingB_true h1).2.1
    refine ev_pos h1 ?_
    by_cases h2 : (l.length : Int) = 1
    · exact ev_pos h2 (fall _ rfl (by unfold stretchB; rw [decide_eq_false (by omega : ¬ (l.length : Int) ≠ 1)]; simp))
    · refine ev_neg h2 (Ev.bind (needs_ev l (by omega) w3) ?_)
      by_cases h3 : needL l ≤ wide
      · have hb : stretchB l wide = true := by unfold stretchB; rw [h1, decide_eq_true h2, decide_eq_true h3]; rfl
        have hs := sum_bd l w3
        have hg : 0 < (l.length : Int) - 1 := by omega
        have hnl : needL l = l.sum + l.length - 1 := rfl
        have hB : 0 ≤ wide - l.sum := by omega
        have hq := Int.ediv_nonneg hB (by omega : 0 ≤ (l.length : Int) - 1)
        have hq2 : (wide - l.sum) / ((l.length : Int) - 1) ≤ wide - l.sum := Int.ediv_le_self _ hB
        refine Ev.step (fun k => impl_StretchSpaces.j0.eq_2 ..) (ev_neg (by simp; omega) (Ev.bind (totalW_ev l (by omega) w3) ?_))
        rw [w64 (x := (l.length : Int) - 1) (by omega) (by omega), w64 (x := wide - l.sum) (by omega) (by omega)]
        refine ev_val (implStretch_l _ _ ((l.length : Int) - 1) (wide - l.sum) hg (by omega) (Int.tdiv_eq_ediv_of_nonneg hB) (Int.tmod_eq_emod_of_nonneg hB) hq (by omega) (l.length - 1) 0 [] (by omega) (by omega) (by simp only [List.length_nil]; omega)) ?_
        unfold stretchM; rw [if_pos hb, hb]; rfl
      · exact fall _ (decide_eq_true (by omega)) (by unfold stretchB; rw [decide_eq_false h3]; simp)
  · exact ev_neg h1 (fall _ rfl (by unfold stretchB; rw [Bool.eq_false_iff.2 h1, Bool.false_and]))

theorem repeat_eq (o : List UInt8) (d : Nat) (ho : o.length ≤ 1048576) (hd : d ≤ 1048576) : strings_Repeat.f (mkB o) (d : Int) = some (mkB (Lib.repeatL o d)) := by
  unfold strings_Repeat.f
  rw [if_pos (by omega), if_pos (by omega), if_pos (by rw [mkB_size]; exact ho), Int.toNat_natCast, mkB_data]
  rfl
theorem repeatL_len (o : List UInt8) (c : Nat) : (Lib.repeatL o c).length = c * o.length := Lib.repeatL_length o c

theorem ct32_ : (⟨#[32]⟩ : ByteArray) = mkB [32] := rfl
theorem ct0_ : (⟨#[]⟩ : ByteArray) = mkB [] := rfl
def sp (n : Nat) : List UInt8 := Lib.repeatL [32] n
theorem sp_len (n : Nat) : (sp n).length = n := by unfold sp; rw [repeatL_len]; simp
theorem sp_succ (n : Nat) : sp (n + 1) = [32] ++ sp n := rfl
def joinS : List Int → List (List UInt8) → List UInt8
  | b :: bs, p :: ps => sp b.toNat ++ p ++ joinS bs ps
  | _, _ => []
def sumL (ps : List (List UInt8)) : Int := (ps.map fun p => (p.length : Int)).sum
theorem sumL_head (x : UInt8) (ps : List (List UInt8)) (h : ps ≠ []) : sumL (headOn x ps) = sumL ps + 1 := by
  cases ps with
  | nil => exact absurd rfl h
  | cons p ps => simp only [sumL, headOn, List.map_cons, List.sum_cons, List.length_cons]; omega
theorem parts_sum (c : UInt8) : ∀ (l : List UInt8), sumL (parts c l) + (parts c l).length = (l.length : Int) + 1
  | [] => by simp [parts, sumL]
  | x :: xs => by
    have ih := parts_sum c xs
    rw [parts]
    split
    · simp only [sumL, List.map_cons, List.sum_cons, List.length_cons, List.length_nil] at ih ⊢; omega
    · rw [sumL_head x _ (parts_ne c xs), headOn_length x _ (parts_ne c xs), List.length_cons]; omega
theorem need_parts (l : List UInt8) : needL (lensT l) = (l.length : Int) := by
  have h := parts_sum 32 l
  have h2 := lensT_length l
  have e : needL (lensT l) = sumL (parts 32 l) + (lensT l).length - 1 := rfl
  omega
theorem specStr_l1 (ps : List (List UInt8)) (bs : List Int) (n i : Int) (hi : 0 ≤ i ∧ i ≤ 1000) (p : List UInt8) (qs : List (List UInt8)) (hp : ps.drop (i + 1).toNat = p :: qs) (hpl : p.length ≤ 1000) (r : ByteArray × Bool) : ∀ (m : Nat) (acc : List UInt8), acc.length + m ≤ 1000000 →
    Ev (fun k => spec_StretchText.l0 k (ps.map mkB) (mkB (acc ++ (sp m ++ p))) bs n (i + 1)) r →
    Ev (fun k => spec_StretchText.l1 k (ps.map mkB) (mkB acc) i (m : Int) bs n i) r := by
  intro m
  have hdm : (ps.map mkB).drop (i + 1).toNat = mkB p :: qs.map mkB := by rw [← List.map_drop, hp]; rfl
  have hln : i + 1 < ((ps.map mkB).length : Int) := (drop_get (by omega) hdm).1
  induction m with
  | zero =>
    intro acc ha hr
    refine Ev.step (fun k => spec_StretchText.l1.eq_2 ..) ?_
    rw [w64 (x := i + 1) (by omega) (by omega), rdOf_drop (by omega) hdm, mkB_append, mkB_size, mkB_size]
    refine ev_neg (by omega) (ev_pos (by omega) (ev_pos hln (ev_pos (by omega) ?_)))
    simpa [sp, Lib.repeatL] using hr
  | succ m ih =>
    intro acc ha hr
    refine Ev.step (fun k => spec_StretchText.l1.eq_2 ..) ?_
    rw [w64 (x := ((m + 1 : Nat) : Int) - 1) (by omega) (by omega), show ((m + 1 : Nat) : Int) - 1 = (m : Int) from by omega, ct32_, mkB_append, mkB_size]
    refine ev_pos (by omega) (ev_pos (by omega) (ih (acc ++ [32]) (by simp only [List.length_append, List.length_cons, List.length_nil]; omega) ?_))
    have e : acc ++ [32] ++ (sp m ++ p) = acc ++ (sp (m + 1) ++ p) := by rw [sp_succ]; simp
    rw [e]; exact hr
theorem specStr_l (ps : List (List UInt8)) (hpn : ps.length ≤ 1000) (hpb : ∀ p ∈ ps, p.length ≤ 1000) (bs : List Int) (_hbn : bs.length ≤ 1000) (hbb : ∀ b ∈ bs, 0 ≤ b ∧ b ≤ 1000) : ∀ (ys : List Int) (i : Int) (qs : List (List UInt8)) (acc : List UInt8), 0 ≤ i → bs.drop i.toNat = ys → ps.drop (i + 1).toNat = qs → qs.length = ys.length → acc.length + 2000 * ys.length ≤ 500000 →
    Ev (fun k => spec_StretchText.l0 k (ps.map mkB) (mkB acc) bs (bs.length : Int) i) (mkB (acc ++ joinS ys qs), true) := by
  intro ys
  induction ys with
  | nil =>
    intro i qs acc h0 h _ _ _
    have := drop_nil h0 h
    refine Ev.step (fun k => spec_StretchText.l0.eq_2 ..) ?_
    exact ev_neg (by omega) (ev_now (by simp [joinS]))
  | cons y ys ih =>
    intro i qs acc h0 h hq hl ha
    obtain ⟨h1, h2, h3, _⟩ := drop_cons h0 h
    obtain ⟨p, qs, rfl⟩ : ∃ p qs', qs = p :: qs' := by
      rcases qs with _ | ⟨p, qs⟩
      · simp at hl
      · exact ⟨p, qs, rfl⟩
    have hb := hbb y (List.mem_of_mem_drop (by rw [h]; exact List.mem_cons_self))
    have hpl := hpb p (List.mem_of_mem_drop (by rw [hq]; exact List.mem_cons_self))
    obtain ⟨_, _, q3, _⟩ := drop_get (by omega) hq
    simp only [List.length_cons] at hl ha
    obtain ⟨m, rfl⟩ : ∃ m : Nat, y = m := ⟨y.toNat, by omega⟩
    refine Ev.step (fun k => spec_StretchText.l0.eq_2 ..) ?_
    rw [h2]
    refine ev_pos h1 (ev_pos h0 (ev_pos h1 ?_))
    refine specStr_l1 ps bs _ i (by omega) p qs hq hpl _ m acc (by omega) ?_
    have s := sp_len m
    refine ev_val (ih (i + 1) qs _ (by omega) h3 q3 (by omega) (by simp only [List.length_append]; omega)) ?_
    simp [joinS]
theorem implStr_l (ps : List (List UInt8)) (hpn : ps.length ≤ 1000) (hpb : ∀ p ∈ ps, p.length ≤ 1000) (bs : List Int) (_hbn : bs.length ≤ 1000) (hbb : ∀ b ∈ bs, 0 ≤ b ∧ b ≤ 1000) : ∀ (ys : List Int) (i : Int) (qs : List (List UInt8)) (acc : List UInt8), 0 ≤ i → bs.drop i.toNat = ys → ps.drop (i + 1).toNat = qs → qs.length = ys.length → acc.length + 2000 * ys.length ≤ 500000 →
    Ev (fun k => impl_StretchText.l0 k bs (mkB acc) (ps.map mkB) ((ps.map mkB).length : Int) (i + 1)) (mkB (acc ++ joinS ys qs), true) := by
  intro ys
  induction ys with
  | nil =>
    intro i qs acc h0 h hq hl _
    have hq0 : qs = [] := List.eq_nil_of_length_eq_zero (by simpa using hl)
    subst hq0
    have := drop_nil (by omega) hq
    refine Ev.step (fun k => impl_StretchText.l0.eq_2 ..) ?_
    exact ev_neg (by rw [List.length_map]; omega) (ev_now (by simp [joinS]))
  | cons y ys ih =>
    intro i qs acc h0 h hq hl ha
    obtain ⟨h1, h2, h3, _⟩ := drop_cons h0 h
    obtain ⟨p, qs, rfl⟩ : ∃ p qs', qs = p :: qs' := by
      rcases qs with _ | ⟨p, qs⟩
      · simp at hl
      · exact ⟨p, qs, rfl⟩
    have hb := hbb y (List.mem_of_mem_drop (by rw [h]; exact List.mem_cons_self))
    have hpl := hpb p (List.mem_of_mem_drop (by rw [hq]; exact List.mem_cons_self))
    obtain ⟨q1, _, q3, _⟩ := drop_get (by omega) hq
    have hdm : (ps.map mkB).drop (i + 1).toNat = mkB p :: qs.map mkB := by rw [← List.map_drop, hq]; rfl
    have hln : i + 1 < ((ps.map mkB).length : Int) := (drop_get (by omega) hdm).1
    simp only [List.length_cons] at hl ha
    obtain ⟨m, rfl⟩ : ∃ m : Nat, y = m := ⟨y.toNat, by omega⟩
    have s := sp_len m
    refine Ev.step (fun k => impl_StretchText.l0.eq_2 ..) ?_
    rw [w64 (x := i + 1 - 1) (by omega) (by omega), show i + 1 - 1 = i from by omega, h2, w64 (x := i + 1 + 1) (by omega) (by omega), rdOf_drop (by omega) hdm, ct32_]
    refine ev_pos hln (ev_pos (by omega) (ev_pos hln (ev_pos (by omega) (ev_pos h0 (ev_pos h1 (ev_some (repeat_eq [32] m (by simp) (by omega)) ?_))))))
    have e : Lib.repeatL [32] m = sp m := rfl
    rw [e, mkB_append, mkB_append, mkB_size, mkB_size, mkB_size, mkB_size]
    refine ev_pos (by omega) (ev_pos (by rw [List.length_append]; omega) (ev_val (ih (i + 1) qs _ (by omega) h3 q3 (by omega) (by simp only [List.length_append]; omega)) ?_))
    simp [joinS]
def strOk (l : List UInt8) (w : Int) : Bool := textOk l && stretchB (lensT l) w
def strM (l : List UInt8) (w : Int) : ByteArray × Bool := if strOk l w = true then (mkB ((parts 32 l).headD [] ++ joinS (stretchL (lensT l) w) (parts 32 l).tail), true) else (⟨#[]⟩, false)
theorem specStr_ev (l : List UInt8) (w : Int) (hl : l.length ≤ 1048576) : Ev (fun k => spec_StretchText.f k (mkB l) w) (strM l w) := by
  have fall : ∀ b : Bool, b = true → strOk l w = false → Ev (fun k => spec_StretchText.j0 k (mkB l) w b) (strM l w) := fun b hb hf => by
    refine Ev.step (fun k => spec_StretchText.j0.eq_2 ..) (ev_pos hb (ev_now ?_))
    unfold strM; rw [hf]; rfl
  unfold spec_StretchText.f
  refine Ev.bind (lnText_ev l hl) ?_
  by_cases h1 : textOk l = true
  · have ht := textOk_true h1
    have hpl := parts_length 32 l
    have hll := lensT_length l
    refine ev_pos h1 (Ev.bind (lnParts_ev l (by omega)) (Ev.bind (lnLengths_ev _ (parts_small l (by omega))) ?_))
    rw [szL_parts]
    refine Ev.bind (lnFits_ev (lensT l) w (by omega)) ?_
    by_cases h2 : settingB (lensT l) w = true
    · refine ev_pos h2 (Ev.bind (lnParts_ev l (by omega)) ?_)
      rw [List.length_map, ← hll]
      by_cases h3 : ((lensT l).length : Int) = 1
      · exact ev_pos h3 (fall _ rfl (by unfold strOk stretchB; rw [decide_eq_false (by omega : ¬ ((lensT l).length : Int) ≠ 1)]; simp))
      · refine ev_neg h3 ?_
        rw [mkB_size]
        have hne := need_parts l
        by_cases h4 : (l.length : Int) > w
        · exact fall _ (decide_eq_true h4) (by unfold strOk stretchB; rw [decide_eq_false (by omega : ¬ needL (lensT l) ≤ w)]; simp)
        · have hb : stretchB (lensT l) w = true := by unfold stretchB; rw [h2, decide_eq_true h3, decide_eq_true (by omega : needL (lensT l) ≤ w)]; rfl
          have hok : strOk l w = true := by unfold strOk; rw [h1, hb]; rfl
          obtain ⟨f1, f2, _, f4, f5⟩ := stretchL_facts hb
          obtain ⟨p, qs, hpq⟩ : ∃ p qs, parts 32 l = p :: qs := by
            rcases hd : parts 32 l with _ | ⟨p, qs⟩
            · exact absurd hd (parts_ne 32 l)
            · exact ⟨p, qs, rfl⟩
          refine Ev.step (fun k => spec_StretchText.j0.eq_2 ..) (ev_neg (by simp; omega) (Ev.bind (lnParts_ev l (by omega)) (ev_pos (by rw [List.length_map]; omega) (Ev.bind (lnLengths_ev _ (parts_small l (by omega))) ?_))))
          rw [szL_parts]
          refine Ev.bind (lnStretch_ev (lensT l) w hb) ?_
          have hr0 : rdOf ByteArray.empty ((parts 32 l).map mkB) 0 = mkB p := by rw [hpq]; rfl
          have hpb : ∀ p ∈ parts 32 l, p.length ≤ 1000 := fun p hp => by have := parts_part_len 32 l p hp; omega
          have hpp := hpb p (by rw [hpq]; exact List.mem_cons_self)
          have hpc : (parts 32 l).length = qs.length + 1 := by rw [hpq]; rfl
          rw [hr0]
          refine ev_val (specStr_l (parts 32 l) (by omega) hpb _ (by omega) f4 _ 0 qs p (by omega) rfl (by rw [hpq]; rfl) (by rw [Int.toNat_zero, List.drop_zero]; omega) (by rw [Int.toNat_zero, List.drop_zero]; omega)) ?_
          unfold strM; rw [if_pos hok, hpq]; rfl
    · exact ev_neg h2 (fall _ rfl (by unfold strOk stretchB; rw [Bool.eq_false_iff.2 h2, Bool.false_and, Bool.and_false]))
  · exact ev_neg h1 (fall _ rfl (by unfold strOk; rw [Bool.eq_false_iff.2 h1, Bool.false_and]))
theorem implStr_ev (l : List UInt8) (w : Int) (hl : l.length ≤ 1048576) : Ev (fun k => impl_StretchText.f k (mkB l) w) (strM l w) := by
  unfold impl_StretchText.f
  refine Ev.bind (implWords_ev l hl) ?_
  have no : strOk l w = false → ((⟨#[]⟩ : ByteArray), false) = strM l w := fun h => by unfold strM; rw [h]; rfl
  by_cases h1 : textOk l = true
  · have ht := textOk_true h1
    have hpl := parts_length 32 l
    have hll := lensT_length l
    by_cases h3 : wordsB (lensT l) = true
    · have e : wordsM l = (lensT l, true) := by unfold wordsM; rw [if_pos h1, if_pos h3]
      rw [e]
      refine ev_pos rfl (Ev.bind (implStretch_ev (lensT l) w (by omega)) ?_)
      by_cases hb : stretchB (lensT l) w = true
      · have hok : strOk l w = true := by unfold strOk; rw [h1, hb]; rfl
        have hM : stretchM (lensT l) w = stretchL (lensT l) w := by unfold stretchM; rw [if_pos hb]
        rw [hM]
        obtain ⟨f1, f2, _, f4, f5⟩ := stretchL_facts hb
        obtain ⟨p, qs, hpq⟩ : ∃ p qs, parts 32 l = p :: qs := by
          rcases hd : parts 32 l with _ | ⟨p, qs⟩
          · exact absurd hd (parts_ne 32 l)
          · exact ⟨p, qs, rfl⟩
        have hpb : ∀ p ∈ parts 32 l, p.length ≤ 1000 := fun p hp => by have := parts_part_len 32 l p hp; omega
        have hpp := hpb p (by rw [hpq]; exact List.mem_cons_self)
        have hpc : (parts 32 l).length = qs.length + 1 := by rw [hpq]; rfl
        refine ev_pos hb (ev_some (split_eq 32 l (by omega)) ?_)
        have hr0 : rdOf ByteArray.empty ((parts 32 l).map mkB) 0 = mkB p := by rw [hpq]; rfl
        refine Ev.step (fun k => impl_StretchText.l0.eq_2 ..) ?_
        rw [hr0, ct0_, mkB_append, mkB_size, mkB_size, w64 (x := 0 + 1) (by omega) (by omega)]
        refine ev_pos (by rw [List.length_map]; omega) (ev_pos (by omega) (ev_pos (by rw [List.length_map]; omega) (ev_neg (by omega) (ev_pos (by simp only [List.length_nil]; omega) ?_))))
        refine ev_val (implStr_l (parts 32 l) (by omega) hpb _ (by omega) f4 _ 0 qs p (by omega) rfl (by rw [hpq]; rfl) (by rw [Int.toNat_zero, List.drop_zero]; omega) (by rw [Int.toNat_zero, List.drop_zero]; omega)) ?_
        unfold strM; rw [if_pos hok, hpq]; rfl
      · exact ev_neg hb (ev_now (no (by unfold strOk; rw [Bool.eq_false_iff.2 hb, Bool.and_false])))
    · have e : wordsM l = ([], false) := by unfold wordsM; rw [if_pos h1, if_neg h3]
      rw [e]
      exact ev_neg (by simp) (ev_now (no (by unfold strOk stretchB settingB; rw [Bool.eq_false_iff.2 h3]; simp)))
  · have e : wordsM l = ([], false) := by unfold wordsM; rw [if_neg h1]
    rw [e]
    exact ev_neg (by simp) (ev_now (no (by unfold strOk; rw [Bool.eq_false_iff.2 h1, Bool.false_and])))
theorem FnExactStretchText (a : ByteArray) (w : Int) (_ha : a.size ≤ 140737488351232) : ∃ k, laws_FnExactStretchText.f k a w = some true := by
  refine Ev.rounds ?_
  unfold laws_FnExactStretchText.f
  by_cases h : (a.size : Int) > 1048576
  · exact ev_pos h (ev_now rfl)
  · refine ev_neg h ?_
    have hs : a.data.toList.length = a.size := by rw [Array.length_toList]; rfl
    have hl : a.data.toList.length ≤ 1048576 := by omega
    have e := mkB_eq a
    have h1 := specStr_ev a.data.toList w hl
    have h2 := implStr_ev a.data.toList w hl
    rw [e] at h1 h2
    exact Ev.bind h1 (Ev.bind h2 (ev_pos rfl (ev_neg (by simp) (ev_now rfl))))

end Go.Proofs.YtgbnpemoljhamaaDoor.Pure
