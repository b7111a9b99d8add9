/- The law FnExactSetText holds for every text and width: program and reference tell the same lines. No condition but what the card lists. -/
import Derived.Test.YtgbnpemoljhamaaDoorPFnExactSetTextx7
namespace Go.Proofs.YtgbnpemoljhamaaDoor.Pure
open Go.RowKit Go.Proofs.YtgbnpemoljhamaaDoor.PFnExactSetText Go.Proofs.YtgbnpemoljhamaaDoorW.PrintWords Go.Proofs.YtgbnpemoljhamaaDoorW.PrintLast

theorem w64 {x : Int} (h1 : -9223372036854775808 ≤ x) (h2 : x ≤ 9223372036854775807) : wrap64 x = x := by
  unfold wrap64; omega
theorem ev_pos {α : Type} {c : Prop} [Decidable c] {f g : Nat → Option α} {r : α} (hc : c) (h : Ev f r) : Ev (fun k => if c then f k else g k) r := by
  simpa only [if_pos hc] using h
theorem ev_neg {α : Type} {c : Prop} [Decidable c] {f g : Nat → Option α} {r : α} (hc : ¬ c) (h : Ev g r) : Ev (fun k => if c then f k else g k) r := by
  simpa only [if_neg hc] using h
theorem ev_now {α : Type} {r s : α} (h : r = s) : Ev (fun _ => some r) s := h ▸ Ev.now r
theorem ev_some {α β : Type} {x : Option α} {f : Nat → α → Option β} {a : α} {r : β} (h : x = some a) (k : Ev (fun n => f n a) r) : Ev (fun n => x.bind (f n)) r := by
  subst h; exact k
theorem ev_val {α : Type} {g : Nat → Option α} {a b : α} (h : Ev g a) (e : a = b) : Ev g b := e ▸ h
theorem ev_suc {α : Type} {g : Nat → Option α} {r : α} (h : Ev (fun k => g (k + 1)) r) : Ev g r := Ev.step (fun _ => rfl) h
theorem drop_nil {α : Type} {xs : List α} {i : Int} (h0 : 0 ≤ i) (h : xs.drop i.toNat = []) : (xs.length : Int) ≤ i := by
  have := List.drop_eq_nil_iff.1 h
  omega
theorem drop_get {α : Type} {xs : List α} {i : Int} {y : α} {ys : List α} (h0 : 0 ≤ i) (h : xs.drop i.toNat = y :: ys) : i < (xs.length : Int) ∧ (∀ d, xs.getD i.toNat d = y) ∧ xs.drop (i + 1).toNat = ys ∧ xs.take (i + 1).toNat = xs.take i.toNat ++ [y] := by
  have hl : i.toNat < xs.length := by
    rcases Nat.lt_or_ge i.toNat xs.length with hl | hl
    · exact hl
    · rw [List.drop_eq_nil_iff.2 hl] at h; cases h
  have e := List.drop_eq_getElem_cons hl
  rw [h] at e
  injection e with e1 e2
  have h1 : (i + 1).toNat = i.toNat + 1 := by omega
  refine ⟨by omega, fun d => ?_, ?_, ?_⟩
  · rw [List.getD_eq_getElem?_getD, List.getElem?_eq_getElem hl, e1]; rfl
  · rw [h1]; exact e2.symm
  · rw [h1, List.take_add_one, List.getElem?_eq_getElem hl, e1]; rfl
theorem drop_cons {xs : List Int} {i : Int} {y : Int} {ys : List Int} (h0 : 0 ≤ i) (h : xs.drop i.toNat = y :: ys) : i < (xs.length : Int) ∧ rd xs i = y ∧ xs.drop (i + 1).toNat = ys ∧ xs.take (i + 1).toNat = xs.take i.toNat ++ [y] := by
  obtain ⟨h1, h2, h3⟩ := drop_get h0 h
  exact ⟨h1, h2 0, h3⟩

/-! ### Texts as lists of bytes -/
def mkB (l : List UInt8) : ByteArray := ⟨l.toArray⟩
theorem mkB_data (l : List UInt8) : (mkB l).data.toList = l := by simp [mkB]
theorem mkB_size (l : List UInt8) : (mkB l).size = l.length := by simp [mkB, ByteArray.size]
theorem mkB_eq (s : ByteArray) : mkB s.data.toList = s := by cases s; simp [mkB]
theorem mkB_append (a b : List UInt8) : mkB a ++ mkB b = mkB (a ++ b) := by
  apply ByteArray.ext
  simp [mkB, ByteArray.data_append]
theorem mkB_drop (l : List UInt8) (i : Nat) : (mkB l).extract i (mkB l).size = mkB (l.drop i) := by
  apply ByteArray.ext
  apply Array.toList_inj.1
  rw [mkB_size]
  simp only [mkB, ByteArray.data_extract, List.extract_toArray, List.extract_eq_take_drop]
  rw [List.take_of_length_le (by rw [List.length_drop]; exact Nat.le_refl _)]
theorem mkB_slice (l : List UInt8) (i j : Nat) : (mkB l).extract i j = mkB ((l.take j).drop i) := by
  apply ByteArray.ext
  apply Array.toList_inj.1
  simp [mkB, ByteArray.data_extract, List.drop_take]
theorem mkB_nums (xs : List Int) : strOfNums xs = mkB (xs.map fun n => UInt8.ofNat n.toNat) := rfl
theorem mkB_inj {a b : List UInt8} (h : mkB a = mkB b) : a = b := by
  have := congrArg (fun s => s.data.toList) h
  simpa [mkB] using this
theorem bt_mkB {l : List UInt8} {i : Nat} {x : UInt8} {xs : List UInt8} (h : l.drop i = x :: xs) : bt (mkB l) (i : Int) = (x.toNat : Int) := by
  have hl : i < l.length := by
    rcases Nat.lt_or_ge i l.length with g | g
    · exact g
    · rw [List.drop_eq_nil_iff.2 g] at h; cases h
  have e : l[i] = x := by
    have := List.drop_eq_getElem_cons hl
    rw [h] at this
    injection this with h1 _
    exact h1.symm
  have hs : (i : Int).toNat < (mkB l).size := by rw [Int.toNat_natCast, mkB_size]; exact hl
  rw [← bt_at _ _ hs, ← e]
  rfl
theorem drop_step {α : Type} {l : List α} {i : Nat} {x : α} {xs : List α} (h : l.drop i = x :: xs) : i < l.length ∧ l.drop (i + 1) = xs := by
  have hl : i < l.length := by
    rcases Nat.lt_or_ge i l.length with g | g
    · exact g
    · rw [List.drop_eq_nil_iff.2 g] at h; cases h
  have := List.drop_eq_getElem_cons hl
  rw [h] at this
  injection this with _ h2
  exact ⟨hl, h2.symm⟩

def headOn (x : UInt8) : List (List UInt8) → List (List UInt8)
  | p :: ps => (x :: p) :: ps
  | [] => [[x]]
/-- The parts of a text between a byte's places. -/
def parts (c : UInt8) : List UInt8 → List (List UInt8)
  | [] => [[]]
  | x :: xs => if x = c then [] :: parts c xs else headOn x (parts c xs)
def glue (cur : List UInt8) : List (List UInt8) → List (List UInt8)
  | p :: ps => (cur ++ p) :: ps
  | [] => [cur]
theorem headOn_length (x : UInt8) (ps : List (List UInt8)) (h : ps ≠ []) : (headOn x ps).length = ps.length := by
  cases ps with
  | nil => exact absurd rfl h
  | cons p ps => rfl
theorem parts_ne (c : UInt8) (l : List UInt8) : parts c l ≠ [] := by
  cases l with
  | nil => simp [parts]
  | cons x xs =>
    rw [parts]
    split
    · simp
    · cases parts c xs <;> simp [headOn]
theorem parts_length (c : UInt8) : ∀ (l : List UInt8), (parts c l).length ≤ l.length + 1
  | [] => by simp [parts]
  | x :: xs => by
    have := parts_length c xs
    rw [parts]
    split
    · simp only [List.length_cons]; omega
    · rw [headOn_length x _ (parts_ne c xs)]; simp only [List.length_cons]; omega
theorem parts_part_len (c : UInt8) : ∀ (l : List UInt8), ∀ p ∈ parts c l, p.length ≤ l.length
  | [], p, h => by simp [parts] at h; subst h; simp
  | x :: xs, p, h => by
    rw [parts] at h
    split at h
    · rcases List.mem_cons.1 h with rfl | h
      · simp
      · have := parts_part_len c xs p h; simp only [List.length_cons]; omega
    · have hne := parts_ne c xs
      rcases hp : parts c xs with _ | ⟨q, qs⟩
      · exact absurd hp hne
      · rw [hp] at h
        rcases List.mem_cons.1 h with rfl | h
        · have := parts_part_len c xs q (by rw [hp]; exact List.mem_cons_self)
          simp only [List.length_cons]; omega
        · have := parts_part_len c xs p (by rw [hp]; exact List.mem_cons_of_mem _ h)
          simp only [List.length_cons]; omega
theorem glue_nil (ps : List (List UInt8)) (h : ps ≠ []) : glue [] ps = ps := by
  cases ps with
  | nil => exact absurd rfl h
  | cons p ps => rfl
theorem glue_head (cur : List UInt8) (x : UInt8) (ps : List (List UInt8)) : glue (cur ++ [x]) ps = glue cur (headOn x ps) := by
  cases ps with
  | nil => rfl
  | cons p ps => simp [glue, headOn]

theorem index_cons_ (x c : UInt8) (xs : List UInt8) (h : x ≠ c) : Lib.index (x :: xs) [c] = if Lib.index xs [c] == -1 then -1 else Lib.index xs [c] + 1 := by
  have hp : ([c] : List UInt8).isPrefixOf (x :: xs) = false := by simp [List.isPrefixOf, Ne.symm h]
  rw [Lib.index, hp]; simp
theorem index_head_ (c : UInt8) (xs : List UInt8) : Lib.index (c :: xs) [c] = 0 := by rw [Lib.index]; simp [List.isPrefixOf]
theorem splitK_parts (c : UInt8) : ∀ (l : List UInt8) (k : Nat), l.count c ≤ k → Lib.splitK [c] 0 k l = parts c l := by
  intro l
  induction l with
  | nil =>
    intro k _
    cases k with
    | zero => rfl
    | succ k => unfold Lib.splitK; rw [if_pos (by simp [Lib.index])]; rfl
  | cons x xs ih =>
    intro k hk
    by_cases h : x = c
    · subst h
      rw [List.count_cons_self] at hk
      cases k with
      | zero => omega
      | succ k =>
        unfold Lib.splitK
        rw [index_head_, if_neg (by simp), parts, if_pos rfl]
        simp only [Int.toNat_zero, Nat.zero_add, List.take_zero, List.length_cons, List.length_nil, List.drop_succ_cons, List.drop_zero]
        rw [ih k (by omega)]
    · rw [List.count_cons_of_ne (by simpa using h)] at hk
      rw [parts, if_neg h, ← ih k hk]
      cases k with
      | zero => rfl
      | succ k =>
        unfold Lib.splitK
        rw [index_cons_ x c xs h]
        by_cases m : Lib.index xs [c] = -1
        · rw [if_pos (by rw [m]; simp), if_pos (by rw [m]; simp)]; rfl
        · have hge := Lib.index_ge xs [c]
          obtain ⟨j, hj⟩ : ∃ j : Nat, Lib.index xs [c] = j := ⟨(Lib.index xs [c]).toNat, by omega⟩
          have n1 : ((j : Int) == -1) = false := by simp
          have n2 : (((j : Int) + 1) == -1) = false := by simp; omega
          have t1 : ((j : Int) + 1).toNat = j + 1 := by omega
          rw [hj, n1]
          simp only [Bool.false_eq_true, if_false]
          rw [n2]
          simp only [Bool.false_eq_true, if_false, t1, Int.toNat_natCast, Nat.add_zero, List.length_cons, List.length_nil]
          rfl
theorem splitB_parts (c : UInt8) (l : List UInt8) : splitB (mkB l) (mkB [c]) = (parts c l).map mkB := by
  have h1 := Lib.splitB_data (mkB [c]) 0 (Lib.countB (mkB l) (mkB [c])) (mkB l)
  have h2 : Lib.countB (mkB l) (mkB [c]) = l.count c := by
    show Lib.count _ _ = _
    rw [mkB_data, mkB_data, Lib.count_one]
  rw [mkB_data, mkB_data, h2, splitK_parts c l _ (Nat.le_refl _)] at h1
  unfold splitB
  rw [h2]
  have h3 : (parts c l).map mkB = ((Lib.splitB (mkB [c]) 0 (l.count c) (mkB l)).map (·.data.toList)).map mkB := by rw [h1]
  rw [h3, List.map_map]
  have : (mkB ∘ fun x : ByteArray => x.data.toList) = id := by funext x; exact mkB_eq x
  rw [this, List.map_id]
theorem split_eq (c : UInt8) (l : List UInt8) (hl : l.length ≤ 4294967280) : strings_Split.f (mkB l) (mkB [c]) = some ((parts c l).map mkB) := by
  unfold strings_Split.f
  rw [if_pos (by rw [mkB_size]; exact hl), if_pos (by rw [mkB_size]; simp), splitB_parts]

theorem within_eq (a lo hi : Int) : impl_within.f a lo hi = some (decide (lo ≤ a ∧ a ≤ hi)) := by
  unfold impl_within.f
  by_cases h : a ≥ lo
  · rw [if_pos h]; congr 1; simp [show lo ≤ a from h]
  · rw [if_neg h]; congr 1; simp; omega

theorem l1In_eq (a lo hi : Int) : spec_l1In.f a lo hi = some (decide (lo ≤ a ∧ a ≤ hi)) := by
  unfold spec_l1In.f
  by_cases h : a ≥ lo
  · rw [if_pos h]; congr 1; simp [show lo ≤ a from h]
  · rw [if_neg h]; congr 1; simp; omega

def plainB (b : UInt8) : Bool := decide (32 ≤ b.toNat ∧ b.toNat ≤ 126)
theorem plain_lt {x : UInt8} (h : ¬ ((x.toNat : Int) < 32)) (h2 : ¬ ((x.toNat : Int) > 126)) : plainB x = true := by
  unfold plainB; rw [decide_eq_true_eq]; omega
theorem plain_not1 {x : UInt8} (h : (x.toNat : Int) < 32) : plainB x = false := by
  unfold plainB; rw [decide_eq_false_iff_not]; omega
theorem plain_not2 {x : UInt8} (h : (x.toNat : Int) > 126) : plainB x = false := by
  unfold plainB; rw [decide_eq_false_iff_not]; omega
/-- No part is empty; p: stands the byte ahead (or the begin). -/
def fullP (c : UInt8) : Bool → List UInt8 → Bool
  | p, [] => !p
  | p, x :: xs => if x = c then !p && fullP c true xs else fullP c false xs
theorem fullP_iff (c : UInt8) : ∀ (l : List UInt8), (fullP c true l = true ↔ [] ∉ parts c l) ∧ (fullP c false l = true ↔ [] ∉ (parts c l).tail)
  | [] => by simp [fullP, parts]
  | x :: xs => by
    obtain ⟨h1, h2⟩ := fullP_iff c xs
    by_cases e : x = c
    · subst e
      simp only [fullP, parts, if_true]
      exact ⟨by simp, by simpa using h1⟩
    · simp only [fullP, parts, if_neg e]
      rcases hp : parts c xs with _ | ⟨q, qs⟩
      · exact absurd hp (parts_ne c xs)
      · rw [hp] at h2
        simp only [headOn, List.tail_cons] at h2 ⊢
        exact ⟨by simpa using h2, h2⟩
def dblP (c : UInt8) : Bool → List UInt8 → Bool
  | _, [] => true
  | p, x :: xs => if x = c then !p && dblP c true xs else dblP c false xs
def endP (c : UInt8) : Bool → List UInt8 → Bool
  | p, [] => !p
  | _, x :: xs => endP c (decide (x = c)) xs
theorem fullP_eq (c : UInt8) : ∀ (l : List UInt8) (p : Bool), fullP c p l = (dblP c p l && endP c p l)
  | [], p => by simp [fullP, dblP, endP]
  | x :: xs, p => by
    by_cases e : x = c
    · simp [fullP, dblP, endP, e, fullP_eq c xs, Bool.and_assoc]
    · simp [fullP, dblP, endP, e, fullP_eq c xs]
def textOk (l : List UInt8) : Bool := decide (1 ≤ l.length ∧ l.length ≤ 200) && (l.all plainB && fullP 32 true l)
theorem textOk_true {l : List UInt8} (h : textOk l = true) : 1 ≤ l.length ∧ l.length ≤ 200 ∧ fullP 32 true l = true := by
  simp only [textOk, Bool.and_eq_true, decide_eq_true_eq] at h
  exact ⟨h.1.1, h.1.2, h.2.2⟩
theorem endP_last (c : UInt8) : ∀ (l : List UInt8) (p : Bool) (y : UInt8), l.drop (l.length - 1) = [y] → endP c p l = decide (y ≠ c)
  | [], p, y, h => by simp at h
  | [x], p, y, h => by simp at h; subst h; simp [endP]
  | x :: z :: zs, p, y, h => by
    rw [endP]
    refine endP_last c (z :: zs) _ y ?_
    simp only [List.length_cons] at h ⊢
    rw [show zs.length + 1 + 1 - 1 = (zs.length + 1 - 1) + 1 from by omega, List.drop_succ_cons] at h
    exact h
theorem toNat32 (y : UInt8) : ((y.toNat : Int) = 32) ↔ y = 32 := by
  constructor
  · intro h
    exact UInt8.toNat_inj.1 (by show y.toNat = 32; omega)
  · intro h; subst h; rfl
theorem lnText_l (l : List UInt8) (hl : l.length ≤ 1048576) : ∀ (ys : List UInt8) (i : Nat) (p : Bool), l.drop i = ys → (i = 0 → p = false ∧ ∀ y zs, ys = y :: zs → y ≠ 32) → (∀ z zs, 0 < i → l.drop (i - 1) = z :: zs → p = decide (z = 32)) →
    Ev (fun k => spec_lnText.l0 k (mkB l) (i : Int)) (ys.all plainB && dblP 32 p ys) := by
  intro ys
  induction ys with
  | nil =>
    intro i p h _ _
    have := List.drop_eq_nil_iff.1 h
    refine Ev.step (fun k => spec_lnText.l0.eq_2 ..) ?_
    exact ev_neg (by rw [mkB_size]; omega) (ev_now (by simp [dblP]))
  | cons y ys ih =>
    intro i p h h0 hp
    obtain ⟨g1, g2⟩ := drop_step h
    refine Ev.step (fun k => spec_lnText.l0.eq_2 ..) ?_
    rw [bt_mkB h, mkB_size, w64 (x := (i : Int) + 1) (by omega) (by omega), w64 (x := (i : Int) - 1) (by omega) (by omega)]
    refine ev_pos (by omega) (ev_pos (by omega) ?_)
    by_cases c1 : (y.toNat : Int) < 32
    · exact ev_pos c1 (ev_now (by rw [List.all_cons, plain_not1 c1, Bool.false_and, Bool.false_and]))
    by_cases c2 : (y.toNat : Int) > 126
    · exact ev_neg c1 (ev_pos c2 (ev_now (by rw [List.all_cons, plain_not2 c2, Bool.false_and, Bool.false_and])))
    refine ev_neg c1 (ev_neg c2 ?_)
    have hn := ih (i + 1) (decide (y = 32)) g2 (fun e => by omega) (fun z zs _ hz => by rw [show i + 1 - 1 = i from by omega, h] at hz; injection hz with a _; rw [a])
    rw [show ((i + 1 : Nat) : Int) = (i : Int) + 1 from by omega] at hn
    by_cases c3 : y = 32
    · have hi : 0 < i := by
        rcases Nat.eq_zero_or_pos i with z | z
        · exact absurd c3 ((h0 z).2 y ys rfl)
        · exact z
      obtain ⟨z, zs, hz⟩ : ∃ z zs, l.drop (i - 1) = z :: zs := by
        rcases hd : l.drop (i - 1) with _ | ⟨z, zs⟩
        · have := List.drop_eq_nil_iff.1 hd; omega
        · exact ⟨z, zs, rfl⟩
      have hpz := hp z zs hi hz
      have hb : bt (mkB l) ((i : Int) - 1) = (z.toNat : Int) := by rw [show (i : Int) - 1 = ((i - 1 : Nat) : Int) from by omega]; exact bt_mkB hz
      rw [hb]
      refine ev_pos ((toNat32 y).2 c3) (ev_pos (by omega) (ev_pos (by omega) ?_))
      by_cases c4 : z = 32
      · refine ev_pos ((toNat32 z).2 c4) (ev_now ?_)
        rw [dblP, if_pos c3, hpz, decide_eq_true c4]; simp
      · refine ev_neg (fun q => c4 ((toNat32 z).1 q)) (ev_val hn ?_)
        rw [List.all_cons, plain_lt c1 c2, Bool.true_and, dblP, if_pos c3, hpz, decide_eq_false c4, decide_eq_true c3]; simp
    · refine ev_neg (fun q => c3 ((toNat32 y).1 q)) (ev_val hn ?_)
      rw [List.all_cons, plain_lt c1 c2, Bool.true_and, dblP, if_neg c3, decide_eq_false c3]
theorem lnText_ev (l : List UInt8) (hl : l.length ≤ 1048576) : Ev (fun k => spec_lnText.f k (mkB l)) (textOk l) := by
  unfold spec_lnText.f
  rw [mkB_size]
  refine ev_some (l1In_eq ..) ?_
  by_cases h : 1 ≤ (l.length : Int) ∧ (l.length : Int) ≤ 200
  · have e : (1 ≤ l.length ∧ l.length ≤ 200) := by omega
    refine ev_pos (decide_eq_true h) (ev_pos (by omega) ?_)
    obtain ⟨x, xs, hx⟩ : ∃ x xs, l = x :: xs := by
      rcases l with _ | ⟨x, xs⟩
      · simp at e
      · exact ⟨x, xs, rfl⟩
    have hd0 : l.drop 0 = x :: xs := by rw [List.drop_zero, hx]
    have hb0 : bt (mkB l) 0 = (x.toNat : Int) := bt_mkB (i := 0) hd0
    obtain ⟨y, hy⟩ : ∃ y, l.drop (l.length - 1) = [y] := by
      have hlen : (l.drop (l.length - 1)).length = 1 := by rw [List.length_drop]; omega
      rcases hd : l.drop (l.length - 1) with _ | ⟨y, ys⟩
      · rw [hd] at hlen; simp at hlen
      · rw [hd] at hlen; simp at hlen; rw [hlen]; exact ⟨y, rfl⟩
    have hb1 : bt (mkB l) ((l.length : Int) - 1) = (y.toNat : Int) := by rw [show (l.length : Int) - 1 = ((l.length - 1 : Nat) : Int) from by omega]; exact bt_mkB hy
    rw [w64 (x := (l.length : Int) - 1) (by omega) (by omega), hb0, hb1]
    have hfull := fullP_eq 32 l true
    have hend := endP_last 32 l true y hy
    by_cases c1 : x = 32
    · refine ev_pos ((toNat32 x).2 c1) (Ev.step (fun k => spec_lnText.j0.eq_2 ..) (ev_pos rfl (ev_now ?_)))
      unfold textOk
      have : dblP 32 true l = false := by rw [hx, dblP, if_pos c1]; rfl
      rw [hfull, this]; simp
    · refine ev_neg (fun q => c1 ((toNat32 x).1 q)) (ev_pos (by omega) (ev_pos (by omega) (Ev.step (fun k => spec_lnText.j0.eq_2 ..) ?_)))
      by_cases c2 : y = 32
      · refine ev_pos (by rw [beq_iff_eq]; exact (toNat32 y).2 c2) (ev_now ?_)
        unfold textOk
        have q1 : decide (y ≠ 32) = false := decide_eq_false (fun z => z c2)
        rw [hfull, hend, q1]; simp
      · refine ev_neg (by rw [beq_iff_eq]; exact fun q => c2 ((toNat32 y).1 q)) ?_
        refine ev_val (lnText_l l hl l 0 false rfl (fun _ => ⟨rfl, fun a b hab => by rw [hx] at hab; injection hab with q _; rw [← q]; exact c1⟩) (fun _ _ z => by omega)) ?_
        unfold textOk
        have hdd : dblP 32 true l = dblP 32 false l := by rw [hx, dblP, dblP, if_neg c1, if_neg c1]
        have q1 : decide (y ≠ 32) = true := decide_eq_true c2
        rw [decide_eq_true e, Bool.true_and, hfull, hend, hdd, q1, Bool.and_true]
  · have e : ¬ (1 ≤ l.length ∧ l.length ≤ 200) := by omega
    refine ev_neg (by rw [decide_eq_false h]; simp) (Ev.step (fun k => spec_lnText.j0.eq_2 ..) (ev_pos rfl (ev_now ?_)))
    unfold textOk
    rw [decide_eq_false e, Bool.false_and]
theorem isText_end (l : List UInt8) (hl : l.length ≤ 1048576) : Ev (fun _ => (impl_within.f ((mkB l).size : Int) 1 200).bind fun t105 => (if t105 = true then ((strings_Split.f (mkB l) (⟨#[32]⟩ : ByteArray)).bind fun t106 => ((slices_Contains_string_string.f t106 (⟨#[]⟩ : ByteArray)).bind fun t109 => (some (!t109)))) else (some false))) (decide (1 ≤ l.length ∧ l.length ≤ 200) && fullP 32 true l) := by
  rw [mkB_size]
  refine ev_some (within_eq ..) ?_
  by_cases h : 1 ≤ (l.length : Int) ∧ (l.length : Int) ≤ 200
  · have e : (1 ≤ l.length ∧ l.length ≤ 200) := by omega
    refine ev_pos (decide_eq_true h) (ev_some (split_eq 32 l (by omega)) (ev_some rfl (ev_now ?_)))
    rw [decide_eq_true e, Bool.true_and]
    have hc : Lib.containsS ((parts 32 l).map mkB) (⟨#[]⟩ : ByteArray) = decide ([] ∈ parts 32 l) := by
      rw [Bool.eq_iff_iff, Lib.containsS_iff, decide_eq_true_eq]
      have e0 : (⟨#[]⟩ : ByteArray) = mkB [] := rfl
      rw [e0]
      constructor
      · intro hm
        obtain ⟨q, hq, hqe⟩ := List.mem_map.1 hm
        rw [← mkB_inj hqe]; exact hq
      · intro hm
        exact List.mem_map.2 ⟨[], hm, rfl⟩
    rw [hc]
    have := (fullP_iff 32 l).1
    rw [Bool.eq_iff_iff, this]
    simp
  · have e : ¬ (1 ≤ l.length ∧ l.length ≤ 200) := by omega
    refine ev_neg (by rw [decide_eq_false h]; simp) (ev_now ?_)
    rw [decide_eq_false e, Bool.false_and]
theorem isText_l (l : List UInt8) (hl : l.length ≤ 1048576) : ∀ (ys : List UInt8) (i : Nat), l.drop i = ys →
    Ev (fun k => impl_isText.l0 k (mkB l) (l.length : Int) (i : Int)) (decide (1 ≤ l.length ∧ l.length ≤ 200) && (ys.all plainB && fullP 32 true l)) := by
  intro ys
  induction ys with
  | nil =>
    intro i h
    have := List.drop_eq_nil_iff.1 h
    refine Ev.step (fun k => impl_isText.l0.eq_2 ..) ?_
    exact ev_neg (by omega) (ev_val (isText_end l hl) (by simp))
  | cons y ys ih =>
    intro i h
    obtain ⟨g1, g2⟩ := drop_step h
    refine Ev.step (fun k => impl_isText.l0.eq_2 ..) ?_
    rw [bt_mkB h, w64 (x := (i : Int) + 1) (by omega) (by omega)]
    refine ev_pos (by omega) (ev_pos (by omega) (ev_pos (by rw [mkB_size]; omega) ?_))
    by_cases c1 : (y.toNat : Int) < 32
    · exact ev_pos c1 (ev_now (by rw [List.all_cons, plain_not1 c1]; simp))
    by_cases c2 : (y.toNat : Int) > 126
    · exact ev_neg c1 (ev_pos c2 (ev_now (by rw [List.all_cons, plain_not2 c2]; simp)))
    have := ih (i + 1) g2
    rw [show ((i + 1 : Nat) : Int) = (i : Int) + 1 from by omega] at this
    exact ev_neg c1 (ev_neg c2 (ev_val this (by rw [List.all_cons, plain_lt c1 c2, Bool.true_and])))
theorem isText_ev (l : List UInt8) (hl : l.length ≤ 1048576) : Ev (fun k => impl_isText.f k (mkB l)) (textOk l) := by
  unfold impl_isText.f textOk
  rw [mkB_size]
  exact isText_l l hl l 0 rfl

theorem l1Split_l (c : UInt8) (l : List UInt8) (hl : l.length ≤ 1048576) : ∀ (ys : List UInt8) (i frm : Nat) (acc : List ByteArray), l.drop i = ys → i ≤ l.length → frm ≤ i → acc.length + ys.length ≤ 1048576 →
    Ev (fun k => spec_l1Split.l0 k (mkB l) (c.toNat : Int) acc (frm : Int) (i : Int)) (acc ++ (glue ((l.take i).drop frm) (parts c ys)).map mkB) := by
  intro ys
  induction ys with
  | nil =>
    intro i frm acc h hi hf ha
    have := List.drop_eq_nil_iff.1 h
    refine Ev.step (fun k => spec_l1Split.l0.eq_2 ..) ?_
    rw [mkB_size, Int.toNat_natCast]
    have e0 : (mkB l).extract frm l.length = mkB (l.drop frm) := by have := mkB_drop l frm; rw [mkB_size] at this; exact this
    rw [e0]
    refine ev_neg (by omega) (ev_pos (by omega) (ev_pos (by omega) (ev_pos (by simp only [List.length_nil] at ha; omega) (ev_now ?_))))
    rw [parts, glue, List.take_of_length_le (by omega)]
    simp
  | cons y ys ih =>
    intro i frm acc h hi hf ha
    obtain ⟨g1, g2⟩ := drop_step h
    simp only [List.length_cons] at ha
    refine Ev.step (fun k => spec_l1Split.l0.eq_2 ..) ?_
    rw [bt_mkB h, mkB_size, w64 (x := (i : Int) + 1) (by omega) (by omega), Int.toNat_natCast, Int.toNat_natCast, mkB_slice, show (i : Int) + 1 = ((i + 1 : Nat) : Int) from by omega]
    refine ev_pos (by omega) (ev_pos (by omega) ?_)
    have htk : (l.take (i + 1)).drop frm = (l.take i).drop frm ++ [y] := by
      have e : l.take (i + 1) = l.take i ++ [y] := by
        rw [List.take_add_one]
        have : l[i]? = some y := by rw [List.getElem?_eq_getElem g1]; have := List.drop_eq_getElem_cons g1; rw [h] at this; injection this with a _; rw [a]
        rw [this]; rfl
      rw [e, List.drop_append_of_le_length (by rw [List.length_take]; omega)]
    by_cases e : y = c
    · subst e
      refine ev_pos rfl (ev_pos (by omega) (ev_pos (by omega) (ev_pos (by omega) (ev_pos (by omega) ?_))))
      refine ev_val (ih (i + 1) (i + 1) _ g2 (by omega) (Nat.le_refl _) (by simp only [List.length_append, List.length_cons, List.length_nil]; omega)) ?_
      have e3 : (l.take (i + 1)).drop (i + 1) = [] := List.drop_of_length_le (by rw [List.length_take]; omega)
      rw [e3, glue_nil _ (parts_ne _ _), parts, if_pos rfl]
      simp only [glue, List.append_nil, List.map_cons, List.append_assoc, List.cons_append, List.nil_append]
    · have hne : ¬ ((y.toNat : Int) = (c.toNat : Int)) := fun q => e (UInt8.toNat_inj.1 (by omega))
      refine ev_neg hne (ev_val (ih (i + 1) frm acc g2 (by omega) (by omega) (by omega)) ?_)
      rw [htk, glue_head, parts, if_neg e]
theorem l1Split_ev (c : UInt8) (l : List UInt8) (hl : l.length ≤ 1048575) : Ev (fun k => spec_l1Split.f k (mkB l) (c.toNat : Int)) ((parts c l).map mkB) := by
  unfold spec_l1Split.f
  refine ev_val (l1Split_l c l (by omega) l 0 0 [] rfl (by omega) (Nat.le_refl _) (by simp only [List.length_nil]; omega)) ?_
  rw [List.take_zero, List.drop_nil, glue_nil _ (parts_ne _ _), List.nil_append]

def wordsB (xs : List Int) : Bool := decide (1 ≤ (xs.length : Int) ∧ (xs.length : Int) ≤ 30) && decide (∀ n ∈ xs, 1 ≤ n ∧ n ≤ 80)
theorem wordsB_true {xs : List Int} (h : wordsB xs = true) : (1 ≤ (xs.length : Int) ∧ (xs.length : Int) ≤ 30) ∧ ∀ n ∈ xs, 1 ≤ n ∧ n ≤ 80 := by simpa [wordsB] using h
/-- What a line of words needs. -/
def needL (xs : List Int) : Int := xs.sum + xs.length - 1
theorem sum_bd : ∀ (xs : List Int), (∀ n ∈ xs, 1 ≤ n ∧ n ≤ 80) → (xs.length : Int) ≤ xs.sum ∧ xs.sum ≤ 80 * xs.length
  | [], _ => by simp
  | x :: xs, h => by
    have h1 := h x List.mem_cons_self
    have ih := sum_bd xs (fun n hn => h n (List.mem_cons_of_mem _ hn))
    rw [List.sum_cons, List.length_cons]; omega

theorem l1All_l (lo hi : Int) (xs : List Int) (hn : xs.length < 4611686018427387904) : ∀ (ys : List Int) (i : Int), 0 ≤ i → xs.drop i.toNat = ys →
    Ev (fun k => spec_l1All.l0 k lo hi xs (xs.length : Int) i) (decide (∀ n ∈ ys, lo ≤ n ∧ n ≤ hi)) := by
  intro ys
  induction ys with
  | nil =>
    intro i h0 h
    have := drop_nil h0 h
    refine Ev.step (fun k => spec_l1All.l0.eq_2 ..) ?_
    exact ev_neg (by omega) (ev_now (by simp))
  | cons y ys ih =>
    intro i h0 h
    obtain ⟨h1, h2, h3, _⟩ := drop_cons h0 h
    refine Ev.step (fun k => spec_l1All.l0.eq_2 ..) ?_
    refine ev_pos h1 (ev_pos h0 (ev_pos h1 ?_))
    rw [h2, w64 (by omega) (by omega)]
    refine ev_some (l1In_eq ..) ?_
    by_cases hy : lo ≤ y ∧ y ≤ hi
    · exact ev_pos (by simpa using hy) (ev_val (ih _ (by omega) h3) (by simp [hy]))
    · exact ev_neg (by simpa using hy) (ev_now (by simp [hy]))
theorem l1All_ev (xs : List Int) (lo hi : Int) (hn : xs.length < 4611686018427387904) :
    Ev (fun k => spec_l1All.f k xs lo hi) (decide (∀ n ∈ xs, lo ≤ n ∧ n ≤ hi)) := l1All_l lo hi xs hn xs 0 (by omega) rfl

theorem allWithin_l (lo hi : Int) (xs : List Int) (hn : xs.length < 4611686018427387904) : ∀ (ys : List Int) (i : Int), 0 ≤ i → xs.drop i.toNat = ys →
    Ev (fun k => impl_allWithin.l0 k lo hi xs (xs.length : Int) i) (decide (∀ n ∈ ys, lo ≤ n ∧ n ≤ hi)) := by
  intro ys
  induction ys with
  | nil =>
    intro i h0 h
    have := drop_nil h0 h
    refine Ev.step (fun k => impl_allWithin.l0.eq_2 ..) ?_
    exact ev_neg (by omega) (ev_now (by simp))
  | cons y ys ih =>
    intro i h0 h
    obtain ⟨h1, h2, h3, _⟩ := drop_cons h0 h
    refine Ev.step (fun k => impl_allWithin.l0.eq_2 ..) ?_
    refine ev_pos h1 (ev_pos h0 (ev_pos h1 ?_))
    rw [h2, w64 (by omega) (by omega)]
    refine ev_some (within_eq ..) ?_
    by_cases hy : lo ≤ y ∧ y ≤ hi
    · exact ev_pos (by simpa using hy) (ev_val (ih _ (by omega) h3) (by simp [hy]))
    · exact ev_neg (by simpa using hy) (ev_now (by simp [hy]))
theorem allWithin_ev (xs : List Int) (lo hi : Int) (hn : xs.length < 4611686018427387904) :
    Ev (fun k => impl_allWithin.f k xs lo hi) (decide (∀ n ∈ xs, lo ≤ n ∧ n ≤ hi)) := allWithin_l lo hi xs hn xs 0 (by omega) rfl

theorem lnGood_ev (xs : List Int) (hn : xs.length < 4611686018427387904) : Ev (fun k => spec_lnGood.f k xs) (wordsB xs) := by
  unfold spec_lnGood.f wordsB
  refine ev_some (l1In_eq ..) ?_
  by_cases h : 1 ≤ (xs.length : Int) ∧ (xs.length : Int) ≤ 30
  · refine ev_pos (by simpa using h) (Ev.bind (l1All_ev xs 1 80 hn) (ev_now (by simp [h])))
  · exact ev_neg (by simpa using h) (ev_now (by simp [h]))
theorem AreWords_ev (xs : List Int) (hn : xs.length < 4611686018427387904) : Ev (fun k => impl_AreWords.f k xs) (wordsB xs) := by
  unfold impl_AreWords.f wordsB
  refine ev_some (within_eq ..) ?_
  by_cases h : 1 ≤ (xs.length : Int) ∧ (xs.length : Int) ≤ 30
  · refine ev_pos (by simpa using h) (Ev.bind (allWithin_ev xs 1 80 hn) (ev_now (by simp [h])))
  · exact ev_neg (by simpa using h) (ev_now (by simp [h]))

def szL (xs : List ByteArray) : List Int := xs.map fun s => (s.size : Int)
def lensT (l : List UInt8) : List Int := (parts 32 l).map fun p => (p.length : Int)
theorem szL_parts (l : List UInt8) : szL ((parts 32 l).map mkB) = lensT l := by
  unfold szL lensT
  rw [List.map_map]
  apply List.map_congr_left
  intro p _
  exact congrArg (fun n : Nat => (n : Int)) (mkB_size p)
theorem lensT_length (l : List UInt8) : (lensT l).length = (parts 32 l).length := by simp [lensT]
theorem rdOf_drop {xs : List ByteArray} {i : Int} {y : ByteArray} {ys : List ByteArray} (h0 : 0 ≤ i) (h : xs.drop i.toNat = y :: ys) : rdOf ByteArray.empty xs i = y := by
  obtain ⟨_, h2, _, _⟩ := drop_get h0 h
  exact h2 _
theorem lnLengths_l (xs : List ByteArray) (hn : xs.length ≤ 1048576) : ∀ (ys : List ByteArray) (i : Int), 0 ≤ i → xs.drop i.toNat = ys →
    Ev (fun k => spec_lnLengths.l0 k (szL (xs.take i.toNat)) xs (xs.length : Int) i) (szL xs) := by
  intro ys
  induction ys with
  | nil =>
    intro i h0 h
    have := drop_nil h0 h
    refine Ev.step (fun k => spec_lnLengths.l0.eq_2 ..) ?_
    exact ev_neg (by omega) (ev_now (by rw [List.take_of_length_le (by omega)]))
  | cons y ys ih =>
    intro i h0 h
    obtain ⟨h1, _, h3, h4⟩ := drop_get h0 h
    refine Ev.step (fun k => spec_lnLengths.l0.eq_2 ..) ?_
    rw [rdOf_drop h0 h, w64 (x := i + 1) (by omega) (by omega)]
    refine ev_pos h1 (ev_pos h0 (ev_pos h1 (ev_pos (by unfold szL; rw [List.length_map, List.length_take]; omega) ?_)))
    have := ih (i + 1) (by omega) h3
    rw [h4] at this
    unfold szL at this ⊢
    rw [List.map_append] at this
    exact this
theorem lnLengths_ev (xs : List ByteArray) (hn : xs.length ≤ 1048576) : Ev (fun k => spec_lnLengths.f k xs) (szL xs) := by
  unfold spec_lnLengths.f
  exact lnLengths_l xs hn xs 0 (by omega) rfl
theorem lnParts_ev (l : List UInt8) (hl : l.length ≤ 1048575) : Ev (fun k => spec_lnParts.f k (mkB l)) ((parts 32 l).map mkB) := by
  unfold spec_lnParts.f
  exact Ev.bind (l1Split_ev 32 l hl) (ev_now rfl)
def wordsM (l : List UInt8) : List Int × Bool := if textOk l = true then (if wordsB (lensT l) = true then (lensT l, true) else ([], false)) else ([], false)
theorem implWords_l (xs : List ByteArray) (hn : xs.length ≤ 1048576) : ∀ (ys : List ByteArray) (i : Int), 0 ≤ i → xs.drop i.toNat = ys →
    Ev (fun k => impl_WordsOfText.l0 k (szL (xs.take i.toNat)) xs (xs.length : Int) i) (if wordsB (szL xs) = true then (szL xs, true) else ([], false)) := by
  intro ys
  induction ys with
  | nil =>
    intro i h0 h
    have := drop_nil h0 h
    refine Ev.step (fun k => impl_WordsOfText.l0.eq_2 ..) ?_
    rw [List.take_of_length_le (by omega)]
    refine ev_neg (by omega) (Ev.bind (AreWords_ev (szL xs) (by unfold szL; rw [List.length_map]; omega)) ?_)
    by_cases c : wordsB (szL xs) = true
    · exact ev_pos c (ev_now (by rw [if_pos c]))
    · exact ev_neg c (ev_now (by rw [if_neg c]))
  | cons y ys ih =>
    intro i h0 h
    obtain ⟨h1, _, h3, h4⟩ := drop_get h0 h
    refine Ev.step (fun k => impl_WordsOfText.l0.eq_2 ..) ?_
    rw [rdOf_drop h0 h, w64 (x := i + 1) (by omega) (by omega)]
    refine ev_pos h1 (ev_pos h0 (ev_pos h1 (ev_pos (by unfold szL; rw [List.length_map, List.length_take]; omega) ?_)))
    have := ih (i + 1) (by omega) h3
    rw [h4] at this
    unfold szL at this ⊢
    rw [List.map_append] at this
    exact this
theorem parts_small (l : List UInt8) (h : l.length ≤ 1048575) : ((parts 32 l).map mkB).length ≤ 1048576 := by
  have := parts_length 32 l
  rw [List.length_map]; omega
theorem implWords_ev (l : List UInt8) (hl : l.length ≤ 1048576) : Ev (fun k => impl_WordsOfText.f k (mkB l)) (wordsM l) := by
  unfold impl_WordsOfText.f wordsM
  refine Ev.bind (isText_ev l hl) ?_
  by_cases h : textOk l = true
  · have ht := textOk_true h
    refine ev_pos h (ev_some (split_eq 32 l (by omega)) ?_)
    rw [if_pos h]
    have := implWords_l ((parts 32 l).map mkB) (parts_small l (by omega)) _ 0 (by omega) rfl
    rw [szL_parts] at this
    exact this
  · exact ev_neg h (ev_now (by rw [if_neg h]))

def settingB (l : List Int) (wide : Int) : Bool := wordsB l && (decide (1 ≤ wide ∧ wide ≤ 80) && decide (∀ n ∈ l, n ≤ wide))
theorem settingB_true {l : List Int} {wide : Int} (h : settingB l wide = true) : wordsB l = true ∧ (1 ≤ wide ∧ wide ≤ 80) ∧ ∀ n ∈ l, n ≤ wide := by simpa [settingB] using h

theorem foldMax_le (w : Int) : ∀ (zs : List Int) (a : Int), zs.foldl max a ≤ w ↔ a ≤ w ∧ ∀ n ∈ zs, n ≤ w
  | [], a => by simp
  | z :: zs, a => by
    rw [List.foldl_cons, foldMax_le w zs (max a z)]
    simp only [List.mem_cons, forall_eq_or_imp]
    constructor
    · intro h; exact ⟨by omega, by omega, h.2⟩
    · intro h; exact ⟨by omega, h.2.2⟩
theorem maxOf_le (w : Int) (zs : List Int) (h : 0 < zs.length) : Lib.maxOf zs ≤ w ↔ ∀ n ∈ zs, n ≤ w := by
  unfold Lib.maxOf
  rw [foldMax_le]
  rcases zs with _ | ⟨z, zs⟩
  · simp at h
  · simp only [List.headD_cons, List.mem_cons, forall_eq_or_imp]
    constructor
    · intro q; exact ⟨q.1, q.2.2⟩
    · intro q; exact ⟨q.1, q.1, q.2⟩
theorem isSetting_ev (xs : List Int) (wide : Int) (hn : xs.length < 4611686018427387904) : Ev (fun k => impl_isSetting.f k xs wide) (settingB xs wide) := by
  unfold impl_isSetting.f settingB
  refine Ev.bind (AreWords_ev xs hn) ?_
  by_cases h : wordsB xs = true
  · have hw := (wordsB_true h).1
    refine ev_pos h (ev_some (within_eq ..) ?_)
    rw [h, Bool.true_and]
    by_cases h2 : 1 ≤ wide ∧ wide ≤ 80
    · refine ev_pos (decide_eq_true h2) (ev_some (show slices_Max_int_int.f xs = some (Lib.maxOf xs) from by unfold slices_Max_int_int.f; rw [if_pos (by omega)]) (ev_now ?_))
      rw [decide_eq_true h2, Bool.true_and]
      exact decide_eq_decide.2 (maxOf_le wide xs (by omega))
    · exact ev_neg (by rw [decide_eq_false h2]; simp) (ev_now (by rw [decide_eq_false h2]; simp))
  · exact ev_neg h (ev_now (by rw [Bool.eq_false_iff.mpr h]; rfl))

theorem lnGood_evF (xs : List Int) (hn : xs.length < 4611686018427387904) : Ev (fun k => spec_lnGood.f k xs) (wordsB xs) := by
  unfold spec_lnGood.f wordsB
  refine ev_some (l1In_eq ..) ?_
  by_cases h : 1 ≤ (xs.length : Int) ∧ (xs.length : Int) ≤ 30
  · refine ev_pos (by simpa using h) (Ev.bind (l1All_ev xs 1 80 hn) (ev_now (by simp [h])))
  · exact ev_neg (by simpa using h) (ev_now (by simp [h]))
theorem lnWide_eq (w : Int) : spec_lnWide.f w = some (decide (1 ≤ w ∧ w ≤ 80)) := by
  unfold spec_lnWide.f
  rw [l1In_eq]; rfl
theorem lnFits_ev (xs : List Int) (wide : Int) (hn : xs.length < 4611686018427387904) : Ev (fun k => spec_lnFits.f k xs wide) (settingB xs wide) := by
  unfold spec_lnFits.f settingB
  refine Ev.bind (lnGood_evF xs hn) ?_
  by_cases h : wordsB xs = true
  · refine ev_pos h (ev_some (lnWide_eq wide) ?_)
    have hw := (wordsB_true h).2
    by_cases h2 : 1 ≤ wide ∧ wide ≤ 80
    · refine ev_pos (decide_eq_true h2) (Ev.bind (l1All_ev xs 1 wide hn) (ev_now ?_))
      rw [h, decide_eq_true h2]
      simp only [Bool.true_and]
      exact decide_eq_decide.2 ⟨fun hh n hm => (hh n hm).2, fun hh n hm => ⟨(hw n hm).1, hh n hm⟩⟩
    · exact ev_neg (by rw [decide_eq_false h2]; simp) (ev_now (by rw [decide_eq_false h2]; simp))
  · exact ev_neg h (ev_now (by rw [Bool.eq_false_iff.mpr h]; rfl))

def fillK (wide : Int) (ws : List Int) : Nat → Nat → Nat
  | 0, k => k
  | f + 1, k => if needL (ws.take (k + 1)) ≤ wide then fillK wide ws f (k + 1) else k
theorem fillK_ge (wide : Int) (ws : List Int) : ∀ (f k : Nat), k ≤ fillK wide ws f k ∧ fillK wide ws f k ≤ k + f
  | 0, k => by simp [fillK]
  | f + 1, k => by
    rw [fillK]
    split
    · have := fillK_ge wide ws f (k + 1); omega
    · omega
def fillL (wide : Int) : Nat → List Int → List Int
  | 0, _ => []
  | _ + 1, [] => []
  | f + 1, w :: ws => (fillK wide (w :: ws) ws.length 1 : Int) :: fillL wide f ((w :: ws).drop (fillK wide (w :: ws) ws.length 1))
theorem fillL_length (wide : Int) : ∀ (f : Nat) (ws : List Int), (fillL wide f ws).length ≤ f
  | 0, _ => by simp [fillL]
  | f + 1, [] => by simp [fillL]
  | f + 1, w :: ws => by
    have := fillL_length wide f ((w :: ws).drop (fillK wide (w :: ws) ws.length 1))
    simp only [fillL, List.length_cons]; omega
def fillM (wide : Int) (ws : List Int) : List Int := fillL wide ws.length ws

theorem total_lw (xs : List Int) (hn : xs.length ≤ 1000) (hin : ∀ n ∈ xs, 1 ≤ n ∧ n ≤ 80) : ∀ (ys : List Int) (i s : Int), 0 ≤ i → xs.drop i.toNat = ys → 0 ≤ s → s + 80 * ys.length ≤ 1000000 →
    Ev (fun k => impl_total.l0 k s xs (xs.length : Int) i) (s + ys.sum) := by
  intro ys
  induction ys with
  | nil =>
    intro i s h0 h _ _
    have := drop_nil h0 h
    refine Ev.step (fun k => impl_total.l0.eq_2 ..) ?_
    exact ev_neg (by omega) (ev_now (by simp))
  | cons y ys ih =>
    intro i s h0 h hs hb
    obtain ⟨h1, h2, h3, _⟩ := drop_cons h0 h
    have hy := hin y (List.mem_of_mem_drop (by rw [h]; exact List.mem_cons_self))
    simp only [List.length_cons] at hb
    refine Ev.step (fun k => impl_total.l0.eq_2 ..) ?_
    refine ev_pos h1 (ev_pos h0 (ev_pos h1 ?_))
    rw [h2, w64 (x := i + 1) (by omega) (by omega), w64 (by omega) (by omega)]
    exact ev_val (ih (i + 1) (s + y) (by omega) h3 (by omega) (by omega)) (by rw [List.sum_cons]; omega)
theorem totalW_ev (xs : List Int) (hn : xs.length ≤ 1000) (hin : ∀ n ∈ xs, 1 ≤ n ∧ n ≤ 80) : Ev (fun k => impl_total.f k xs) xs.sum :=
  ev_val (total_lw xs hn hin xs 0 0 (by omega) rfl (by omega) (by omega)) (by omega)
theorem needs_ev (xs : List Int) (hn : xs.length ≤ 1000) (hin : ∀ n ∈ xs, 1 ≤ n ∧ n ≤ 80) : Ev (fun k => impl_needs.f k xs) (needL xs) := by
  have hs := sum_bd xs hin
  unfold impl_needs.f needL
  refine Ev.bind (totalW_ev xs hn hin) (ev_now ?_)
  rw [w64 (x := xs.sum + (xs.length : Int)) (by omega) (by omega), w64 (by omega) (by omega)]

theorem filled_l1 (wide : Int) (ws : List Int) (hw : ws.length ≤ 30) (hin : ∀ n ∈ ws, 1 ≤ n ∧ n ≤ 80) (out : List Int) (ho : out.length ≤ 1000) (r : List Int) : ∀ (m x : Nat), 1 ≤ x → x + m = ws.length →
    Ev (fun k => impl_filled.l0 k (ws.drop (fillK wide ws m x)) wide (out ++ [(fillK wide ws m x : Int)])) r → Ev (fun k => impl_filled.l1 k ws wide out (x : Int)) r := by
  intro m
  induction m with
  | zero =>
    intro x hx hm hr
    simp only [fillK] at hr
    refine Ev.step (fun k => impl_filled.l1.eq_2 ..) ?_
    refine ev_neg (by omega) (ev_pos (by omega) (ev_pos (by omega) (ev_pos (by omega) ?_)))
    rw [Int.toNat_natCast]
    exact hr
  | succ m ih =>
    intro x hx hm hr
    have e1 : ((x : Int) + 1).toNat = x + 1 := by omega
    refine Ev.step (fun k => impl_filled.l1.eq_2 ..) ?_
    rw [w64 (x := (x : Int) + 1) (by omega) (by omega), e1]
    refine ev_pos (by omega) (ev_pos (by omega) (ev_pos (by omega) (Ev.bind (needs_ev (ws.take (x + 1)) (by rw [List.length_take]; omega) (fun n hn => hin n (List.mem_of_mem_take hn))) ?_)))
    rw [fillK] at hr
    by_cases h : needL (ws.take (x + 1)) ≤ wide
    · rw [if_pos h] at hr
      refine ev_pos h ?_
      have e2 : (x : Int) + 1 = ((x + 1 : Nat) : Int) := by omega
      rw [e2]
      exact ih (x + 1) (by omega) (by omega) hr
    · rw [if_neg h] at hr
      refine ev_neg h (ev_pos (by omega) (ev_pos (by omega) (ev_pos (by omega) ?_)))
      rw [Int.toNat_natCast]
      exact hr
theorem filled_l0 (wide : Int) : ∀ (f : Nat) (ws out : List Int), ws.length ≤ f → ws.length ≤ 30 → (∀ n ∈ ws, 1 ≤ n ∧ n ≤ 80) → out.length + f ≤ 1000 →
    Ev (fun k => impl_filled.l0 k ws wide out) (out ++ fillL wide f ws) := by
  intro f
  induction f with
  | zero =>
    intro ws out hf hw hin ho
    refine Ev.step (fun k => impl_filled.l0.eq_2 ..) ?_
    exact ev_neg (by omega) (ev_now (by simp [fillL]))
  | succ f ih =>
    intro ws out hf hw hin ho
    rcases ws with _ | ⟨w, ws⟩
    · refine Ev.step (fun k => impl_filled.l0.eq_2 ..) ?_
      exact ev_neg (by simp) (ev_now (by simp [fillL]))
    · refine Ev.step (fun k => impl_filled.l0.eq_2 ..) ?_
      have hk := fillK_ge wide (w :: ws) ws.length 1
      simp only [List.length_cons] at hf hw
      refine ev_pos (by simp only [List.length_cons]; omega) (filled_l1 wide (w :: ws) (by simp; omega) hin out (by omega) _ ws.length 1 (by omega) (by simp only [List.length_cons]; omega) ?_)
      refine ev_val (ih _ (out ++ [(fillK wide (w :: ws) ws.length 1 : Int)]) ?_ ?_ (fun n hn => hin n (List.mem_of_mem_drop hn)) (by simp; omega)) (by simp [fillL])
      · rw [List.length_drop, List.length_cons]; omega
      · rw [List.length_drop, List.length_cons]; omega
theorem filled_ev (wide : Int) (ws : List Int) (hw : ws.length ≤ 30) (hin : ∀ n ∈ ws, 1 ≤ n ∧ n ≤ 80) : Ev (fun k => impl_filled.f k ws wide) (fillM wide ws) :=
  filled_l0 wide ws.length ws [] (Nat.le_refl _) hw hin (by simp; omega)

theorem lnNeed_l (xs : List Int) (hn : xs.length ≤ 1000) (hin : ∀ n ∈ xs, 1 ≤ n ∧ n ≤ 80) : ∀ (ys : List Int) (i s : Int), 0 ≤ i → xs.drop i.toNat = ys → -1 ≤ s → s + 80 * ys.length ≤ 1000000 →
    Ev (fun k => spec_lnNeed.l0 k s xs (xs.length : Int) i) (s + ys.sum) := by
  intro ys
  induction ys with
  | nil =>
    intro i s h0 h _ _
    have := drop_nil h0 h
    refine Ev.step (fun k => spec_lnNeed.l0.eq_2 ..) ?_
    exact ev_neg (by omega) (ev_now (by simp))
  | cons y ys ih =>
    intro i s h0 h hs hb
    obtain ⟨h1, h2, h3, _⟩ := drop_cons h0 h
    have hy := hin y (List.mem_of_mem_drop (by rw [h]; exact List.mem_cons_self))
    simp only [List.length_cons] at hb
    refine Ev.step (fun k => spec_lnNeed.l0.eq_2 ..) ?_
    refine ev_pos h1 (ev_pos h0 (ev_pos h1 ?_))
    rw [h2, w64 (x := i + 1) (by omega) (by omega), w64 (by omega) (by omega)]
    exact ev_val (ih (i + 1) (s + y) (by omega) h3 (by omega) (by omega)) (by rw [List.sum_cons]; omega)
theorem lnNeed_ev (xs : List Int) (hn : xs.length ≤ 1000) (hin : ∀ n ∈ xs, 1 ≤ n ∧ n ≤ 80) : Ev (fun k => spec_lnNeed.f k xs) (needL xs) := by
  unfold spec_lnNeed.f needL
  rw [w64 (by omega) (by omega)]
  exact ev_val (lnNeed_l xs hn hin xs 0 ((xs.length : Int) - 1) (by omega) rfl (by omega) (by omega)) (by omega)

theorem lnFill_l1 (wide : Int) (ws : List Int) (hw : ws.length ≤ 30) (hin : ∀ n ∈ ws, 1 ≤ n ∧ n ≤ 80) (out : List Int) (ho : out.length ≤ 1000) (r : List Int) : ∀ (m x : Nat), 1 ≤ x → x + m = ws.length →
    Ev (fun k => spec_lnFill.l0 k (ws.drop (fillK wide ws m x)) wide (out ++ [(fillK wide ws m x : Int)])) r → Ev (fun k => spec_lnFill.l1 k ws wide out (x : Int)) r := by
  intro m
  induction m with
  | zero =>
    intro x hx hm hr
    simp only [fillK] at hr
    refine Ev.step (fun k => spec_lnFill.l1.eq_2 ..) ?_
    refine ev_neg (by omega) (ev_pos (by omega) (ev_pos (by omega) (ev_pos (by omega) ?_)))
    rw [Int.toNat_natCast]
    exact hr
  | succ m ih =>
    intro x hx hm hr
    have e1 : ((x : Int) + 1).toNat = x + 1 := by omega
    refine Ev.step (fun k => spec_lnFill.l1.eq_2 ..) ?_
    rw [w64 (x := (x : Int) + 1) (by omega) (by omega), e1]
    refine ev_pos (by omega) (ev_pos (by omega) (ev_pos (by omega) (Ev.bind (lnNeed_ev (ws.take (x + 1)) (by rw [List.length_take]; omega) (fun n hn => hin n (List.mem_of_mem_take hn))) ?_)))
    rw [fillK] at hr
    by_cases h : needL (ws.take (x + 1)) ≤ wide
    · rw [if_pos h] at hr
      refine ev_pos h ?_
      have e2 : (x : Int) + 1 = ((x + 1 : Nat) : Int) := by omega
      rw [e2]
      exact ih (x + 1) (by omega) (by omega) hr
    · rw [if_neg h] at hr
      refine ev_neg h (ev_pos (by omega) (ev_pos (by omega) (ev_pos (by omega) ?_)))
      rw [Int.toNat_natCast]
      exact hr
theorem lnFill_l0 (wide : Int) : ∀ (f : Nat) (ws out : List Int), ws.length ≤ f → ws.length ≤ 30 → (∀ n ∈ ws, 1 ≤ n ∧ n ≤ 80) → out.length + f ≤ 1000 →
    Ev (fun k => spec_lnFill.l0 k ws wide out) (out ++ fillL wide f ws) := by
  intro f
  induction f with
  | zero =>
    intro ws out hf hw hin ho
    refine Ev.step (fun k => spec_lnFill.l0.eq_2 ..) ?_
    exact ev_neg (by omega) (ev_now (by simp [fillL]))
  | succ f ih =>
    intro ws out hf hw hin ho
    rcases ws with _ | ⟨w, ws⟩
    · refine Ev.step (fun k => spec_lnFill.l0.eq_2 ..) ?_
      exact ev_neg (by simp) (ev_now (by simp [fillL]))
    · refine Ev.step (fun k => spec_lnFill.l0.eq_2 ..) ?_
      have hk := fillK_ge wide (w :: ws) ws.length 1
      simp only [List.length_cons] at hf hw
      refine ev_pos (by simp only [List.length_cons]; omega) (lnFill_l1 wide (w :: ws) (by simp; omega) hin out (by omega) _ ws.length 1 (by omega) (by simp only [List.length_cons]; omega) ?_)
      refine ev_val (ih _ (out ++ [(fillK wide (w :: ws) ws.length 1 : Int)]) ?_ ?_ (fun n hn => hin n (List.mem_of_mem_drop hn)) (by simp; omega)) (by simp [fillL])
      · rw [List.length_drop, List.length_cons]; omega
      · rw [List.length_drop, List.length_cons]; omega
theorem lnFill_ev (wide : Int) (ws : List Int) (hw : ws.length ≤ 30) (hin : ∀ n ∈ ws, 1 ≤ n ∧ n ≤ 80) : Ev (fun k => spec_lnFill.f k ws wide) (fillM wide ws) :=
  lnFill_l0 wide ws.length ws [] (Nat.le_refl _) hw hin (by simp; omega)

def validK : List Int → Nat → Prop
  | [], _ => True
  | k :: ks, n => (1 ≤ k ∧ k ≤ (n : Int)) ∧ validK ks (n - k.toNat)
theorem fillL_valid (wide : Int) : ∀ (f : Nat) (ws : List Int), ws.length ≤ f → validK (fillL wide f ws) ws.length
  | 0, ws, h => by
    have : ws = [] := List.eq_nil_of_length_eq_zero (by omega)
    subst this; trivial
  | f + 1, [], _ => trivial
  | f + 1, w :: ws, h => by
    have hk := fillK_ge wide (w :: ws) ws.length 1
    have hr := fillL_valid wide f ((w :: ws).drop (fillK wide (w :: ws) ws.length 1)) (by simp only [List.length_drop, List.length_cons] at h ⊢; omega)
    rw [fillL, validK]
    refine ⟨⟨by omega, by simp only [List.length_cons]; omega⟩, ?_⟩
    rw [List.length_drop] at hr
    rw [Int.toNat_natCast]
    exact hr
def linesJ : List Int → List (List UInt8) → List (List UInt8)
  | [], _ => []
  | k :: ks, ps => Lib.join (ps.take k.toNat) [32] :: linesJ ks (ps.drop k.toNat)
theorem linesJ_length : ∀ (ks : List Int) (ps : List (List UInt8)), (linesJ ks ps).length = ks.length
  | [], _ => rfl
  | k :: ks, ps => by rw [linesJ, List.length_cons, linesJ_length ks, List.length_cons]
theorem joinTail_len (M : Nat) : ∀ (r : List (List UInt8)), (∀ p ∈ r, p.length ≤ M) → (Lib.joinTail [32] r).length ≤ (M + 1) * r.length
  | [], _ => by simp [Lib.joinTail]
  | p :: r, h => by
    have h1 := h p List.mem_cons_self
    have h2 := joinTail_len M r (fun q hq => h q (List.mem_cons_of_mem _ hq))
    have e : Lib.joinTail [32] (p :: r) = ([32] ++ p) ++ Lib.joinTail [32] r := by simp [Lib.joinTail]
    rw [e, List.length_append, List.length_append, List.length_cons (a := p), Nat.mul_succ]
    simp only [List.length_cons, List.length_nil]
    omega
theorem join_len (M : Nat) (ps : List (List UInt8)) (h : ∀ p ∈ ps, p.length ≤ M) : (Lib.join ps [32]).length ≤ (M + 1) * ps.length := by
  rcases ps with _ | ⟨p, ps⟩
  · simp [Lib.join_nil]
  · rw [Lib.join_cons, List.length_append, List.length_cons, Nat.mul_succ]
    have h1 := h p List.mem_cons_self
    have h2 := joinTail_len M ps (fun q hq => h q (List.mem_cons_of_mem _ hq))
    omega

theorem eqStringS_l (xs : List ByteArray) (hn : xs.length < 4611686018427387904) : ∀ (ys : List ByteArray) (i : Int), 0 ≤ i → xs.drop i.toNat = ys →
    Ev (fun k => laws_eqStringS.l0 k xs xs i) true := by
  intro ys
  induction ys with
  | nil =>
    intro i h0 h
    have := drop_nil h0 h
    refine Ev.step (fun k => laws_eqStringS.l0.eq_2 ..) ?_
    exact ev_neg (by omega) (ev_now rfl)
  | cons y ys ih =>
    intro i h0 h
    obtain ⟨h1, _, h3, _⟩ := drop_get h0 h
    refine Ev.step (fun k => laws_eqStringS.l0.eq_2 ..) ?_
    refine ev_pos h1 (ev_pos h0 (ev_pos h1 (ev_pos rfl ?_)))
    rw [w64 (by omega) (by omega)]
    exact ih _ (by omega) h3
theorem eqStringS_ev (xs : List ByteArray) (hn : xs.length < 4611686018427387904) : Ev (fun k => laws_eqStringS.f k xs xs) true := by
  unfold laws_eqStringS.f
  exact ev_pos rfl (eqStringS_l xs hn xs 0 (by omega) rfl)

def digsM (n : Nat) : List UInt8 := if n = 0 then [] else Lib.decDigits n
theorem digsM_len (n : Nat) : (digsM n).length ≤ n + 1 := by
  unfold digsM
  split
  · simp
  · induction n using Nat.strongRecOn with
    | _ n ih =>
      rw [Lib.decDigits]
      split
      · simp
      · rename_i h1 h
        have := ih (n / 10) (by omega) (by omega)
        rw [List.length_append]
        simp only [List.length_cons, List.length_nil]
        omega
theorem digsM_step (n : Nat) (h : n ≠ 0) : digsM n = digsM (n / 10) ++ [UInt8.ofNat (48 + n % 10)] := by
  unfold digsM
  rw [if_neg h, Lib.decDigits]
  by_cases c : n < 10
  · rw [dif_pos c, if_pos (by omega), show n % 10 = n from by omega]; rfl
  · rw [dif_neg c, if_neg (by omega)]
theorem markText_l : ∀ (n : Nat) (acc : List UInt8), acc.length + 2 * n ≤ 1000000000 → Ev (fun k => laws_markText.l0 k (n : Int) (mkB acc)) (mkB (109 :: (digsM n ++ acc))) := by
  intro n
  induction n using Nat.strongRecOn with
  | _ n ih =>
    intro acc ha
    refine Ev.step (fun k => laws_markText.l0.eq_2 ..) ?_
    by_cases h : n = 0
    · subst h
      rw [mkB_size]
      have e109 : (⟨#[109]⟩ : ByteArray) = mkB [109] := rfl
      rw [e109, mkB_append]
      exact ev_neg (by omega) (ev_pos (by omega) (ev_now rfl))
    · have e1 : Int.tdiv (n : Int) 10 = ((n / 10 : Nat) : Int) := by rw [Int.tdiv_eq_ediv_of_nonneg (by omega)]; omega
      have e2 : Int.tmod (n : Int) 10 = ((n % 10 : Nat) : Int) := by rw [Int.tmod_eq_emod_of_nonneg (by omega)]; omega
      rw [e1, e2, w64 (x := ((n / 10 : Nat) : Int)) (by omega) (by omega), w64 (x := 48 + ((n % 10 : Nat) : Int)) (by omega) (by omega)]
      have hs : strOfNums [(48 + ((n % 10 : Nat) : Int)) % 256] = mkB [UInt8.ofNat (48 + n % 10)] := by
        rw [mkB_nums]
        have : UInt8.ofNat ((((48 + n % 10 : Nat) : Int) % 256).toNat) = UInt8.ofNat (48 + n % 10) := by congr 1; omega
        rw [show (((48 + n % 10 : Nat) : Nat) : Int) = 48 + ((n % 10 : Nat) : Int) from by omega] at this
        show mkB [UInt8.ofNat (((48 + ((n % 10 : Nat) : Int)) % 256).toNat)] = _
        rw [this]
      refine ev_pos (by omega) (ev_some rfl ?_)
      rw [hs, mkB_size, mkB_size, mkB_append]
      refine ev_pos (by simp only [List.length_cons, List.length_nil]; omega) ?_
      refine ev_val (ih (n / 10) (by omega) _ (by simp only [List.length_append, List.length_cons, List.length_nil]; omega)) ?_
      rw [digsM_step n h, List.append_assoc]
def markT (n : Nat) : ByteArray := mkB (109 :: (digsM n ++ []))
theorem markText_ev (n : Nat) (h : 1 ≤ n) (h2 : n ≤ 100000000) : Ev (fun k => laws_markText.f k (n : Int)) (markT n) := by
  unfold laws_markText.f
  have e0 : (⟨#[]⟩ : ByteArray) = mkB [] := rfl
  rw [e0]
  exact ev_neg (by omega) (markText_l n [] (by simp only [List.length_nil]; omega))
/-- What a list of texts reads as behind the marking. -/
def marksT (n : Nat) : List ByteArray := (List.range n).map (fun i => markT (1 + i))
theorem marksT_length (n : Nat) : (marksT n).length = n := by simp [marksT]
theorem marksT_succ (n : Nat) : marksT (n + 1) = marksT n ++ [markT (1 + n)] := by simp [marksT, List.range_succ]

theorem markStringS_l (n : Nat) (hn : n ≤ 10000000) : ∀ (ys : List ByteArray) (i : Nat), i + ys.length = n →
    Ev (fun k => laws_markStringS.l0 k (marksT i ++ ys) (1 + (i : Int)) (i : Int)) ((1 : Int) + n, marksT n) := by
  intro ys
  induction ys with
  | nil =>
    intro i h
    refine Ev.step (fun k => laws_markStringS.l0.eq_2 ..) ?_
    simp at h
    subst h
    exact ev_neg (by simp [marksT_length]) (ev_now (by simp))
  | cons y ys ih =>
    intro i h
    simp at h
    refine Ev.step (fun k => laws_markStringS.l0.eq_2 ..) ?_
    have hm := markText_ev (1 + i) (by omega) (by omega)
    rw [show ((1 + i : Nat) : Int) = 1 + (i : Int) from by omega] at hm
    refine ev_pos (by simp [marksT_length]; omega) (Ev.bind hm (ev_pos (by omega) ?_))
    rw [w64 (by omega) (by omega), w64 (by omega) (by omega)]
    have e : (marksT i ++ y :: ys).set (i : Int).toNat (markT (1 + i)) = marksT (i + 1) ++ ys := by
      rw [marksT_succ, Int.toNat_natCast, List.set_append_right _ _ (by rw [marksT_length]; exact Nat.le_refl _), marksT_length, Nat.sub_self, List.set_cons_zero, List.append_assoc]; rfl
    rw [e]
    have h2 := ih (i + 1) (by omega)
    have e2 : (1 : Int) + ((i + 1 : Nat) : Int) = 1 + (i : Int) + 1 := by omega
    have e3 : ((i + 1 : Nat) : Int) = (i : Int) + 1 := by omega
    rw [e2, e3] at h2
    exact h2
theorem markStringS_ev (xs : List ByteArray) (hn : xs.length ≤ 10000000) : Ev (fun k => laws_markStringS.f k xs 1) ((1 : Int) + xs.length, marksT xs.length) := markStringS_l xs.length hn xs 0 (by omega)

theorem heldStringS_l (n : Nat) (hn : n ≤ 10000000) : ∀ (m i : Nat), i + m = n →
    Ev (fun k => laws_heldStringS.l0 k (marksT n) (1 + (i : Int)) (i : Int)) ((1 : Int) + n) := by
  intro m
  induction m with
  | zero =>
    intro i h
    refine Ev.step (fun k => laws_heldStringS.l0.eq_2 ..) ?_
    exact ev_neg (by rw [marksT_length]; omega) (ev_now (by omega))
  | succ m ih =>
    intro i h
    refine Ev.step (fun k => laws_heldStringS.l0.eq_2 ..) ?_
    have hr : rdOf ByteArray.empty (marksT n) (i : Int) = markT (1 + i) := by
      simp [rdOf, marksT, List.getD_eq_getElem?_getD, List.getElem?_range (show i < n by omega)]
    have hm := markText_ev (1 + i) (by omega) (by omega)
    rw [show ((1 + i : Nat) : Int) = 1 + (i : Int) from by omega] at hm
    rw [hr, w64 (by omega) (by omega), w64 (by omega) (by omega)]
    refine ev_pos (by rw [marksT_length]; omega) (ev_pos (by omega) (Ev.bind hm (ev_pos rfl ?_)))
    have h2 := ih (i + 1) (by omega)
    have e2 : (1 : Int) + ((i + 1 : Nat) : Int) = 1 + (i : Int) + 1 := by omega
    have e3 : ((i + 1 : Nat) : Int) = (i : Int) + 1 := by omega
    rw [e2, e3] at h2
    exact h2
theorem heldStringS_ev (n : Nat) (hn : n ≤ 10000000) : Ev (fun k => laws_heldStringS.f k (marksT n) 1) ((1 : Int) + n) := heldStringS_l n hn n 0 (by omega)

theorem e32s_ : (⟨#[32]⟩ : ByteArray) = mkB [32] := rfl
theorem take_mkB (ps : List (List UInt8)) (k : Nat) : (ps.map mkB).take k = (ps.take k).map mkB := by rw [List.map_take]
theorem drop_mkB (ps : List (List UInt8)) (k : Nat) : (ps.map mkB).drop k = (ps.drop k).map mkB := by rw [List.map_drop]
theorem joinB_mkB (ps : List (List UInt8)) (c : UInt8) : joinB (ps.map mkB) (mkB [c]) = Lib.join ps [c] := by
  unfold joinB
  rw [List.map_map, mkB_data]
  have : ((fun x : ByteArray => x.data.toList) ∘ mkB) = id := by funext x; exact mkB_data x
  rw [this, List.map_id]
theorem implSet_l (ks : List Int) (hk : ks.length ≤ 1000) : ∀ (ys : List Int) (i : Int) (ps : List (List UInt8)) (out : List ByteArray), 0 ≤ i → ks.drop i.toNat = ys → validK ys ps.length → ps.length ≤ 1000 → (∀ p ∈ ps, p.length ≤ 1000) → out.length + ys.length ≤ 1000 →
    Ev (fun k => impl_SetText.l0 k out (ps.map mkB) ks (ks.length : Int) i) (out ++ (linesJ ys ps).map mkB, true) := by
  intro ys
  induction ys with
  | nil =>
    intro i ps out h0 h _ _ _ _
    have := drop_nil h0 h
    refine Ev.step (fun k => impl_SetText.l0.eq_2 ..) ?_
    exact ev_neg (by omega) (ev_now (by simp [linesJ]))
  | cons y ys ih =>
    intro i ps out h0 h hv hp hb ho
    obtain ⟨h1, h2, h3, _⟩ := drop_cons h0 h
    obtain ⟨hv1, hv2⟩ := hv
    simp only [List.length_cons] at ho
    have htl : (ps.take y.toNat).length ≤ 1000 := by rw [List.length_take]; omega
    have hjl := join_len 1000 (ps.take y.toNat) (fun p hp => hb p (List.mem_of_mem_take hp))
    have hm : (1000 + 1) * (ps.take y.toNat).length ≤ 1001 * 1000 := Nat.mul_le_mul (Nat.le_refl _) htl
    have hj : strings_Join.f ((ps.map mkB).take y.toNat) (⟨#[32]⟩ : ByteArray) = some (mkB (Lib.join (ps.take y.toNat) [32])) := by
      unfold strings_Join.f
      rw [take_mkB, e32s_, joinB_mkB, if_pos (by rw [List.length_map]; omega), if_pos (by omega)]
      rfl
    refine Ev.step (fun k => impl_SetText.l0.eq_2 ..) ?_
    rw [h2, w64 (x := i + 1) (by omega) (by omega), hj]
    refine ev_pos h1 (ev_pos h0 (ev_pos h1 (ev_pos (by omega) (ev_pos (by rw [List.length_map]; omega) (ev_some rfl (ev_pos (by omega) ?_))))))
    rw [drop_mkB]
    refine ev_val (ih (i + 1) (ps.drop y.toNat) _ (by omega) h3 (by rw [List.length_drop]; exact hv2) (by rw [List.length_drop]; omega) (fun p hp => hb p (List.mem_of_mem_drop hp)) (by simp only [List.length_append, List.length_cons, List.length_nil]; omega)) ?_
    rw [linesJ, List.map_cons, List.append_assoc]; rfl
theorem specSet_l1 (x6 x7 : List ByteArray) (x9 : Int) (ks : List Int) (i : Int) (rs : List (List UInt8)) (hrn : rs.length ≤ 1000) (hb : ∀ p ∈ rs, p.length ≤ 1000) (h7 : x7.length ≤ 100000) (h9 : 0 ≤ x9) (h9b : x9 ≤ (x6.length : Int)) (hi : 0 ≤ i ∧ i ≤ 100000) (r : List ByteArray × Bool) : ∀ (ys : List (List UInt8)) (j : Int) (acc : List UInt8), 0 ≤ j → rs.drop j.toNat = ys → acc.length + 1001 * ys.length ≤ 10000000 →
    Ev (fun k => spec_SetText.l0 k (x6.drop x9.toNat) (x7 ++ [mkB (acc ++ Lib.joinTail [32] ys)]) ks (ks.length : Int) (i + 1)) r →
    Ev (fun k => spec_SetText.l1 k x6 x7 x9 (mkB acc) ks (ks.length : Int) i (rs.map mkB) ((rs.map mkB).length : Int) j) r := by
  intro ys
  induction ys with
  | nil =>
    intro j acc h0 h _ hr
    have := drop_nil h0 h
    refine Ev.step (fun k => spec_SetText.l1.eq_2 ..) ?_
    rw [w64 (x := i + 1) (by omega) (by omega)]
    refine ev_neg (by rw [List.length_map]; omega) (ev_pos (by omega) (ev_pos h9 (ev_pos h9b ?_)))
    simpa [Lib.joinTail] using hr
  | cons y ys ih =>
    intro j acc h0 h ha hr
    obtain ⟨h1, _, h3, _⟩ := drop_get h0 h
    have hy := hb y (List.mem_of_mem_drop (by rw [h]; exact List.mem_cons_self))
    simp only [List.length_cons] at ha
    have hdm : (rs.map mkB).drop j.toNat = mkB y :: ys.map mkB := by rw [drop_mkB, h]; rfl
    refine Ev.step (fun k => spec_SetText.l1.eq_2 ..) ?_
    rw [rdOf_drop h0 hdm, w64 (x := j + 1) (by omega) (by omega), e32s_, mkB_append, mkB_append, mkB_size, mkB_size, mkB_size]
    refine ev_pos (by rw [List.length_map]; omega) (ev_pos h0 (ev_pos (by rw [List.length_map]; omega) (ev_pos (by omega) (ev_pos (by simp only [List.length_append, List.length_cons, List.length_nil]; omega) ?_))))
    refine ih (j + 1) _ (by omega) h3 (by simp only [List.length_append, List.length_cons, List.length_nil]; omega) ?_
    have e : acc ++ ([32] ++ y) ++ Lib.joinTail [32] ys = acc ++ Lib.joinTail [32] (y :: ys) := by simp [Lib.joinTail]
    rw [e]
    exact hr
theorem specSet_l (ks : List Int) (hk : ks.length ≤ 1000) : ∀ (ys : List Int) (i : Int) (ps : List (List UInt8)) (out : List ByteArray), 0 ≤ i → ks.drop i.toNat = ys → validK ys ps.length → ps.length ≤ 1000 → (∀ p ∈ ps, p.length ≤ 1000) → out.length + ys.length ≤ 1000 →
    Ev (fun k => spec_SetText.l0 k (ps.map mkB) out ks (ks.length : Int) i) (out ++ (linesJ ys ps).map mkB, true) := by
  intro ys
  induction ys with
  | nil =>
    intro i ps out h0 h _ _ _ _
    have := drop_nil h0 h
    refine Ev.step (fun k => spec_SetText.l0.eq_2 ..) ?_
    exact ev_neg (by omega) (ev_now (by simp [linesJ]))
  | cons y ys ih =>
    intro i ps out h0 h hv hp hb ho
    obtain ⟨h1, h2, h3, _⟩ := drop_cons h0 h
    obtain ⟨hv1, hv2⟩ := hv
    simp only [List.length_cons] at ho
    obtain ⟨p, qs, hpq⟩ : ∃ p qs, ps = p :: qs := by
      rcases ps with _ | ⟨p, qs⟩
      · simp only [List.length_nil] at hv1; omega
      · exact ⟨p, qs, rfl⟩
    have hr0 : rdOf ByteArray.empty (ps.map mkB) 0 = mkB p := by rw [hpq]; rfl
    have hcut : ((ps.map mkB).take y.toNat).drop 1 = (qs.take (y.toNat - 1)).map mkB := by
      rw [take_mkB, drop_mkB, hpq]
      obtain ⟨m, hm⟩ : ∃ m, y.toNat = m + 1 := ⟨y.toNat - 1, by omega⟩
      rw [hm, List.take_succ_cons, List.drop_succ_cons, List.drop_zero, Nat.add_sub_cancel]
    have hjoin : Lib.join (ps.take y.toNat) [32] = p ++ Lib.joinTail [32] (qs.take (y.toNat - 1)) := by
      rw [hpq]
      obtain ⟨m, hm⟩ : ∃ m, y.toNat = m + 1 := ⟨y.toNat - 1, by omega⟩
      rw [hm, List.take_succ_cons, Lib.join_cons, Nat.add_sub_cancel]
    have hqn : (qs.take (y.toNat - 1)).length ≤ 1000 := by
      have : qs.length ≤ 1000 := by rw [hpq, List.length_cons] at hp; omega
      rw [List.length_take]; omega
    have hpl : p.length ≤ 1000 := hb p (by rw [hpq]; exact List.mem_cons_self)
    refine Ev.step (fun k => spec_SetText.l0.eq_2 ..) ?_
    rw [h2, hr0, hcut]
    refine ev_pos h1 (ev_pos h0 (ev_pos h1 (ev_pos (by rw [List.length_map]; omega) (ev_pos (by omega) (ev_pos (by rw [List.length_map]; omega) (ev_some rfl ?_))))))
    refine specSet_l1 (ps.map mkB) out y ks i (qs.take (y.toNat - 1)) hqn (fun q hq => hb q (by rw [hpq]; exact List.mem_cons_of_mem _ (List.mem_of_mem_take hq))) (by omega) (by omega) (by rw [List.length_map]; omega) (by omega) _ _ 0 p (by omega) rfl (by rw [Int.toNat_zero, List.drop_zero]; omega) ?_
    rw [drop_mkB, Int.toNat_zero, List.drop_zero, ← hjoin]
    refine ev_val (ih (i + 1) (ps.drop y.toNat) _ (by omega) h3 (by rw [List.length_drop]; exact hv2) (by rw [List.length_drop]; omega) (fun p hp => hb p (List.mem_of_mem_drop hp)) (by simp only [List.length_append, List.length_cons, List.length_nil]; omega)) ?_
    rw [linesJ, List.map_cons, List.append_assoc]; rfl
def setOk (l : List UInt8) (w : Int) : Bool := textOk l && settingB (lensT l) w
def setM (l : List UInt8) (w : Int) : List ByteArray × Bool := if setOk l w = true then ((linesJ (fillM w (lensT l)) (parts 32 l)).map mkB, true) else ([], false)
theorem setOk_facts {l : List UInt8} {w : Int} (h : setOk l w = true) : textOk l = true ∧ settingB (lensT l) w = true ∧ (lensT l).length ≤ 30 ∧ (∀ n ∈ lensT l, 1 ≤ n ∧ n ≤ 80) ∧ (parts 32 l).length ≤ 30 ∧ (∀ p ∈ parts 32 l, p.length ≤ 1000) ∧ validK (fillM w (lensT l)) (parts 32 l).length ∧ (fillM w (lensT l)).length ≤ 30 := by
  simp only [setOk, Bool.and_eq_true] at h
  obtain ⟨h1, h2⟩ := h
  have ht := textOk_true h1
  have hw := wordsB_true (settingB_true h2).1
  have hl := lensT_length l
  refine ⟨h1, h2, by omega, hw.2, by omega, fun p hp => ?_, ?_, ?_⟩
  · have := parts_part_len 32 l p hp; omega
  · rw [← hl]; exact fillL_valid w _ _ (Nat.le_refl _)
  · have := fillL_length w (lensT l).length (lensT l)
    unfold fillM; omega
theorem setM_small (l : List UInt8) (w : Int) : (setM l w).1.length ≤ 1000 := by
  unfold setM
  split
  · rename_i h
    have := (setOk_facts h).2.2.2.2.2.2.2
    simp only [List.length_map, linesJ_length]; omega
  · simp
theorem specSet_ev (l : List UInt8) (w : Int) (hl : l.length ≤ 1048576) : Ev (fun k => spec_SetText.f k (mkB l) w) (setM l w) := by
  have fall : ∀ b : Bool, b = true → setOk l w = false → Ev (fun k => spec_SetText.j0 k (mkB l) w b) (setM l w) := fun b hb hf => by
    refine Ev.step (fun k => spec_SetText.j0.eq_2 ..) (ev_pos hb (ev_now ?_))
    unfold setM; rw [hf]; rfl
  unfold spec_SetText.f
  refine Ev.bind (lnText_ev l hl) ?_
  by_cases h1 : textOk l = true
  · have ht := textOk_true h1
    refine ev_pos h1 (Ev.bind (lnParts_ev l (by omega)) (Ev.bind (lnLengths_ev _ (parts_small l (by omega))) ?_))
    rw [szL_parts]
    refine Ev.bind (lnFits_ev (lensT l) w (by have := parts_length 32 l; rw [lensT_length]; omega)) ?_
    by_cases h2 : settingB (lensT l) w = true
    · have hok : setOk l w = true := by unfold setOk; rw [h1, h2]; rfl
      obtain ⟨_, _, f1, f2, f3, f4, f5, f6⟩ := setOk_facts hok
      refine Ev.step (fun k => spec_SetText.j0.eq_2 ..) (ev_neg (by rw [h2]; simp) (Ev.bind (lnParts_ev l (by omega)) (Ev.bind (lnLengths_ev _ (parts_small l (by omega))) ?_)))
      rw [szL_parts]
      refine Ev.bind (lnFill_ev w (lensT l) f1 f2) ?_
      refine ev_val (specSet_l _ (by omega) _ 0 (parts 32 l) [] (by omega) rfl f5 (by omega) f4 (by simp only [List.length_nil, Int.toNat_zero, List.drop_zero]; omega)) ?_
      unfold setM; rw [if_pos hok]; rfl
    · exact fall _ (by rw [Bool.eq_false_iff.2 h2]; rfl) (by unfold setOk; rw [Bool.eq_false_iff.2 h2, Bool.and_false])
  · exact ev_neg h1 (fall _ rfl (by unfold setOk; rw [Bool.eq_false_iff.2 h1, Bool.false_and]))
theorem implSet_ev (l : List UInt8) (w : Int) (hl : l.length ≤ 1048576) : Ev (fun k => impl_SetText.f k (mkB l) w) (setM l w) := by
  have fall : ∀ (x : List Int) (b : Bool), b = true → setOk l w = false → Ev (fun k => impl_SetText.j0 k (mkB l) w x b) (setM l w) := fun x b hb hf => by
    refine Ev.step (fun k => impl_SetText.j0.eq_2 ..) (ev_pos hb (ev_now ?_))
    unfold setM; rw [hf]; rfl
  unfold impl_SetText.f
  refine Ev.bind (implWords_ev l hl) ?_
  by_cases h1 : textOk l = true
  · have ht := textOk_true h1
    by_cases h3 : wordsB (lensT l) = true
    · have e : wordsM l = (lensT l, true) := by unfold wordsM; rw [if_pos h1, if_pos h3]
      rw [e]
      refine ev_pos rfl (Ev.bind (isSetting_ev (lensT l) w (by have := parts_length 32 l; rw [lensT_length]; omega)) ?_)
      by_cases h2 : settingB (lensT l) w = true
      · have hok : setOk l w = true := by unfold setOk; rw [h1, h2]; rfl
        obtain ⟨_, _, f1, f2, f3, f4, f5, f6⟩ := setOk_facts hok
        refine Ev.step (fun k => impl_SetText.j0.eq_2 ..) (ev_neg (by rw [h2]; simp) (ev_some (split_eq 32 l (by omega)) (Ev.bind (filled_ev w (lensT l) f1 f2) ?_)))
        refine ev_val (implSet_l _ (by omega) _ 0 (parts 32 l) [] (by omega) rfl f5 (by omega) f4 (by simp only [List.length_nil, Int.toNat_zero, List.drop_zero]; omega)) ?_
        unfold setM; rw [if_pos hok]; rfl
      · exact fall _ _ (by rw [Bool.eq_false_iff.2 h2]; rfl) (by unfold setOk; rw [Bool.eq_false_iff.2 h2, Bool.and_false])
    · have e : wordsM l = ([], false) := by unfold wordsM; rw [if_pos h1, if_neg h3]
      have hs : settingB (lensT l) w = false := by unfold settingB; rw [Bool.eq_false_iff.2 h3, Bool.false_and]
      rw [e]
      exact ev_neg (by simp) (fall _ _ rfl (by unfold setOk; rw [hs, Bool.and_false]))
  · have e : wordsM l = ([], false) := by unfold wordsM; rw [if_neg h1]
    rw [e]
    exact ev_neg (by simp) (fall _ _ rfl (by unfold setOk; rw [Bool.eq_false_iff.2 h1, Bool.false_and]))
theorem FnExactSetText (a : ByteArray) (w : Int) (_ha : a.size ≤ 140737488351232) : ∃ k, laws_FnExactSetText.f k a w = some true := by
  refine Ev.rounds ?_
  unfold laws_FnExactSetText.f
  by_cases h : (a.size : Int) > 1048576
  · exact ev_pos h (ev_now rfl)
  · refine ev_neg h ?_
    have hz : a.data.toList.length = a.size := by rw [Array.length_toList]; rfl
    have hl : a.data.toList.length ≤ 1048576 := by omega
    have e := mkB_eq a
    have hs := specSet_ev a.data.toList w hl
    have hi := implSet_ev a.data.toList w hl
    have hW := setM_small a.data.toList w
    rw [e] at hs hi
    generalize setM a.data.toList w = r at hs hi hW
    refine Ev.bind hs (Ev.bind hi (Ev.bind (eqStringS_ev r.1 (by omega)) (ev_pos rfl ?_)))
    refine Ev.step (fun k => laws_FnExactSetText.j0.eq_2 ..) ?_
    refine ev_neg (by simp) (Ev.bind (markStringS_ev r.1 (by omega)) (Ev.bind (heldStringS_ev r.1.length (by omega)) (ev_neg (by omega) (ev_pos rfl (Ev.bind hi (Ev.bind (eqStringS_ev r.1 (by omega)) (ev_pos rfl ?_)))))))
    refine Ev.step (fun k => laws_FnExactSetText.j1.eq_2 ..) ?_
    exact ev_neg (by simp) (Ev.bind (heldStringS_ev r.1.length (by omega)) (ev_neg (by omega) (ev_pos rfl (ev_now rfl))))

end Go.Proofs.YtgbnpemoljhamaaDoor.Pure
