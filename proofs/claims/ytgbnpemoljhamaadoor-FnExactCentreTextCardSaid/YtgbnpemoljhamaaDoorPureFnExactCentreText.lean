/- The law FnExactCentreText holds for every text and width: program and reference tell the same text. No condition but what the card lists. -/
import Derived.Test.YtgbnpemoljhamaaDoorPFnExactCentreTextx2
namespace Go.Proofs.YtgbnpemoljhamaaDoor.Pure
open Go.RowKit Go.Proofs.YtgbnpemoljhamaaDoor.PFnExactCentreText Go.Proofs.YtgbnpemoljhamaaDoorW.PrintWords Go.Proofs.YtgbnpemoljhamaaDoorW.PrintLast

theorem w64 {x : Int} (h1 : -9223372036854775808 ≤ x) (h2 : x ≤ 9223372036854775807) : wrap64 x = x := by
  unfold wrap64; omega
theorem ev_pos {α : Type} {c : Prop} [Decidable c] {f g : Nat → Option α} {r : α} (hc : c) (h : Ev f r) : Ev (fun k => if c then f k else g k) r := by
  simpa only [if_pos hc] using h
theorem ev_neg {α : Type} {c : Prop} [Decidable c] {f g : Nat → Option α} {r : α} (hc : ¬ c) (h : Ev g r) : Ev (fun k => if c then f k else g k) r := by
  simpa only [if_neg hc] using h
theorem ev_now {α : Type} {r s : α} (h : r = s) : Ev (fun _ => some r) s := h ▸ Ev.now r
theorem ev_some {α β : Type} {x : Option α} {f : Nat → α → Option β} {a : α} {r : β} (h : x = some a) (k : Ev (fun n => f n a) r) : Ev (fun n => x.bind (f n)) r := by
  subst h; exact k
theorem ev_val {α : Type} {g : Nat → Option α} {a b : α} (h : Ev g a) (e : a = b) : Ev g b := e ▸ h
theorem ev_suc {α : Type} {g : Nat → Option α} {r : α} (h : Ev (fun k => g (k + 1)) r) : Ev g r := Ev.step (fun _ => rfl) h
theorem drop_nil {α : Type} {xs : List α} {i : Int} (h0 : 0 ≤ i) (h : xs.drop i.toNat = []) : (xs.length : Int) ≤ i := by
  have := List.drop_eq_nil_iff.1 h
  omega
theorem drop_get {α : Type} {xs : List α} {i : Int} {y : α} {ys : List α} (h0 : 0 ≤ i) (h : xs.drop i.toNat = y :: ys) : i < (xs.length : Int) ∧ (∀ d, xs.getD i.toNat d = y) ∧ xs.drop (i + 1).toNat = ys ∧ xs.take (i + 1).toNat = xs.take i.toNat ++ [y] := by
  have hl : i.toNat < xs.length := by
    rcases Nat.lt_or_ge i.toNat xs.length with hl | hl
    · exact hl
    · rw [List.drop_eq_nil_iff.2 hl] at h; cases h
  have e := List.drop_eq_getElem_cons hl
  rw [h] at e
  injection e with e1 e2
  have h1 : (i + 1).toNat = i.toNat + 1 := by omega
  refine ⟨by omega, fun d => ?_, ?_, ?_⟩
  · rw [List.getD_eq_getElem?_getD, List.getElem?_eq_getElem hl, e1]; rfl
  · rw [h1]; exact e2.symm
  · rw [h1, List.take_add_one, List.getElem?_eq_getElem hl, e1]; rfl
theorem drop_cons {xs : List Int} {i : Int} {y : Int} {ys : List Int} (h0 : 0 ≤ i) (h : xs.drop i.toNat = y :: ys) : i < (xs.length : Int) ∧ rd xs i = y ∧ xs.drop (i + 1).toNat = ys ∧ xs.take (i + 1).toNat = xs.take i.toNat ++ [y] := by
  obtain ⟨h1, h2, h3⟩ := drop_get h0 h
  exact ⟨h1, h2 0, h3⟩

/-! ### Texts as lists of bytes -/
def mkB (l : List UInt8) : ByteArray := ⟨l.toArray⟩
theorem mkB_data (l : List UInt8) : (mkB l).data.toList = l := by simp [mkB]
theorem mkB_size (l : List UInt8) : (mkB l).size = l.length := by simp [mkB, ByteArray.size]
theorem mkB_eq (s : ByteArray) : mkB s.data.toList = s := by cases s; simp [mkB]
theorem mkB_append (a b : List UInt8) : mkB a ++ mkB b = mkB (a ++ b) := by
  apply ByteArray.ext
  simp [mkB, ByteArray.data_append]
theorem mkB_drop (l : List UInt8) (i : Nat) : (mkB l).extract i (mkB l).size = mkB (l.drop i) := by
  apply ByteArray.ext
  apply Array.toList_inj.1
  rw [mkB_size]
  simp only [mkB, ByteArray.data_extract, List.extract_toArray, List.extract_eq_take_drop]
  rw [List.take_of_length_le (by rw [List.length_drop]; exact Nat.le_refl _)]
theorem mkB_slice (l : List UInt8) (i j : Nat) : (mkB l).extract i j = mkB ((l.take j).drop i) := by
  apply ByteArray.ext
  apply Array.toList_inj.1
  simp [mkB, ByteArray.data_extract, List.drop_take]
theorem mkB_nums (xs : List Int) : strOfNums xs = mkB (xs.map fun n => UInt8.ofNat n.toNat) := rfl
theorem mkB_inj {a b : List UInt8} (h : mkB a = mkB b) : a = b := by
  have := congrArg (fun s => s.data.toList) h
  simpa [mkB] using this
theorem bt_mkB {l : List UInt8} {i : Nat} {x : UInt8} {xs : List UInt8} (h : l.drop i = x :: xs) : bt (mkB l) (i : Int) = (x.toNat : Int) := by
  have hl : i < l.length := by
    rcases Nat.lt_or_ge i l.length with g | g
    · exact g
    · rw [List.drop_eq_nil_iff.2 g] at h; cases h
  have e : l[i] = x := by
    have := List.drop_eq_getElem_cons hl
    rw [h] at this
    injection this with h1 _
    exact h1.symm
  have hs : (i : Int).toNat < (mkB l).size := by rw [Int.toNat_natCast, mkB_size]; exact hl
  rw [← bt_at _ _ hs, ← e]
  rfl
theorem drop_step {α : Type} {l : List α} {i : Nat} {x : α} {xs : List α} (h : l.drop i = x :: xs) : i < l.length ∧ l.drop (i + 1) = xs := by
  have hl : i < l.length := by
    rcases Nat.lt_or_ge i l.length with g | g
    · exact g
    · rw [List.drop_eq_nil_iff.2 g] at h; cases h
  have := List.drop_eq_getElem_cons hl
  rw [h] at this
  injection this with _ h2
  exact ⟨hl, h2.symm⟩

def headOn (x : UInt8) : List (List UInt8) → List (List UInt8)
  | p :: ps => (x :: p) :: ps
  | [] => [[x]]
/-- The parts of a text between a byte's places. -/
def parts (c : UInt8) : List UInt8 → List (List UInt8)
  | [] => [[]]
  | x :: xs => if x = c then [] :: parts c xs else headOn x (parts c xs)
def glue (cur : List UInt8) : List (List UInt8) → List (List UInt8)
  | p :: ps => (cur ++ p) :: ps
  | [] => [cur]
theorem headOn_length (x : UInt8) (ps : List (List UInt8)) (h : ps ≠ []) : (headOn x ps).length = ps.length := by
  cases ps with
  | nil => exact absurd rfl h
  | cons p ps => rfl
theorem parts_ne (c : UInt8) (l : List UInt8) : parts c l ≠ [] := by
  cases l with
  | nil => simp [parts]
  | cons x xs =>
    rw [parts]
    split
    · simp
    · cases parts c xs <;> simp [headOn]
theorem parts_length (c : UInt8) : ∀ (l : List UInt8), (parts c l).length ≤ l.length + 1
  | [] => by simp [parts]
  | x :: xs => by
    have := parts_length c xs
    rw [parts]
    split
    · simp only [List.length_cons]; omega
    · rw [headOn_length x _ (parts_ne c xs)]; simp only [List.length_cons]; omega
theorem parts_part_len (c : UInt8) : ∀ (l : List UInt8), ∀ p ∈ parts c l, p.length ≤ l.length
  | [], p, h => by simp [parts] at h; subst h; simp
  | x :: xs, p, h => by
    rw [parts] at h
    split at h
    · rcases List.mem_cons.1 h with rfl | h
      · simp
      · have := parts_part_len c xs p h; simp only [List.length_cons]; omega
    · have hne := parts_ne c xs
      rcases hp : parts c xs with _ | ⟨q, qs⟩
      · exact absurd hp hne
      · rw [hp] at h
        rcases List.mem_cons.1 h with rfl | h
        · have := parts_part_len c xs q (by rw [hp]; exact List.mem_cons_self)
          simp only [List.length_cons]; omega
        · have := parts_part_len c xs p (by rw [hp]; exact List.mem_cons_of_mem _ h)
          simp only [List.length_cons]; omega
theorem glue_nil (ps : List (List UInt8)) (h : ps ≠ []) : glue [] ps = ps := by
  cases ps with
  | nil => exact absurd rfl h
  | cons p ps => rfl
theorem glue_head (cur : List UInt8) (x : UInt8) (ps : List (List UInt8)) : glue (cur ++ [x]) ps = glue cur (headOn x ps) := by
  cases ps with
  | nil => rfl
  | cons p ps => simp [glue, headOn]

theorem index_cons_ (x c : UInt8) (xs : List UInt8) (h : x ≠ c) : Lib.index (x :: xs) [c] = if Lib.index xs [c] == -1 then -1 else Lib.index xs [c] + 1 := by
  have hp : ([c] : List UInt8).isPrefixOf (x :: xs) = false := by simp [List.isPrefixOf, Ne.symm h]
  rw [Lib.index, hp]; simp
theorem index_head_ (c : UInt8) (xs : List UInt8) : Lib.index (c :: xs) [c] = 0 := by rw [Lib.index]; simp [List.isPrefixOf]
theorem splitK_parts (c : UInt8) : ∀ (l : List UInt8) (k : Nat), l.count c ≤ k → Lib.splitK [c] 0 k l = parts c l := by
  intro l
  induction l with
  | nil =>
    intro k _
    cases k with
    | zero => rfl
    | succ k => unfold Lib.splitK; rw [if_pos (by simp [Lib.index])]; rfl
  | cons x xs ih =>
    intro k hk
    by_cases h : x = c
    · subst h
      rw [List.count_cons_self] at hk
      cases k with
      | zero => omega
      | succ k =>
        unfold Lib.splitK
        rw [index_head_, if_neg (by simp), parts, if_pos rfl]
        simp only [Int.toNat_zero, Nat.zero_add, List.take_zero, List.length_cons, List.length_nil, List.drop_succ_cons, List.drop_zero]
        rw [ih k (by omega)]
    · rw [List.count_cons_of_ne (by simpa using h)] at hk
      rw [parts, if_neg h, ← ih k hk]
      cases k with
      | zero => rfl
      | succ k =>
        unfold Lib.splitK
        rw [index_cons_ x c xs h]
        by_cases m : Lib.index xs [c] = -1
        · rw [if_pos (by rw [m]; simp), if_pos (by rw [m]; simp)]; rfl
        · have hge := Lib.index_ge xs [c]
          obtain ⟨j, hj⟩ : ∃ j : Nat, Lib.index xs [c] = j := ⟨(Lib.index xs [c]).toNat, by omega⟩
          have n1 : ((j : Int) == -1) = false := by simp
          have n2 : (((j : Int) + 1) == -1) = false := by simp; omega
          have t1 : ((j : Int) + 1).toNat = j + 1 := by omega
          rw [hj, n1]
          simp only [Bool.false_eq_true, if_false]
          rw [n2]
          simp only [Bool.false_eq_true, if_false, t1, Int.toNat_natCast, Nat.add_zero, List.length_cons, List.length_nil]
          rfl
theorem splitB_parts (c : UInt8) (l : List UInt8) : splitB (mkB l) (mkB [c]) = (parts c l).map mkB := by
  have h1 := Lib.splitB_data (mkB [c]) 0 (Lib.countB (mkB l) (mkB [c])) (mkB l)
  have h2 : Lib.countB (mkB l) (mkB [c]) = l.count c := by
    show Lib.count _ _ = _
    rw [mkB_data, mkB_data, Lib.count_one]
  rw [mkB_data, mkB_data, h2, splitK_parts c l _ (Nat.le_refl _)] at h1
  unfold splitB
  rw [h2]
  have h3 : (parts c l).map mkB = ((Lib.splitB (mkB [c]) 0 (l.count c) (mkB l)).map (·.data.toList)).map mkB := by rw [h1]
  rw [h3, List.map_map]
  have : (mkB ∘ fun x : ByteArray => x.data.toList) = id := by funext x; exact mkB_eq x
  rw [this, List.map_id]
theorem split_eq (c : UInt8) (l : List UInt8) (hl : l.length ≤ 4294967280) : strings_Split.f (mkB l) (mkB [c]) = some ((parts c l).map mkB) := by
  unfold strings_Split.f
  rw [if_pos (by rw [mkB_size]; exact hl), if_pos (by rw [mkB_size]; simp), splitB_parts]

theorem within_eq (a lo hi : Int) : impl_within.f a lo hi = some (decide (lo ≤ a ∧ a ≤ hi)) := by
  unfold impl_within.f
  by_cases h : a ≥ lo
  · rw [if_pos h]; congr 1; simp [show lo ≤ a from h]
  · rw [if_neg h]; congr 1; simp; omega

theorem l1In_eq (a lo hi : Int) : spec_l1In.f a lo hi = some (decide (lo ≤ a ∧ a ≤ hi)) := by
  unfold spec_l1In.f
  by_cases h : a ≥ lo
  · rw [if_pos h]; congr 1; simp [show lo ≤ a from h]
  · rw [if_neg h]; congr 1; simp; omega

def plainB (b : UInt8) : Bool := decide (32 ≤ b.toNat ∧ b.toNat ≤ 126)
theorem plain_lt {x : UInt8} (h : ¬ ((x.toNat : Int) < 32)) (h2 : ¬ ((x.toNat : Int) > 126)) : plainB x = true := by
  unfold plainB; rw [decide_eq_true_eq]; omega
theorem plain_not1 {x : UInt8} (h : (x.toNat : Int) < 32) : plainB x = false := by
  unfold plainB; rw [decide_eq_false_iff_not]; omega
theorem plain_not2 {x : UInt8} (h : (x.toNat : Int) > 126) : plainB x = false := by
  unfold plainB; rw [decide_eq_false_iff_not]; omega
/-- No part is empty; p: stands the byte ahead (or the begin). -/
def fullP (c : UInt8) : Bool → List UInt8 → Bool
  | p, [] => !p
  | p, x :: xs => if x = c then !p && fullP c true xs else fullP c false xs
theorem fullP_iff (c : UInt8) : ∀ (l : List UInt8), (fullP c true l = true ↔ [] ∉ parts c l) ∧ (fullP c false l = true ↔ [] ∉ (parts c l).tail)
  | [] => by simp [fullP, parts]
  | x :: xs => by
    obtain ⟨h1, h2⟩ := fullP_iff c xs
    by_cases e : x = c
    · subst e
      simp only [fullP, parts, if_true]
      exact ⟨by simp, by simpa using h1⟩
    · simp only [fullP, parts, if_neg e]
      rcases hp : parts c xs with _ | ⟨q, qs⟩
      · exact absurd hp (parts_ne c xs)
      · rw [hp] at h2
        simp only [headOn, List.tail_cons] at h2 ⊢
        exact ⟨by simpa using h2, h2⟩
def dblP (c : UInt8) : Bool → List UInt8 → Bool
  | _, [] => true
  | p, x :: xs => if x = c then !p && dblP c true xs else dblP c false xs
def endP (c : UInt8) : Bool → List UInt8 → Bool
  | p, [] => !p
  | _, x :: xs => endP c (decide (x = c)) xs
theorem fullP_eq (c : UInt8) : ∀ (l : List UInt8) (p : Bool), fullP c p l = (dblP c p l && endP c p l)
  | [], p => by simp [fullP, dblP, endP]
  | x :: xs, p => by
    by_cases e : x = c
    · simp [fullP, dblP, endP, e, fullP_eq c xs, Bool.and_assoc]
    · simp [fullP, dblP, endP, e, fullP_eq c xs]
def textOk (l : List UInt8) : Bool := decide (1 ≤ l.length ∧ l.length ≤ 200) && (l.all plainB && fullP 32 true l)
theorem textOk_true {l : List UInt8} (h : textOk l = true) : 1 ≤ l.length ∧ l.length ≤ 200 ∧ fullP 32 true l = true := by
  simp only [textOk, Bool.and_eq_true, decide_eq_true_eq] at h
  exact ⟨h.1.1, h.1.2, h.2.2⟩
theorem endP_last (c : UInt8) : ∀ (l : List UInt8) (p : Bool) (y : UInt8), l.drop (l.length - 1) = [y] → endP c p l = decide (y ≠ c)
  | [], p, y, h => by simp at h
  | [x], p, y, h => by simp at h; subst h; simp [endP]
  | x :: z :: zs, p, y, h => by
    rw [endP]
    refine endP_last c (z :: zs) _ y ?_
    simp only [List.length_cons] at h ⊢
    rw [show zs.length + 1 + 1 - 1 = (zs.length + 1 - 1) + 1 from by omega, List.drop_succ_cons] at h
    exact h
theorem toNat32 (y : UInt8) : ((y.toNat : Int) = 32) ↔ y = 32 := by
  constructor
  · intro h
    exact UInt8.toNat_inj.1 (by show y.toNat = 32; omega)
  · intro h; subst h; rfl
theorem lnText_l (l : List UInt8) (hl : l.length ≤ 1048576) : ∀ (ys : List UInt8) (i : Nat) (p : Bool), l.drop i = ys → (i = 0 → p = false ∧ ∀ y zs, ys = y :: zs → y ≠ 32) → (∀ z zs, 0 < i → l.drop (i - 1) = z :: zs → p = decide (z = 32)) →
    Ev (fun k => spec_lnText.l0 k (mkB l) (i : Int)) (ys.all plainB && dblP 32 p ys) := by
  intro ys
  induction ys with
  | nil =>
    intro i p h _ _
    have := List.drop_eq_nil_iff.1 h
    refine Ev.step (fun k => spec_lnText.l0.eq_2 ..) ?_
    exact ev_neg (by rw [mkB_size]; omega) (ev_now (by simp [dblP]))
  | cons y ys ih =>
    intro i p h h0 hp
    obtain ⟨g1, g2⟩ := drop_step h
    refine Ev.step (fun k => spec_lnText.l0.eq_2 ..) ?_
    rw [bt_mkB h, mkB_size, w64 (x := (i : Int) + 1) (by omega) (by omega), w64 (x := (i : Int) - 1) (by omega) (by omega)]
    refine ev_pos (by omega) (ev_pos (by omega) ?_)
    by_cases c1 : (y.toNat : Int) < 32
    · exact ev_pos c1 (ev_now (by rw [List.all_cons, plain_not1 c1, Bool.false_and, Bool.false_and]))
    by_cases c2 : (y.toNat : Int) > 126
    · exact ev_neg c1 (ev_pos c2 (ev_now (by rw [List.all_cons, plain_not2 c2, Bool.false_and, Bool.false_and])))
    refine ev_neg c1 (ev_neg c2 ?_)
    have hn := ih (i + 1) (decide (y = 32)) g2 (fun e => by omega) (fun z zs _ hz => by rw [show i + 1 - 1 = i from by omega, h] at hz; injection hz with a _; rw [a])
    rw [show ((i + 1 : Nat) : Int) = (i : Int) + 1 from by omega] at hn
    by_cases c3 : y = 32
    · have hi : 0 < i := by
        rcases Nat.eq_zero_or_pos i with z | z
        · exact absurd c3 ((h0 z).2 y ys rfl)
        · exact z
      obtain ⟨z, zs, hz⟩ : ∃ z zs, l.drop (i - 1) = z :: zs := by
        rcases hd : l.drop (i - 1) with _ | ⟨z, zs⟩
        · have := List.drop_eq_nil_iff.1 hd; omega
        · exact ⟨z, zs, rfl⟩
      have hpz := hp z zs hi hz
      have hb : bt (mkB l) ((i : Int) - 1) = (z.toNat : Int) := by rw [show (i : Int) - 1 = ((i - 1 : Nat) : Int) from by omega]; exact bt_mkB hz
      rw [hb]
      refine ev_pos ((toNat32 y).2 c3) (ev_pos (by omega) (ev_pos (by omega) ?_))
      by_cases c4 : z = 32
      · refine ev_pos ((toNat32 z).2 c4) (ev_now ?_)
        rw [dblP, if_pos c3, hpz, decide_eq_true c4]; simp
      · refine ev_neg (fun q => c4 ((toNat32 z).1 q)) (ev_val hn ?_)
        rw [List.all_cons, plain_lt c1 c2, Bool.true_and, dblP, if_pos c3, hpz, decide_eq_false c4, decide_eq_true c3]; simp
    · refine ev_neg (fun q => c3 ((toNat32 y).1 q)) (ev_val hn ?_)
      rw [List.all_cons, plain_lt c1 c2, Bool.true_and, dblP, if_neg c3, decide_eq_false c3]
theorem lnText_ev (l : List UInt8) (hl : l.length ≤ 1048576) : Ev (fun k => spec_lnText.f k (mkB l)) (textOk l) := by
  unfold spec_lnText.f
  rw [mkB_size]
  refine ev_some (l1In_eq ..) ?_
  by_cases h : 1 ≤ (l.length : Int) ∧ (l.length : Int) ≤ 200
  · have e : (1 ≤ l.length ∧ l.length ≤ 200) := by omega
    refine ev_pos (decide_eq_true h) (ev_pos (by omega) ?_)
    obtain ⟨x, xs, hx⟩ : ∃ x xs, l = x :: xs := by
      rcases l with _ | ⟨x, xs⟩
      · simp at e
      · exact ⟨x, xs, rfl⟩
    have hd0 : l.drop 0 = x :: xs := by rw [List.drop_zero, hx]
    have hb0 : bt (mkB l) 0 = (x.toNat : Int) := bt_mkB (i := 0) hd0
    obtain ⟨y, hy⟩ : ∃ y, l.drop (l.length - 1) = [y] := by
      have hlen : (l.drop (l.length - 1)).length = 1 := by rw [List.length_drop]; omega
      rcases hd : l.drop (l.length - 1) with _ | ⟨y, ys⟩
      · rw [hd] at hlen; simp at hlen
      · rw [hd] at hlen; simp at hlen; rw [hlen]; exact ⟨y, rfl⟩
    have hb1 : bt (mkB l) ((l.length : Int) - 1) = (y.toNat : Int) := by rw [show (l.length : Int) - 1 = ((l.length - 1 : Nat) : Int) from by omega]; exact bt_mkB hy
    rw [w64 (x := (l.length : Int) - 1) (by omega) (by omega), hb0, hb1]
    have hfull := fullP_eq 32 l true
    have hend := endP_last 32 l true y hy
    by_cases c1 : x = 32
    · refine ev_pos ((toNat32 x).2 c1) (Ev.step (fun k => spec_lnText.j0.eq_2 ..) (ev_pos rfl (ev_now ?_)))
      unfold textOk
      have : dblP 32 true l = false := by rw [hx, dblP, if_pos c1]; rfl
      rw [hfull, this]; simp
    · refine ev_neg (fun q => c1 ((toNat32 x).1 q)) (ev_pos (by omega) (ev_pos (by omega) (Ev.step (fun k => spec_lnText.j0.eq_2 ..) ?_)))
      by_cases c2 : y = 32
      · refine ev_pos (by rw [beq_iff_eq]; exact (toNat32 y).2 c2) (ev_now ?_)
        unfold textOk
        have q1 : decide (y ≠ 32) = false := decide_eq_false (fun z => z c2)
        rw [hfull, hend, q1]; simp
      · refine ev_neg (by rw [beq_iff_eq]; exact fun q => c2 ((toNat32 y).1 q)) ?_
        refine ev_val (lnText_l l hl l 0 false rfl (fun _ => ⟨rfl, fun a b hab => by rw [hx] at hab; injection hab with q _; rw [← q]; exact c1⟩) (fun _ _ z => by omega)) ?_
        unfold textOk
        have hdd : dblP 32 true l = dblP 32 false l := by rw [hx, dblP, dblP, if_neg c1, if_neg c1]
        have q1 : decide (y ≠ 32) = true := decide_eq_true c2
        rw [decide_eq_true e, Bool.true_and, hfull, hend, hdd, q1, Bool.and_true]
  · have e : ¬ (1 ≤ l.length ∧ l.length ≤ 200) := by omega
    refine ev_neg (by rw [decide_eq_false h]; simp) (Ev.step (fun k => spec_lnText.j0.eq_2 ..) (ev_pos rfl (ev_now ?_)))
    unfold textOk
    rw [decide_eq_false e, Bool.false_and]
theorem isText_end (l : List UInt8) (hl : l.length ≤ 1048576) : Ev (fun _ => (impl_within.f ((mkB l).size : Int) 1 200).bind fun t105 => (if t105 = true then ((strings_Split.f (mkB l) (⟨#[32]⟩ : ByteArray)).bind fun t106 => ((slices_Contains_string_string.f t106 (⟨#[]⟩ : ByteArray)).bind fun t109 => (some (!t109)))) else (some false))) (decide (1 ≤ l.length ∧ l.length ≤ 200) && fullP 32 true l) := by
  rw [mkB_size]
  refine ev_some (within_eq ..) ?_
  by_cases h : 1 ≤ (l.length : Int) ∧ (l.length : Int) ≤ 200
  · have e : (1 ≤ l.length ∧ l.length ≤ 200) := by omega
    refine ev_pos (decide_eq_true h) (ev_some (split_eq 32 l (by omega)) (ev_some rfl (ev_now ?_)))
    rw [decide_eq_true e, Bool.true_and]
    have hc : Lib.containsS ((parts 32 l).map mkB) (⟨#[]⟩ : ByteArray) = decide ([] ∈ parts 32 l) := by
      rw [Bool.eq_iff_iff, Lib.containsS_iff, decide_eq_true_eq]
      have e0 : (⟨#[]⟩ : ByteArray) = mkB [] := rfl
      rw [e0]
      constructor
      · intro hm
        obtain ⟨q, hq, hqe⟩ := List.mem_map.1 hm
        rw [← mkB_inj hqe]; exact hq
      · intro hm
        exact List.mem_map.2 ⟨[], hm, rfl⟩
    rw [hc]
    have := (fullP_iff 32 l).1
    rw [Bool.eq_iff_iff, this]
    simp
  · have e : ¬ (1 ≤ l.length ∧ l.length ≤ 200) := by omega
    refine ev_neg (by rw [decide_eq_false h]; simp) (ev_now ?_)
    rw [decide_eq_false e, Bool.false_and]
theorem isText_l (l : List UInt8) (hl : l.length ≤ 1048576) : ∀ (ys : List UInt8) (i : Nat), l.drop i = ys →
    Ev (fun k => impl_isText.l0 k (mkB l) (l.length : Int) (i : Int)) (decide (1 ≤ l.length ∧ l.length ≤ 200) && (ys.all plainB && fullP 32 true l)) := by
  intro ys
  induction ys with
  | nil =>
    intro i h
    have := List.drop_eq_nil_iff.1 h
    refine Ev.step (fun k => impl_isText.l0.eq_2 ..) ?_
    exact ev_neg (by omega) (ev_val (isText_end l hl) (by simp))
  | cons y ys ih =>
    intro i h
    obtain ⟨g1, g2⟩ := drop_step h
    refine Ev.step (fun k => impl_isText.l0.eq_2 ..) ?_
    rw [bt_mkB h, w64 (x := (i : Int) + 1) (by omega) (by omega)]
    refine ev_pos (by omega) (ev_pos (by omega) (ev_pos (by rw [mkB_size]; omega) ?_))
    by_cases c1 : (y.toNat : Int) < 32
    · exact ev_pos c1 (ev_now (by rw [List.all_cons, plain_not1 c1]; simp))
    by_cases c2 : (y.toNat : Int) > 126
    · exact ev_neg c1 (ev_pos c2 (ev_now (by rw [List.all_cons, plain_not2 c2]; simp)))
    have := ih (i + 1) g2
    rw [show ((i + 1 : Nat) : Int) = (i : Int) + 1 from by omega] at this
    exact ev_neg c1 (ev_neg c2 (ev_val this (by rw [List.all_cons, plain_lt c1 c2, Bool.true_and])))
theorem isText_ev (l : List UInt8) (hl : l.length ≤ 1048576) : Ev (fun k => impl_isText.f k (mkB l)) (textOk l) := by
  unfold impl_isText.f textOk
  rw [mkB_size]
  exact isText_l l hl l 0 rfl

theorem repeat_eq (o : List UInt8) (d : Nat) (ho : o.length ≤ 1048576) (hd : d ≤ 1048576) : strings_Repeat.f (mkB o) (d : Int) = some (mkB (Lib.repeatL o d)) := by
  unfold strings_Repeat.f
  rw [if_pos (by omega), if_pos (by omega), if_pos (by rw [mkB_size]; exact ho), Int.toNat_natCast, mkB_data]
  rfl
theorem repeatL_len (o : List UInt8) (c : Nat) : (Lib.repeatL o c).length = c * o.length := Lib.repeatL_length o c

theorem ce32_ : (⟨#[32]⟩ : ByteArray) = mkB [32] := rfl
def sp (n : Nat) : List UInt8 := Lib.repeatL [32] n
theorem sp_len (n : Nat) : (sp n).length = n := by unfold sp; rw [repeatL_len]; simp
theorem sp_succ (n : Nat) : sp (n + 1) = [32] ++ sp n := rfl
theorem sp_snoc (n : Nat) : sp (n + 1) = sp n ++ [32] := by
  unfold sp
  rw [Lib.repeatL_add, Lib.repeatL_one]
def centreL (l : List UInt8) (w : Int) : List UInt8 := (sp ((w.toNat - l.length) / 2) ++ l) ++ sp ((w.toNat - l.length) - (w.toNat - l.length) / 2)
def centreOk (l : List UInt8) (w : Int) : Bool := textOk l && (decide (1 ≤ w ∧ w ≤ 80) && decide (¬ (l.length : Int) > w))
def centreM (l : List UInt8) (w : Int) : ByteArray × Bool := if centreOk l w = true then (mkB (centreL l w), true) else (⟨#[]⟩, false)
theorem specCentre_l (l : List UInt8) (hl : l.length ≤ 200) (w : Nat) (hw : w ≤ 80) (hlw : l.length ≤ w) : ∀ (d j : Nat), j + d = w - l.length →
    Ev (fun k => spec_CentreText.l0 k (mkB l) (w : Int) (mkB ((sp (j / 2) ++ l) ++ sp (j - j / 2))) (d : Int)) (mkB (centreL l (w : Int)), true) := by
  intro d
  induction d with
  | zero =>
    intro j hj
    refine Ev.step (fun k => spec_CentreText.l0.eq_2 ..) ?_
    refine ev_neg (by omega) (ev_now ?_)
    unfold centreL
    rw [Int.toNat_natCast, show w - l.length = j from by omega]
  | succ d ih =>
    intro j hj
    refine Ev.step (fun k => spec_CentreText.l0.eq_2 ..) ?_
    rw [mkB_size, mkB_size, ce32_, mkB_append, mkB_append, w64 (x := (w : Int) - (l.length : Int)) (by omega) (by omega), w64 (x := (w : Int) - (l.length : Int) - ((d + 1 : Nat) : Int)) (by omega) (by omega), w64 (x := ((d + 1 : Nat) : Int) - 1) (by omega) (by omega), show ((d + 1 : Nat) : Int) - 1 = (d : Int) from by omega, show (w : Int) - (l.length : Int) - ((d + 1 : Nat) : Int) = (j : Int) from by omega]
    have hm : Int.tmod (j : Int) 2 = ((j % 2 : Nat) : Int) := by rw [Int.tmod_eq_emod_of_nonneg (by omega)]; omega
    have hsz : ((sp (j / 2) ++ l) ++ sp (j - j / 2)).length = j + l.length := by simp only [List.length_append, sp_len]; omega
    rw [hm, hsz]
    refine ev_pos (by omega) ?_
    have hn := ih (j + 1) (by omega)
    by_cases c : j % 2 = 0
    · refine ev_pos (by omega) (ev_pos (by omega) ?_)
      rw [show (j + 1) / 2 = j / 2 from by omega, show j + 1 - j / 2 = (j - j / 2) + 1 from by omega, sp_snoc, ← List.append_assoc] at hn
      exact hn
    · refine ev_neg (by omega) (ev_pos (by omega) ?_)
      rw [show (j + 1) / 2 = j / 2 + 1 from by omega, show j + 1 - (j / 2 + 1) = j - j / 2 from by omega, sp_succ] at hn
      have e : [32] ++ (sp (j / 2) ++ l ++ sp (j - j / 2)) = [32] ++ sp (j / 2) ++ l ++ sp (j - j / 2) := by simp
      rw [e]
      exact hn
theorem specCentre_ev (l : List UInt8) (w : Int) (hl : l.length ≤ 1048576) : Ev (fun k => spec_CentreText.f k (mkB l) w) (centreM l w) := by
  have fall : ∀ b : Bool, b = true → centreOk l w = false → Ev (fun k => spec_CentreText.j0 k (mkB l) w b) (centreM l w) := fun b hb hf => by
    refine Ev.step (fun k => spec_CentreText.j0.eq_2 ..) (ev_pos hb (ev_now ?_))
    unfold centreM; rw [hf]; rfl
  have ebk : spec_lnWide.f w = some (decide (1 ≤ w ∧ w ≤ 80)) := by unfold spec_lnWide.f; rw [l1In_eq]; rfl
  unfold spec_CentreText.f
  refine Ev.bind (lnText_ev l hl) ?_
  by_cases h1 : textOk l = true
  · have ht := textOk_true h1
    refine ev_pos h1 (ev_some ebk ?_)
    by_cases h2 : 1 ≤ w ∧ w ≤ 80
    · refine ev_pos (decide_eq_true h2) ?_
      rw [mkB_size]
      by_cases h3 : (l.length : Int) > w
      · exact fall _ (decide_eq_true h3) (by unfold centreOk; rw [decide_eq_false (not_not_intro h3), Bool.and_false, Bool.and_false])
      · have hok : centreOk l w = true := by unfold centreOk; rw [h1, decide_eq_true h2, decide_eq_true h3]; rfl
        refine Ev.step (fun k => spec_CentreText.j0.eq_2 ..) (ev_neg (by rw [decide_eq_false h3]; simp) ?_)
        obtain ⟨n, rfl⟩ : ∃ n : Nat, w = n := ⟨w.toNat, by omega⟩
        rw [mkB_size, w64 (x := (n : Int) - (l.length : Int)) (by omega) (by omega), show (n : Int) - (l.length : Int) = ((n - l.length : Nat) : Int) from by omega]
        have := specCentre_l l (by omega) n (by omega) (by omega) (n - l.length) 0 (by omega)
        have e : (sp (0 / 2) ++ l) ++ sp (0 - 0 / 2) = l := by simp [sp, Lib.repeatL]
        rw [e] at this
        refine ev_val this ?_
        unfold centreM; rw [if_pos hok]
    · exact ev_neg (by rw [decide_eq_false h2]; simp) (fall _ rfl (by unfold centreOk; rw [decide_eq_false h2, Bool.false_and, Bool.and_false]))
  · exact ev_neg h1 (fall _ rfl (by unfold centreOk; rw [Bool.eq_false_iff.2 h1, Bool.false_and]))
theorem implCentre_ev (l : List UInt8) (w : Int) (hl : l.length ≤ 1048576) : Ev (fun k => impl_CentreText.f k (mkB l) w) (centreM l w) := by
  have fall : ∀ b : Bool, b = true → centreOk l w = false → Ev (fun k => impl_CentreText.j0 k (mkB l) w b) (centreM l w) := fun b hb hf => by
    refine Ev.step (fun k => impl_CentreText.j0.eq_2 ..) (ev_pos hb (ev_now ?_))
    unfold centreM; rw [hf]; rfl
  unfold impl_CentreText.f
  refine Ev.bind (isText_ev l hl) ?_
  by_cases h1 : textOk l = true
  · have ht := textOk_true h1
    refine ev_pos h1 (ev_some (within_eq ..) ?_)
    by_cases h2 : 1 ≤ w ∧ w ≤ 80
    · refine ev_pos (decide_eq_true h2) ?_
      rw [mkB_size]
      by_cases h3 : (l.length : Int) > w
      · exact fall _ (decide_eq_true h3) (by unfold centreOk; rw [decide_eq_false (not_not_intro h3), Bool.and_false, Bool.and_false])
      · have hok : centreOk l w = true := by unfold centreOk; rw [h1, decide_eq_true h2, decide_eq_true h3]; rfl
        refine Ev.step (fun k => impl_CentreText.j0.eq_2 ..) (ev_neg (by rw [decide_eq_false h3]; simp) ?_)
        obtain ⟨n, rfl⟩ : ∃ n : Nat, w = n := ⟨w.toNat, by omega⟩
        have e0 : (n : Int) - (l.length : Int) = ((n - l.length : Nat) : Int) := by omega
        have e1 : Int.tdiv ((n - l.length : Nat) : Int) 2 = (((n - l.length) / 2 : Nat) : Int) := by rw [Int.tdiv_eq_ediv_of_nonneg (by omega)]; omega
        have e2 : ((n - l.length : Nat) : Int) - (((n - l.length) / 2 : Nat) : Int) = ((n - l.length - (n - l.length) / 2 : Nat) : Int) := by omega
        rw [mkB_size, w64 (x := (n : Int) - (l.length : Int)) (by omega) (by omega), e0, e1, w64 (x := (((n - l.length) / 2 : Nat) : Int)) (by omega) (by omega), e2, w64 (x := ((n - l.length - (n - l.length) / 2 : Nat) : Int)) (by omega) (by omega), ce32_]
        refine ev_some (repeat_eq [32] ((n - l.length) / 2) (by simp) (by omega)) ?_
        have s1 := sp_len ((n - l.length) / 2)
        have s2 := sp_len (n - l.length - (n - l.length) / 2)
        unfold sp at s1 s2
        rw [mkB_size, mkB_append]
        refine ev_pos (by omega) (ev_some (repeat_eq [32] (n - l.length - (n - l.length) / 2) (by simp) (by omega)) ?_)
        rw [mkB_size, mkB_size, mkB_append]
        refine ev_pos (by rw [List.length_append]; omega) (ev_now ?_)
        unfold centreM centreL sp; rw [if_pos hok, Int.toNat_natCast]
    · exact ev_neg (by rw [decide_eq_false h2]; simp) (fall _ rfl (by unfold centreOk; rw [decide_eq_false h2, Bool.false_and, Bool.and_false]))
  · exact ev_neg h1 (fall _ rfl (by unfold centreOk; rw [Bool.eq_false_iff.2 h1, Bool.false_and]))
theorem FnExactCentreText (a : ByteArray) (w : Int) (_ha : a.size ≤ 140737488351232) : ∃ k, laws_FnExactCentreText.f k a w = some true := by
  refine Ev.rounds ?_
  unfold laws_FnExactCentreText.f
  by_cases h : (a.size : Int) > 1048576
  · exact ev_pos h (ev_now rfl)
  · refine ev_neg h ?_
    have hs : a.data.toList.length = a.size := by rw [Array.length_toList]; rfl
    have hl : a.data.toList.length ≤ 1048576 := by omega
    have e := mkB_eq a
    have h1 := specCentre_ev a.data.toList w hl
    have h2 := implCentre_ev a.data.toList w hl
    rw [e] at h1 h2
    exact Ev.bind h1 (Ev.bind h2 (ev_pos rfl (ev_neg (by simp) (ev_now rfl))))

end Go.Proofs.YtgbnpemoljhamaaDoor.Pure
