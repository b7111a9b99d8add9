/- The law FnExactParseRanges holds for every text: program and reference tell the same ranges. No condition but what the card lists. -/
import Derived.Test.YteolpfmpinbdoaaDoorPFnExactParseRangesx11
namespace Go.Proofs.YteolpfmpinbdoaaDoor.Pure
open Go.RowKit Go.Proofs.YteolpfmpinbdoaaDoor.PFnExactParseRanges Go.Proofs.YteolpfmpinbdoaaDoorW.PrintWords Go.Proofs.YteolpfmpinbdoaaDoorW.PrintLast

theorem w64 {x : Int} (h1 : -9223372036854775808 ≤ x) (h2 : x ≤ 9223372036854775807) : wrap64 x = x := by
  unfold wrap64; omega
theorem ev_pos {α : Type} {c : Prop} [Decidable c] {f g : Nat → Option α} {r : α} (hc : c) (h : Ev f r) : Ev (fun k => if c then f k else g k) r := by
  simpa only [if_pos hc] using h
theorem ev_neg {α : Type} {c : Prop} [Decidable c] {f g : Nat → Option α} {r : α} (hc : ¬ c) (h : Ev g r) : Ev (fun k => if c then f k else g k) r := by
  simpa only [if_neg hc] using h
theorem ev_now {α : Type} {r s : α} (h : r = s) : Ev (fun _ => some r) s := h ▸ Ev.now r
theorem ev_some {α β : Type} {x : Option α} {f : Nat → α → Option β} {a : α} {r : β} (h : x = some a) (k : Ev (fun n => f n a) r) : Ev (fun n => x.bind (f n)) r := by
  subst h; exact k
theorem ev_val {α : Type} {g : Nat → Option α} {a b : α} (h : Ev g a) (e : a = b) : Ev g b := e ▸ h
theorem ev_suc {α : Type} {g : Nat → Option α} {r : α} (h : Ev (fun k => g (k + 1)) r) : Ev g r := Ev.step (fun _ => rfl) h
theorem drop_nil {α : Type} {xs : List α} {i : Int} (h0 : 0 ≤ i) (h : xs.drop i.toNat = []) : (xs.length : Int) ≤ i := by
  have := List.drop_eq_nil_iff.1 h
  omega
theorem drop_get {α : Type} {xs : List α} {i : Int} {y : α} {ys : List α} (h0 : 0 ≤ i) (h : xs.drop i.toNat = y :: ys) : i < (xs.length : Int) ∧ (∀ d, xs.getD i.toNat d = y) ∧ xs.drop (i + 1).toNat = ys ∧ xs.take (i + 1).toNat = xs.take i.toNat ++ [y] := by
  have hl : i.toNat < xs.length := by
    rcases Nat.lt_or_ge i.toNat xs.length with hl | hl
    · exact hl
    · rw [List.drop_eq_nil_iff.2 hl] at h; cases h
  have e := List.drop_eq_getElem_cons hl
  rw [h] at e
  injection e with e1 e2
  have h1 : (i + 1).toNat = i.toNat + 1 := by omega
  refine ⟨by omega, fun d => ?_, ?_, ?_⟩
  · rw [List.getD_eq_getElem?_getD, List.getElem?_eq_getElem hl, e1]; rfl
  · rw [h1]; exact e2.symm
  · rw [h1, List.take_add_one, List.getElem?_eq_getElem hl, e1]; rfl
theorem drop_cons {xs : List Int} {i : Int} {y : Int} {ys : List Int} (h0 : 0 ≤ i) (h : xs.drop i.toNat = y :: ys) : i < (xs.length : Int) ∧ rd xs i = y ∧ xs.drop (i + 1).toNat = ys ∧ xs.take (i + 1).toNat = xs.take i.toNat ++ [y] := by
  obtain ⟨h1, h2, h3⟩ := drop_get h0 h
  exact ⟨h1, h2 0, h3⟩

/-! ### Texts as lists of bytes -/
def mkB (l : List UInt8) : ByteArray := ⟨l.toArray⟩
theorem mkB_data (l : List UInt8) : (mkB l).data.toList = l := by simp [mkB]
theorem mkB_size (l : List UInt8) : (mkB l).size = l.length := by simp [mkB, ByteArray.size]
theorem mkB_eq (s : ByteArray) : mkB s.data.toList = s := by cases s; simp [mkB]
theorem mkB_append (a b : List UInt8) : mkB a ++ mkB b = mkB (a ++ b) := by
  apply ByteArray.ext
  simp [mkB, ByteArray.data_append]
theorem mkB_drop (l : List UInt8) (i : Nat) : (mkB l).extract i (mkB l).size = mkB (l.drop i) := by
  apply ByteArray.ext
  apply Array.toList_inj.1
  rw [mkB_size]
  simp only [mkB, ByteArray.data_extract, List.extract_toArray, List.extract_eq_take_drop]
  rw [List.take_of_length_le (by rw [List.length_drop]; exact Nat.le_refl _)]
theorem mkB_slice (l : List UInt8) (i j : Nat) : (mkB l).extract i j = mkB ((l.take j).drop i) := by
  apply ByteArray.ext
  apply Array.toList_inj.1
  simp [mkB, ByteArray.data_extract, List.drop_take]
theorem mkB_nums (xs : List Int) : strOfNums xs = mkB (xs.map fun n => UInt8.ofNat n.toNat) := rfl
theorem mkB_inj {a b : List UInt8} (h : mkB a = mkB b) : a = b := by
  have := congrArg (fun s => s.data.toList) h
  simpa [mkB] using this
theorem bt_mkB {l : List UInt8} {i : Nat} {x : UInt8} {xs : List UInt8} (h : l.drop i = x :: xs) : bt (mkB l) (i : Int) = (x.toNat : Int) := by
  have hl : i < l.length := by
    rcases Nat.lt_or_ge i l.length with g | g
    · exact g
    · rw [List.drop_eq_nil_iff.2 g] at h; cases h
  have e : l[i] = x := by
    have := List.drop_eq_getElem_cons hl
    rw [h] at this
    injection this with h1 _
    exact h1.symm
  have hs : (i : Int).toNat < (mkB l).size := by rw [Int.toNat_natCast, mkB_size]; exact hl
  rw [← bt_at _ _ hs, ← e]
  rfl
theorem drop_step {α : Type} {l : List α} {i : Nat} {x : α} {xs : List α} (h : l.drop i = x :: xs) : i < l.length ∧ l.drop (i + 1) = xs := by
  have hl : i < l.length := by
    rcases Nat.lt_or_ge i l.length with g | g
    · exact g
    · rw [List.drop_eq_nil_iff.2 g] at h; cases h
  have := List.drop_eq_getElem_cons hl
  rw [h] at this
  injection this with _ h2
  exact ⟨hl, h2.symm⟩

theorem dd_len (n : Nat) : (Lib.decDigits n).length ≤ n + 1 := by
  induction n using Nat.strongRecOn with
  | _ n ih =>
    rw [Lib.decDigits]
    split
    · simp
    · rename_i h
      have := ih (n / 10) (by omega)
      rw [List.length_append]
      simp only [List.length_cons, List.length_nil]
      omega
theorem dd_pos (n : Nat) : 1 ≤ (Lib.decDigits n).length := by
  rw [Lib.decDigits]
  split <;> simp
def decV (l : List UInt8) : Nat := l.foldl (fun a b => a * 10 + (b.toNat - 48)) 0
theorem decV_dd (n : Nat) : decV (Lib.decDigits n) = n := by
  induction n using Nat.strongRecOn with
  | _ n ih =>
    rw [Lib.decDigits]
    split
    · rename_i h
      simp [decV]
      omega
    · rename_i h
      have := ih (n / 10) (by omega)
      unfold decV at this ⊢
      rw [List.foldl_append, this]
      simp
      omega
theorem dd_inj {a b : Nat} (h : Lib.decDigits a = Lib.decDigits b) : a = b := by
  rw [← decV_dd a, ← decV_dd b, h]
theorem dig_eq (x : Nat) (h : x < 200) : UInt8.ofNat ((((x : Nat) : Int) % 256).toNat) = UInt8.ofNat x := by
  congr 1
  omega
theorem l1Num_ev (n : Nat) (hn : n ≤ 1000000000000) : Ev (fun k => spec_l1Num.f k (n : Int)) (mkB (Lib.decDigits n)) := by
  induction n using Nat.strongRecOn with
  | _ n ih =>
    refine Ev.step (fun k => spec_l1Num.f.eq_2 ..) ?_
    by_cases h : n < 10
    · refine ev_pos (by omega) (ev_now ?_)
      rw [w64 (by omega) (by omega), mkB_nums, Lib.decDigits, dif_pos h]
      have := dig_eq (48 + n) (by omega)
      rw [show (((48 + n : Nat) : Nat) : Int) = 48 + (n : Int) from by omega] at this
      show mkB [UInt8.ofNat (((48 + (n : Int)) % 256).toNat)] = _
      rw [this]
    · refine ev_neg (by omega) ?_
      have e1 : Int.tdiv (n : Int) 10 = ((n / 10 : Nat) : Int) := by rw [Int.tdiv_eq_ediv_of_nonneg (by omega)]; omega
      have e2 : Int.tmod (n : Int) 10 = ((n % 10 : Nat) : Int) := by rw [Int.tmod_eq_emod_of_nonneg (by omega)]; omega
      rw [e1, e2, w64 (x := ((n / 10 : Nat) : Int)) (by omega) (by omega), w64 (x := 48 + ((n % 10 : Nat) : Int)) (by omega) (by omega)]
      have hl := dd_len (n / 10)
      have hs : strOfNums [(48 + ((n % 10 : Nat) : Int)) % 256] = mkB [UInt8.ofNat (48 + n % 10)] := by
        rw [mkB_nums]
        have := dig_eq (48 + n % 10) (by omega)
        rw [show (((48 + n % 10 : Nat) : Nat) : Int) = 48 + ((n % 10 : Nat) : Int) from by omega] at this
        show mkB [UInt8.ofNat (((48 + ((n % 10 : Nat) : Int)) % 256).toNat)] = _
        rw [this]
      refine Ev.bind (ih (n / 10) (by omega) (by omega)) (ev_some rfl ?_)
      rw [hs, mkB_size, mkB_size]
      refine ev_pos (by simp only [List.length_cons, List.length_nil]; omega) (ev_now ?_)
      rw [mkB_append, Lib.decDigits.eq_1 n, dif_neg h]
theorem itoa_eq (n : Nat) (hn : n ≤ 1000000000000) : strconv_Itoa.f (n : Int) = some (mkB (Lib.decDigits n)) := by
  unfold strconv_Itoa.f
  rw [if_pos (by omega), if_pos (by omega)]
  unfold Lib.itoa
  rw [if_neg (by omega), Int.toNat_natCast]
  rfl

/-- What stands from the first place on at which the second list parts from the first. -/
def cutAt : List UInt8 → List UInt8 → List UInt8
  | x :: xs, y :: ys => if x = y then cutAt xs ys else y :: ys
  | _, ys => ys
theorem cutAt_len : ∀ (xs ys : List UInt8), (cutAt xs ys).length ≤ ys.length
  | x :: xs, y :: ys => by
    rw [cutAt]
    split
    · have := cutAt_len xs ys; simp only [List.length_cons]; omega
    · exact Nat.le_refl _
  | [], ys => by simp [cutAt]
  | x :: xs, [] => by simp [cutAt]
def shortL (a b : Nat) : List UInt8 :=
  if a = b then Lib.decDigits a else if (Lib.decDigits a).length = (Lib.decDigits b).length then Lib.decDigits a ++ 45 :: cutAt (Lib.decDigits a) (Lib.decDigits b) else Lib.decDigits a ++ 45 :: Lib.decDigits b
theorem shortL_len (a b : Nat) : (shortL a b).length ≤ a + b + 3 := by
  have h1 := dd_len a
  have h2 := dd_len b
  have h3 := cutAt_len (Lib.decDigits a) (Lib.decDigits b)
  unfold shortL
  split
  · omega
  · split <;> simp only [List.length_append, List.length_cons] <;> omega
theorem join45 (f t : List UInt8) : mkB f ++ (⟨#[45]⟩ : ByteArray) ++ mkB t = mkB (f ++ 45 :: t) := by
  have : (⟨#[45]⟩ : ByteArray) = mkB [45] := rfl
  rw [this, mkB_append, mkB_append, List.append_assoc]; rfl
theorem size45 (f : List UInt8) : (mkB f ++ (⟨#[45]⟩ : ByteArray)).size = f.length + 1 := by
  have : (⟨#[45]⟩ : ByteArray) = mkB [45] := rfl
  rw [this, mkB_append, mkB_size]; simp
theorem ixShort_l (f t : List UInt8) (hl : f.length = t.length) (hb : f.length ≤ 1000000) : ∀ (xs ys : List UInt8) (i : Nat), f.drop i = xs → t.drop i = ys → xs ≠ ys →
    Ev (fun k => spec_ixShort.l0 k (mkB f) (mkB t) (i : Int)) (mkB (f ++ 45 :: cutAt xs ys)) := by
  intro xs
  induction xs with
  | nil =>
    intro ys i h1 h2 hne
    have := List.drop_eq_nil_iff.1 h1
    rw [List.drop_eq_nil_iff.2 (by omega)] at h2
    exact absurd h2 hne
  | cons x xs ih =>
    intro ys i h1 h2 hne
    obtain ⟨g1, g2⟩ := drop_step h1
    rcases ys with _ | ⟨y, ys⟩
    · have := List.drop_eq_nil_iff.1 h2
      omega
    obtain ⟨g3, g4⟩ := drop_step h2
    refine Ev.step (fun k => spec_ixShort.l0.eq_2 ..) ?_
    rw [bt_mkB h1, bt_mkB h2, mkB_size, mkB_size, w64 (x := (i : Int) + 1) (by omega) (by omega), size45, Int.toNat_natCast]
    have e0 : (mkB t).extract i t.length = mkB (y :: ys) := by have := mkB_drop t i; rw [mkB_size] at this; rw [this, h2]
    rw [e0, mkB_size, join45]
    refine ev_pos (by omega) (ev_pos (by omega) (ev_pos (by omega) ?_))
    have hyl : (y :: ys).length ≤ t.length := by rw [← h2, List.length_drop]; omega
    by_cases c : x = y
    · subst c
      refine ev_pos rfl ?_
      have := ih ys (i + 1) g2 g4 (fun e => hne (by rw [e]))
      rw [show ((i + 1 : Nat) : Int) = (i : Int) + 1 from by omega] at this
      exact ev_val this (by rw [cutAt, if_pos rfl])
    · have hc : ¬ ((x.toNat : Int) = (y.toNat : Int)) := fun e => c (UInt8.toNat_inj.1 (by omega))
      refine ev_neg hc (ev_pos (by omega) (ev_pos (by omega) (ev_pos (by omega) (ev_now ?_))))
      rw [cutAt, if_neg c]
theorem implShort_l (f t : List UInt8) (hl : f.length = t.length) (hb : f.length ≤ 1000000) : ∀ (xs ys : List UInt8) (i : Nat), f.drop i = xs → t.drop i = ys → xs ≠ ys →
    Ev (fun k => impl_shortRange.l0 k (mkB f) (mkB t) (i : Int)) (mkB (f ++ 45 :: cutAt xs ys)) := by
  intro xs
  induction xs with
  | nil =>
    intro ys i h1 h2 hne
    have := List.drop_eq_nil_iff.1 h1
    rw [List.drop_eq_nil_iff.2 (by omega)] at h2
    exact absurd h2 hne
  | cons x xs ih =>
    intro ys i h1 h2 hne
    obtain ⟨g1, g2⟩ := drop_step h1
    rcases ys with _ | ⟨y, ys⟩
    · have := List.drop_eq_nil_iff.1 h2
      omega
    obtain ⟨g3, g4⟩ := drop_step h2
    refine Ev.step (fun k => impl_shortRange.l0.eq_2 ..) ?_
    rw [bt_mkB h1, bt_mkB h2, mkB_size, mkB_size, w64 (x := (i : Int) + 1) (by omega) (by omega), size45, Int.toNat_natCast]
    have e0 : (mkB t).extract i t.length = mkB (y :: ys) := by have := mkB_drop t i; rw [mkB_size] at this; rw [this, h2]
    rw [e0, mkB_size, join45]
    refine ev_pos (by omega) (ev_pos (by omega) (ev_pos (by omega) (ev_pos (by omega) ?_)))
    have hyl : (y :: ys).length ≤ t.length := by rw [← h2, List.length_drop]; omega
    by_cases c : x = y
    · subst c
      refine ev_pos rfl ?_
      have := ih ys (i + 1) g2 g4 (fun e => hne (by rw [e]))
      rw [show ((i + 1 : Nat) : Int) = (i : Int) + 1 from by omega] at this
      exact ev_val this (by rw [cutAt, if_pos rfl])
    · have hc : ¬ ((x.toNat : Int) = (y.toNat : Int)) := fun e => c (UInt8.toNat_inj.1 (by omega))
      refine ev_neg hc (ev_pos (by omega) (ev_pos (by omega) (ev_pos (by omega) (ev_now ?_))))
      rw [cutAt, if_neg c]
theorem specShort_ev (a b : Nat) (ha : a ≤ 100000) (hb : b ≤ 100000) : Ev (fun k => spec_ixShort.f k (a : Int) (b : Int)) (mkB (shortL a b)) := by
  have h1 := dd_len a
  have h2 := dd_len b
  unfold spec_ixShort.f shortL
  refine Ev.bind (l1Num_ev a (by omega)) (Ev.bind (l1Num_ev b (by omega)) ?_)
  rw [mkB_size, mkB_size, size45, join45]
  by_cases c : a = b
  · rw [if_pos c]
    exact ev_pos (by omega) (ev_now rfl)
  · rw [if_neg c]
    refine ev_neg (by omega) ?_
    by_cases d : (Lib.decDigits a).length = (Lib.decDigits b).length
    · rw [if_pos d]
      exact ev_pos (by omega) (ixShort_l _ _ d (by omega) _ _ 0 rfl rfl (fun e => c (dd_inj e)))
    · rw [if_neg d]
      exact ev_neg (by omega) (ev_pos (by omega) (ev_pos (by omega) (ev_now rfl)))
theorem implShort_ev (a b : Nat) (ha : a ≤ 100000) (hb : b ≤ 100000) : Ev (fun k => impl_shortRange.f k (a : Int) (b : Int)) (mkB (shortL a b)) := by
  have h1 := dd_len a
  have h2 := dd_len b
  unfold impl_shortRange.f shortL
  refine ev_some (itoa_eq a (by omega)) (ev_some (itoa_eq b (by omega)) ?_)
  by_cases c : a = b
  · rw [if_pos c]
    exact ev_pos (by omega) (ev_now rfl)
  · rw [if_neg c]
    refine ev_neg (by omega) ?_
    by_cases d : (Lib.decDigits a).length = (Lib.decDigits b).length
    · rw [if_pos d]
      exact implShort_l _ _ d (by omega) _ _ 0 rfl rfl (fun e => c (dd_inj e))
    · rw [if_neg d]
      refine Ev.step (fun k => impl_shortRange.l0.eq_2 ..) ?_
      have e0 : (mkB (Lib.decDigits b)).extract 0 (Lib.decDigits b).length = mkB (Lib.decDigits b) := by have := mkB_drop (Lib.decDigits b) 0; rw [mkB_size] at this; rw [this]; rfl
      rw [mkB_size, mkB_size, size45, show ((0 : Int)).toNat = 0 from rfl, e0, mkB_size, join45]
      exact ev_neg (by omega) (ev_pos (by omega) (ev_pos (by omega) (ev_pos (by omega) (ev_pos (by omega) (ev_now rfl)))))

def headOn (x : UInt8) : List (List UInt8) → List (List UInt8)
  | p :: ps => (x :: p) :: ps
  | [] => [[x]]
/-- The parts of a text between a byte's places. -/
def parts (c : UInt8) : List UInt8 → List (List UInt8)
  | [] => [[]]
  | x :: xs => if x = c then [] :: parts c xs else headOn x (parts c xs)
def glue (cur : List UInt8) : List (List UInt8) → List (List UInt8)
  | p :: ps => (cur ++ p) :: ps
  | [] => [cur]
theorem headOn_length (x : UInt8) (ps : List (List UInt8)) (h : ps ≠ []) : (headOn x ps).length = ps.length := by
  cases ps with
  | nil => exact absurd rfl h
  | cons p ps => rfl
theorem parts_ne (c : UInt8) (l : List UInt8) : parts c l ≠ [] := by
  cases l with
  | nil => simp [parts]
  | cons x xs =>
    rw [parts]
    split
    · simp
    · cases parts c xs <;> simp [headOn]
theorem parts_length (c : UInt8) : ∀ (l : List UInt8), (parts c l).length ≤ l.length + 1
  | [] => by simp [parts]
  | x :: xs => by
    have := parts_length c xs
    rw [parts]
    split
    · simp only [List.length_cons]; omega
    · rw [headOn_length x _ (parts_ne c xs)]; simp only [List.length_cons]; omega
theorem parts_part_len (c : UInt8) : ∀ (l : List UInt8), ∀ p ∈ parts c l, p.length ≤ l.length
  | [], p, h => by simp [parts] at h; subst h; simp
  | x :: xs, p, h => by
    rw [parts] at h
    split at h
    · rcases List.mem_cons.1 h with rfl | h
      · simp
      · have := parts_part_len c xs p h; simp only [List.length_cons]; omega
    · have hne := parts_ne c xs
      rcases hp : parts c xs with _ | ⟨q, qs⟩
      · exact absurd hp hne
      · rw [hp] at h
        rcases List.mem_cons.1 h with rfl | h
        · have := parts_part_len c xs q (by rw [hp]; exact List.mem_cons_self)
          simp only [List.length_cons]; omega
        · have := parts_part_len c xs p (by rw [hp]; exact List.mem_cons_of_mem _ h)
          simp only [List.length_cons]; omega
theorem glue_nil (ps : List (List UInt8)) (h : ps ≠ []) : glue [] ps = ps := by
  cases ps with
  | nil => exact absurd rfl h
  | cons p ps => rfl
theorem glue_head (cur : List UInt8) (x : UInt8) (ps : List (List UInt8)) : glue (cur ++ [x]) ps = glue cur (headOn x ps) := by
  cases ps with
  | nil => rfl
  | cons p ps => simp [glue, headOn]

theorem l1In_eq (a lo hi : Int) : spec_l1In.f a lo hi = some (decide (lo ≤ a ∧ a ≤ hi)) := by
  unfold spec_l1In.f
  by_cases h : a ≥ lo
  · rw [if_pos h]; congr 1; simp [show lo ≤ a from h]
  · rw [if_neg h]; congr 1; simp; omega

/-! ### Numerals read, and the range of a text -/
theorem dd_digit (n : Nat) : ∀ x ∈ Lib.decDigits n, 48 ≤ x.toNat ∧ x.toNat ≤ 57 := by
  induction n using Nat.strongRecOn with
  | _ n ih =>
    intro x hx
    rw [Lib.decDigits] at hx
    split at hx
    · rename_i h
      rw [List.mem_singleton] at hx
      subst hx
      rw [UInt8.toNat_ofNat']
      omega
    · rename_i h
      rcases List.mem_append.1 hx with hx | hx
      · exact ih (n / 10) (by omega) x hx
      · rw [List.mem_singleton] at hx
        subst hx
        rw [UInt8.toNat_ofNat']
        omega
theorem dd_no45 (n : Nat) : (45 : UInt8) ∉ Lib.decDigits n := fun h => by
  have := dd_digit n 45 h
  have e : (45 : UInt8).toNat = 45 := rfl
  omega
theorem dd_cons (n : Nat) (h : ¬ n < 10) : Lib.decDigits n = Lib.decDigits (n / 10) ++ [UInt8.ofNat (48 + n % 10)] := by rw [Lib.decDigits.eq_1 n, dif_neg h]
theorem dd_small (k n : Nat) (h : n < 10 ^ (k + 1)) : (Lib.decDigits n).length ≤ k + 1 := by
  induction k generalizing n with
  | zero => rw [Lib.decDigits, dif_pos (by omega)]; simp
  | succ k ih =>
    by_cases c : n < 10
    · rw [Lib.decDigits, dif_pos c]; simp
    · rw [dd_cons n c, List.length_append, List.length_singleton]
      have := ih (n / 10) (by rw [Nat.pow_succ] at h; omega)
      omega
theorem dd_mono (a b : Nat) (h : a ≤ b) : (Lib.decDigits a).length ≤ (Lib.decDigits b).length := by
  induction a using Nat.strongRecOn generalizing b with
  | _ a ih =>
    by_cases c : a < 10
    · have := dd_pos b
      rw [Lib.decDigits, dif_pos c]
      simp only [List.length_singleton]
      omega
    · rw [dd_cons a c, dd_cons b (by omega), List.length_append, List.length_append]
      have := ih (a / 10) (by omega) (b / 10) (by omega)
      simp only [List.length_singleton]
      omega
theorem dd_head (n : Nat) (h : 1 ≤ n) : ∃ x xs, Lib.decDigits n = x :: xs ∧ 49 ≤ x.toNat := by
  induction n using Nat.strongRecOn with
  | _ n ih =>
    by_cases c : n < 10
    · refine ⟨UInt8.ofNat (48 + n), [], by rw [Lib.decDigits, dif_pos c], ?_⟩
      rw [UInt8.toNat_ofNat']
      omega
    · obtain ⟨x, xs, e, hx⟩ := ih (n / 10) (by omega) (by omega)
      exact ⟨x, xs ++ [UInt8.ofNat (48 + n % 10)], by rw [dd_cons n c, e]; rfl, hx⟩
def readFrom : Int → List UInt8 → Int
  | a, [] => a
  | a, c :: r => if c.toNat < 48 then -1 else (if c.toNat > 57 then -1 else readFrom (10 * a + ((c.toNat : Int) - 48)) r)
theorem readFrom_digits : ∀ (l : List UInt8) (a : Nat), (∀ x ∈ l, 48 ≤ x.toNat ∧ x.toNat ≤ 57) → readFrom (a : Int) l = ((l.foldl (fun a b => a * 10 + (b.toNat - 48)) a : Nat) : Int)
  | [], _, _ => rfl
  | c :: r, a, h => by
    have hc := h c List.mem_cons_self
    rw [readFrom, if_neg (by omega), if_neg (by omega), List.foldl_cons, ← readFrom_digits r _ (fun x hx => h x (List.mem_cons_of_mem _ hx))]
    congr 1
    omega
def readV (l : List UInt8) : Int := if 1 ≤ l.length ∧ l.length ≤ 6 then (if l.head? = some 48 ∧ l.length > 1 then -1 else readFrom 0 l) else -1
theorem readV_dd (n : Nat) (h : 1 ≤ n ∧ n ≤ 2000) : readV (Lib.decDigits n) = n := by
  have hl := dd_small 3 n (by omega)
  have hp := dd_pos n
  obtain ⟨x, xs, e, hx⟩ := dd_head n h.1
  unfold readV
  rw [if_pos (by omega), if_neg]
  · have := readFrom_digits (Lib.decDigits n) 0 (dd_digit n)
    have e2 : ((Lib.decDigits n).foldl (fun a b => a * 10 + (b.toNat - 48)) 0) = n := decV_dd n
    rw [e2] at this
    exact this
  · rw [e]
    intro hh
    have := hh.1
    simp only [List.head?_cons, Option.some.injEq] at this
    subst this
    have e3 : (48 : UInt8).toNat = 48 := rfl
    omega
theorem readFrom_bd : ∀ (l : List UInt8) (a : Int) (k : Nat), 0 ≤ a → a < 10 ^ k → l.length + k ≤ 9 → -1 ≤ readFrom a l ∧ readFrom a l ≤ 1000000000
  | [], a, k, h0, h1, h2 => by
    have : (10 : Int) ^ k ≤ 10 ^ 9 := by
      have := Nat.pow_le_pow_right (n := 10) (by omega) (show k ≤ 9 by simp at h2; omega)
      exact_mod_cast this
    rw [readFrom]
    have e : (10 : Int) ^ 9 = 1000000000 := by decide
    omega
  | c :: r, a, k, h0, h1, h2 => by
    rw [readFrom]
    split
    · omega
    · split
      · omega
      · refine readFrom_bd r _ (k + 1) (by omega) ?_ (by simp only [List.length_cons] at h2; omega)
        rw [Int.pow_succ]
        omega
theorem l1Read_l (l : List UInt8) (hl : l.length ≤ 6) : ∀ (ys : List UInt8) (i : Nat) (a : Int) (k : Nat), l.drop i = ys → 0 ≤ a → a < 10 ^ k → ys.length + k ≤ 9 →
    Ev (fun k => spec_l1Read.l0 k (mkB l) a (i : Int)) (readFrom a ys) := by
  intro ys
  induction ys with
  | nil =>
    intro i a k h _ _ _
    have := List.drop_eq_nil_iff.1 h
    refine Ev.step (fun k => spec_l1Read.l0.eq_2 ..) ?_
    rw [mkB_size]
    exact ev_neg (by omega) (ev_now rfl)
  | cons y ys ih =>
    intro i a k h h0 h1 h2
    obtain ⟨g1, g2⟩ := drop_step h
    simp only [List.length_cons] at h2
    have hy := y.toNat_lt
    have hk : (10 : Int) ^ k ≤ 10 ^ 9 := by
      have := Nat.pow_le_pow_right (n := 10) (by omega) (show k ≤ 9 by omega)
      exact_mod_cast this
    have e9 : (10 : Int) ^ 9 = 1000000000 := by decide
    refine Ev.step (fun k => spec_l1Read.l0.eq_2 ..) ?_
    rw [bt_mkB h, mkB_size, readFrom, w64 (x := (i : Int) + 1) (by omega) (by omega), w64 (x := 10 * a) (by omega) (by omega)]
    refine ev_pos (by omega) (ev_pos (by omega) ?_)
    by_cases c1 : y.toNat < 48
    · rw [if_pos c1]; exact ev_pos (by omega) (ev_now rfl)
    · rw [if_neg c1]
      by_cases c2 : y.toNat > 57
      · rw [if_pos c2]; exact ev_neg (by omega) (ev_pos (by omega) (ev_now rfl))
      · rw [if_neg c2]
        refine ev_neg (by omega) (ev_neg (by omega) ?_)
        rw [w64 (x := 10 * a + (((y.toNat : Int) - 48) % 256)) (by omega) (by omega), show ((y.toNat : Int) - 48) % 256 = (y.toNat : Int) - 48 from by omega, show (i : Int) + 1 = ((i + 1 : Nat) : Int) from by omega]
        refine ih (i + 1) _ (k + 1) g2 (by omega) ?_ (by omega)
        rw [Int.pow_succ]
        omega
theorem l1Read_ev (l : List UInt8) : Ev (fun k => spec_l1Read.f k (mkB l)) (readV l) := by
  unfold spec_l1Read.f readV
  rw [mkB_size]
  refine ev_some (l1In_eq ..) ?_
  by_cases h : 1 ≤ l.length ∧ l.length ≤ 6
  · rw [if_pos h]
    obtain ⟨x, xs, hx⟩ : ∃ x xs, l = x :: xs := by
      rcases l with _ | ⟨x, xs⟩
      · simp at h
      · exact ⟨x, xs, rfl⟩
    have hb : bt (mkB l) 0 = (x.toNat : Int) := bt_mkB (i := 0) (by rw [List.drop_zero]; exact hx)
    have hrun : Ev (fun k => spec_l1Read.j0 k (mkB l) false) (readFrom 0 l) := Ev.step (fun k => spec_l1Read.j0.eq_2 ..) (ev_neg (by simp) (l1Read_l l (by omega) l 0 0 0 rfl (by omega) (by decide) (by omega)))
    refine ev_pos (decide_eq_true (by omega)) (ev_pos (by omega) ?_)
    rw [hb]
    by_cases c : x.toNat = 48
    · have hx48 : x = 48 := UInt8.toNat_inj.1 c
      refine ev_pos (by omega) ?_
      by_cases d : l.length > 1
      · rw [if_pos ⟨by rw [hx, hx48]; rfl, d⟩]
        exact Ev.step (fun k => spec_l1Read.j0.eq_2 ..) (ev_pos (decide_eq_true (by omega)) (ev_now rfl))
      · rw [if_neg (fun hh => d hh.2)]
        have e : decide ((l.length : Int) > 1) = false := decide_eq_false (by omega)
        rw [e]; exact hrun
    · rw [if_neg (fun hh => by
        have := hh.1
        rw [hx] at this
        simp only [List.head?_cons, Option.some.injEq] at this
        subst this
        exact c rfl)]
      exact ev_neg (by omega) hrun
  · rw [if_neg h]
    exact ev_neg (by rw [decide_eq_false (by omega)]; simp) (Ev.step (fun k => spec_l1Read.j0.eq_2 ..) (ev_pos rfl (ev_now rfl)))
theorem readV_bd (l : List UInt8) : -1 ≤ readV l ∧ readV l ≤ 1000000000 := by
  unfold readV
  split
  · split
    · omega
    · exact readFrom_bd l 0 0 (by omega) (by decide) (by omega)
  · omega
theorem parts_no (c : UInt8) : ∀ (l : List UInt8), c ∉ l → parts c l = [l]
  | [], _ => rfl
  | x :: xs, h => by
    simp only [List.mem_cons, not_or] at h
    rw [parts, if_neg (Ne.symm h.1), parts_no c xs h.2]
    rfl
theorem parts_two (c : UInt8) : ∀ (l r : List UInt8), c ∉ l → parts c (l ++ c :: r) = l :: parts c r
  | [], r, _ => by rw [List.nil_append, parts, if_pos rfl]
  | x :: xs, r, h => by
    simp only [List.mem_cons, not_or] at h
    rw [List.cons_append, parts, if_neg (Ne.symm h.1), parts_two c xs r h.2]
    rfl
theorem idx_cons_ (x c : UInt8) (xs : List UInt8) (h : x ≠ c) : Lib.index (x :: xs) [c] = if Lib.index xs [c] == -1 then -1 else Lib.index xs [c] + 1 := by
  have hp : ([c] : List UInt8).isPrefixOf (x :: xs) = false := by simp [List.isPrefixOf, Ne.symm h]
  rw [Lib.index, hp]; simp
theorem idx_head_ (c : UInt8) (xs : List UInt8) : Lib.index (c :: xs) [c] = 0 := by rw [Lib.index]; simp [List.isPrefixOf]
theorem decFrom_digits : ∀ (l : List UInt8) (a : Nat), (∀ x ∈ l, 48 ≤ x.toNat ∧ x.toNat ≤ 57) → Lib.decFrom a l = some (l.foldl (fun a b => a * 10 + (b.toNat - 48)) a)
  | [], _, _ => rfl
  | c :: r, a, h => by
    have hc := h c List.mem_cons_self
    rw [Lib.decFrom, Lib.digitVal, if_pos hc, List.foldl_cons, ← decFrom_digits r _ (fun x hx => h x (List.mem_cons_of_mem _ hx))]
theorem atoiE_dd (n : Nat) (h : 1 ≤ n ∧ n ≤ 2000) : atoiE (mkB (Lib.decDigits n)) = some (n : Int) := by
  have hl := dd_small 3 n (by omega)
  obtain ⟨x, xs, e, hx⟩ := dd_head n h.1
  have hd := dd_digit n x (by rw [e]; exact List.mem_cons_self)
  have h1 : Lib.decNat (Lib.decDigits n) = some n := by
    unfold Lib.decNat
    rw [if_neg (by rw [e]; simp), decFrom_digits _ _ (dd_digit n)]
    exact congrArg some (decV_dd n)
  have h2 : Lib.atoi (Lib.decDigits n) = some (n : Int) := by
    have h45 : (x == 45) = false := by
      rw [beq_eq_false_iff_ne]
      intro hh; subst hh
      have e3 : (45 : UInt8).toNat = 45 := rfl
      omega
    have h43 : (x == 43) = false := by
      rw [beq_eq_false_iff_ne]
      intro hh; subst hh
      have e3 : (43 : UInt8).toNat = 43 := rfl
      omega
    rw [e]
    simp only [Lib.atoi, h45, h43, Bool.false_eq_true, if_false]
    rw [← e, h1]; rfl
  unfold atoiE
  rw [mkB_data, Lib.atoiAll_short _ (by omega), h2]
  rfl
theorem tol_mkB (l : List UInt8) : (mkB l).toList = l := by rw [ByteArray.toList_eq, mkB_data]

theorem cutAt_take : ∀ (xs ys : List UInt8), xs.length = ys.length → xs.take (xs.length - (cutAt xs ys).length) ++ cutAt xs ys = ys
  | [], [], _ => rfl
  | [], y :: ys, h => by simp at h
  | x :: xs, [], h => by simp at h
  | x :: xs, y :: ys, h => by
    have hl : xs.length = ys.length := by simpa using h
    have hc := cutAt_len xs ys
    rw [cutAt]
    by_cases c : x = y
    · subst c
      rw [if_pos rfl, List.length_cons, show xs.length + 1 - (cutAt xs ys).length = (xs.length - (cutAt xs ys).length) + 1 from by omega, List.take_succ_cons, List.cons_append, cutAt_take xs ys hl]
    · rw [if_neg c, List.length_cons, List.length_cons, show xs.length + 1 - (ys.length + 1) = 0 from by omega, List.take_zero, List.nil_append]
theorem cutAt_mem : ∀ (xs ys : List UInt8), ∀ z ∈ cutAt xs ys, z ∈ ys
  | [], ys, z, h => by simpa [cutAt] using h
  | x :: xs, [], z, h => by simp [cutAt] at h
  | x :: xs, y :: ys, z, h => by
    rw [cutAt] at h
    split at h
    · exact List.mem_cons_of_mem _ (cutAt_mem xs ys z h)
    · exact h
def toL (f e : List UInt8) : List UInt8 := if e.length < f.length then f.take (f.length - e.length) ++ e else e
/-- What stands behind the sign in a short text. -/
def endL (a b : Nat) : List UInt8 := if (Lib.decDigits a).length = (Lib.decDigits b).length then cutAt (Lib.decDigits a) (Lib.decDigits b) else Lib.decDigits b
theorem toL_end (a b : Nat) (h : a ≤ b) : toL (Lib.decDigits a) (endL a b) = Lib.decDigits b := by
  have hm := dd_mono a b h
  unfold toL endL
  by_cases d : (Lib.decDigits a).length = (Lib.decDigits b).length
  · have ht := cutAt_take _ _ d
    rw [if_pos d]
    split
    · exact ht
    · rename_i c
      rw [show (Lib.decDigits a).length - (cutAt (Lib.decDigits a) (Lib.decDigits b)).length = 0 from by omega] at ht
      simpa using ht
  · rw [if_neg d, if_neg (by omega)]
theorem end_no45 (a b : Nat) : (45 : UInt8) ∉ endL a b := fun h => by
  unfold endL at h
  split at h
  · exact dd_no45 b (cutAt_mem _ _ _ h)
  · exact dd_no45 b h
theorem shortL_eq (a b : Nat) : shortL a b = if a = b then Lib.decDigits a else Lib.decDigits a ++ 45 :: endL a b := by
  unfold shortL endL
  split
  · rfl
  · split <;> rfl
theorem index_no (c : UInt8) : ∀ (l : List UInt8), c ∉ l → Lib.index l [c] = -1
  | [], _ => by simp [Lib.index]
  | x :: xs, h => by
    simp only [List.mem_cons, not_or] at h
    rw [idx_cons_ x c xs (Ne.symm h.1), index_no c xs h.2]; rfl
theorem index_two (c : UInt8) : ∀ (l r : List UInt8), c ∉ l → Lib.index (l ++ c :: r) [c] = l.length
  | [], r, _ => idx_head_ c r
  | x :: xs, r, h => by
    simp only [List.mem_cons, not_or] at h
    rw [List.cons_append, idx_cons_ x c _ (Ne.symm h.1), index_two c xs r h.2]
    have e : (((xs.length : Nat) : Int) == -1) = false := by simp
    rw [e, List.length_cons]
    simp
theorem cut_no (c : UInt8) (l : List UInt8) (h : c ∉ l) : Lib.cut l [c] = (l, [], false) := by
  unfold Lib.cut
  rw [index_no c l h, if_neg (by omega)]
theorem cut_two (c : UInt8) (l r : List UInt8) (h : c ∉ l) : Lib.cut (l ++ c :: r) [c] = (l, r, true) := by
  unfold Lib.cut
  rw [index_two c l r h, if_pos (by omega), Int.toNat_natCast, List.take_left' rfl, List.length_singleton]
  have e : (l ++ c :: r).drop (l.length + 1) = r := by rw [show l ++ c :: r = (l ++ [c]) ++ r from by simp, List.drop_left' (by simp)]
  rw [e]
def isR2 (a b : Int) : Bool := decide (1 ≤ a ∧ a ≤ 2000) && decide (a ≤ b ∧ b ≤ 2000)
theorem isR2_true {a b : Int} (h : isR2 a b = true) : 1 ≤ a ∧ a ≤ 2000 ∧ a ≤ b ∧ b ≤ 2000 := by
  simp only [isR2, Bool.and_eq_true, decide_eq_true_eq] at h; omega
def finishS (l : List UInt8) (x y : Int) : Int × Int × Bool := if isR2 x y = true then (if shortL x.toNat y.toNat = l then (x, y, true) else (0, 0, false)) else (0, 0, false)
theorem finishS_or (l : List UInt8) (x y : Int) : finishS l x y = (0, 0, false) ∨ ∃ a b : Nat, (1 ≤ a ∧ a ≤ b ∧ b ≤ 2000) ∧ shortL a b = l ∧ finishS l x y = ((a : Int), (b : Int), true) := by
  unfold finishS
  by_cases h : isR2 x y = true
  · have hh := isR2_true h
    rw [if_pos h]
    by_cases c : shortL x.toNat y.toNat = l
    · rw [if_pos c]
      exact Or.inr ⟨x.toNat, y.toNat, by omega, c, by rw [Int.toNat_of_nonneg (by omega), Int.toNat_of_nonneg (by omega)]⟩
    · rw [if_neg c]; exact Or.inl rfl
  · rw [if_neg h]; exact Or.inl rfl
theorem finishS_ok (a b : Nat) (h : 1 ≤ a ∧ a ≤ b ∧ b ≤ 2000) : finishS (shortL a b) (a : Int) (b : Int) = ((a : Int), (b : Int), true) := by
  unfold finishS
  rw [if_pos (by unfold isR2; rw [decide_eq_true (by omega), decide_eq_true (by omega)]; rfl), Int.toNat_natCast, Int.toNat_natCast, if_pos rfl]
def specM (l : List UInt8) : Int × Int × Bool := if l.length ≤ 9 then (match parts 45 l with
  | [f] => finishS l (readV f) (readV f)
  | [f, e] => finishS l (readV f) (readV (toL f e))
  | _ => (0, 0, false)) else (0, 0, false)
def ttL (c : List UInt8 × List UInt8 × Bool) : List UInt8 := if c.2.2 = true then toL c.1 c.2.1 else c.1
def implM (l : List UInt8) : Int × Int × Bool := match atoiE (mkB (Lib.cut l [45]).1) with
  | none => (0, 0, false)
  | some a => match atoiE (mkB (ttL (Lib.cut l [45]))) with
    | none => (0, 0, false)
    | some b => finishS l a b
theorem specM_or (l : List UInt8) : specM l = (0, 0, false) ∨ ∃ a b : Nat, (1 ≤ a ∧ a ≤ b ∧ b ≤ 2000) ∧ shortL a b = l ∧ specM l = ((a : Int), (b : Int), true) := by
  unfold specM
  split
  · split
    · exact finishS_or ..
    · exact finishS_or ..
    · exact Or.inl rfl
  · exact Or.inl rfl
theorem implM_or (l : List UInt8) : implM l = (0, 0, false) ∨ ∃ a b : Nat, (1 ≤ a ∧ a ≤ b ∧ b ≤ 2000) ∧ shortL a b = l ∧ implM l = ((a : Int), (b : Int), true) := by
  unfold implM
  split
  · exact Or.inl rfl
  · split
    · exact Or.inl rfl
    · exact finishS_or ..
theorem endL_len (a b : Nat) : (endL a b).length ≤ (Lib.decDigits b).length := by
  unfold endL
  split
  · exact cutAt_len ..
  · exact Nat.le_refl _
theorem specM_ok (a b : Nat) (h : 1 ≤ a ∧ a ≤ b ∧ b ≤ 2000) : specM (shortL a b) = ((a : Int), (b : Int), true) := by
  have ha := dd_small 3 a (by omega)
  have hb := dd_small 3 b (by omega)
  have he := endL_len a b
  have hf := finishS_ok a b h
  have ra := readV_dd a (by omega)
  have rb := readV_dd b (by omega)
  have hl : (shortL a b).length ≤ 9 := by
    rw [shortL_eq]
    split
    · omega
    · simp only [List.length_append, List.length_cons]; omega
  have hp : parts 45 (shortL a b) = if a = b then [Lib.decDigits a] else [Lib.decDigits a, endL a b] := by
    rw [shortL_eq]
    split
    · exact parts_no 45 _ (dd_no45 a)
    · rw [parts_two 45 _ _ (dd_no45 a), parts_no 45 _ (end_no45 a b)]
  unfold specM
  rw [if_pos hl, hp]
  by_cases c : a = b
  · rw [if_pos c]
    subst c
    show finishS _ (readV (Lib.decDigits a)) (readV (Lib.decDigits a)) = _
    rw [ra]; exact hf
  · rw [if_neg c]
    show finishS _ (readV (Lib.decDigits a)) (readV (toL (Lib.decDigits a) (endL a b))) = _
    rw [toL_end a b h.2.1, ra, rb]; exact hf
theorem implM_ok (a b : Nat) (h : 1 ≤ a ∧ a ≤ b ∧ b ≤ 2000) : implM (shortL a b) = ((a : Int), (b : Int), true) := by
  have hf := finishS_ok a b h
  have ra := atoiE_dd a (by omega)
  have rb := atoiE_dd b (by omega)
  have hc : Lib.cut (shortL a b) [45] = if a = b then (Lib.decDigits a, [], false) else (Lib.decDigits a, endL a b, true) := by
    rw [shortL_eq]
    split
    · exact cut_no 45 _ (dd_no45 a)
    · exact cut_two 45 _ _ (dd_no45 a)
  have h1 : (Lib.cut (shortL a b) [45]).1 = Lib.decDigits a := by rw [hc]; split <;> rfl
  have h2 : ttL (Lib.cut (shortL a b) [45]) = Lib.decDigits b := by
    rw [hc]
    by_cases c : a = b
    · rw [if_pos c, c]; rfl
    · rw [if_neg c]; exact toL_end a b h.2.1
  unfold implM
  rw [h1, h2, ra, rb]
  exact hf
theorem implM_eq (l : List UInt8) : implM l = specM l := by
  rcases specM_or l with h | ⟨a, b, h1, h2, h3⟩
  · rcases implM_or l with g | ⟨a, b, h1, h2, h3⟩
    · rw [h, g]
    · rw [← h2, specM_ok a b h1, implM_ok a b h1]
  · rw [← h2, specM_ok a b h1, implM_ok a b h1]

theorem l1Split_l (c : UInt8) (l : List UInt8) (hl : l.length ≤ 2000000) : ∀ (ys : List UInt8) (i frm : Nat) (acc : List ByteArray), l.drop i = ys → i ≤ l.length → frm ≤ i → acc.length + ys.length ≤ 2000000 →
    Ev (fun k => spec_l1Split.l0 k (mkB l) (c.toNat : Int) acc (frm : Int) (i : Int)) (acc ++ (glue ((l.take i).drop frm) (parts c ys)).map mkB) := by
  intro ys
  induction ys with
  | nil =>
    intro i frm acc h hi hf ha
    have := List.drop_eq_nil_iff.1 h
    refine Ev.step (fun k => spec_l1Split.l0.eq_2 ..) ?_
    rw [mkB_size, Int.toNat_natCast]
    have e0 : (mkB l).extract frm l.length = mkB (l.drop frm) := by have := mkB_drop l frm; rw [mkB_size] at this; exact this
    rw [e0]
    refine ev_neg (by omega) (ev_pos (by omega) (ev_pos (by omega) (ev_pos (by simp only [List.length_nil] at ha; omega) (ev_now ?_))))
    rw [parts, glue, List.take_of_length_le (by omega)]
    simp
  | cons y ys ih =>
    intro i frm acc h hi hf ha
    obtain ⟨g1, g2⟩ := drop_step h
    simp only [List.length_cons] at ha
    refine Ev.step (fun k => spec_l1Split.l0.eq_2 ..) ?_
    rw [bt_mkB h, mkB_size, w64 (x := (i : Int) + 1) (by omega) (by omega), Int.toNat_natCast, Int.toNat_natCast, mkB_slice, show (i : Int) + 1 = ((i + 1 : Nat) : Int) from by omega]
    refine ev_pos (by omega) (ev_pos (by omega) ?_)
    have htk : (l.take (i + 1)).drop frm = (l.take i).drop frm ++ [y] := by
      have e : l.take (i + 1) = l.take i ++ [y] := by
        rw [List.take_add_one]
        have : l[i]? = some y := by rw [List.getElem?_eq_getElem g1]; have := List.drop_eq_getElem_cons g1; rw [h] at this; injection this with a _; rw [a]
        rw [this]; rfl
      rw [e, List.drop_append_of_le_length (by rw [List.length_take]; omega)]
    by_cases e : y = c
    · subst e
      refine ev_pos rfl (ev_pos (by omega) (ev_pos (by omega) (ev_pos (by omega) (ev_pos (by omega) ?_))))
      refine ev_val (ih (i + 1) (i + 1) _ g2 (by omega) (Nat.le_refl _) (by simp only [List.length_append, List.length_cons, List.length_nil]; omega)) ?_
      have e3 : (l.take (i + 1)).drop (i + 1) = [] := List.drop_of_length_le (by rw [List.length_take]; omega)
      rw [e3, glue_nil _ (parts_ne _ _), parts, if_pos rfl]
      simp only [glue, List.append_nil, List.map_cons, List.append_assoc, List.cons_append, List.nil_append]
    · have hne : ¬ ((y.toNat : Int) = (c.toNat : Int)) := fun q => e (UInt8.toNat_inj.1 (by omega))
      refine ev_neg hne (ev_val (ih (i + 1) frm acc g2 (by omega) (by omega) (by omega)) ?_)
      rw [htk, glue_head, parts, if_neg e]
theorem l1Split_ev (c : UInt8) (l : List UInt8) (hl : l.length ≤ 1999999) : Ev (fun k => spec_l1Split.f k (mkB l) (c.toNat : Int)) ((parts c l).map mkB) := by
  unfold spec_l1Split.f
  refine ev_val (l1Split_l c l (by omega) l 0 0 [] rfl (by omega) (Nat.le_refl _) (by simp only [List.length_nil]; omega)) ?_
  rw [List.take_zero, List.drop_nil, glue_nil _ (parts_ne _ _), List.nil_append]

theorem within_eq (a lo hi : Int) : impl_within.f a lo hi = some (decide (lo ≤ a ∧ a ≤ hi)) := by
  unfold impl_within.f
  by_cases h : a ≥ lo
  · rw [if_pos h]; congr 1; simp [show lo ≤ a from h]
  · rw [if_neg h]; congr 1; simp; omega

theorem isRange2_eq (a b : Int) : impl_isRange.f a b = some (isR2 a b) := by
  unfold impl_isRange.f isR2
  rw [within_eq]
  by_cases h : 1 ≤ b ∧ b ≤ 2000
  · rw [decide_eq_true h]; simp only [Option.bind_some, if_true]; rw [within_eq]
    simp only [Option.bind_some]; congr 1
    rw [← Bool.decide_and]
    exact decide_eq_decide.2 (by omega)
  · rw [decide_eq_false h]
    simp only [Option.bind_some, Bool.false_eq_true, if_false]; congr 1
    rw [← Bool.decide_and]
    exact (decide_eq_false (by omega)).symm
theorem ixRange2_eq (a b : Int) : spec_ixRange.f a b = some (isR2 a b) := by
  unfold spec_ixRange.f isR2
  rw [l1In_eq]
  by_cases h : 1 ≤ a ∧ a ≤ 2000
  · rw [decide_eq_true h]; simp only [Option.bind_some, if_true]; rw [l1In_eq]; simp
  · rw [decide_eq_false h]; simp
theorem j1_ev (l : List UInt8) (x y : Int) : Ev (fun k => spec_ixLong.j1 k (mkB l) x y) (finishS l x y) := by
  refine Ev.step (fun k => spec_ixLong.j1.eq_2 ..) (ev_some (ixRange2_eq x y) ?_)
  unfold finishS
  by_cases h : isR2 x y = true
  · have hh := isR2_true h
    have hs := specShort_ev x.toNat y.toNat (by omega) (by omega)
    rw [Int.toNat_of_nonneg (by omega), Int.toNat_of_nonneg (by omega)] at hs
    rw [if_pos h]
    refine ev_pos h (Ev.bind hs ?_)
    rw [tol_mkB, tol_mkB]
    by_cases c : shortL x.toNat y.toNat = l
    · exact ev_pos c (ev_now (if_pos c).symm)
    · exact ev_neg c (ev_now (if_neg c).symm)
  · rw [if_neg h]
    exact ev_neg h (ev_now rfl)
theorem specLong_ev (l : List UInt8) (hl : l.length ≤ 1048576) : Ev (fun k => spec_ixLong.f k (mkB l)) (specM l) := by
  have fall : ∀ (z : List ByteArray) (b : Bool), b = true → Ev (fun k => spec_ixLong.j0 k (mkB l) z b) (0, 0, false) := fun z b hb => Ev.step (fun k => spec_ixLong.j0.eq_2 ..) (ev_pos hb (ev_now rfl))
  unfold spec_ixLong.f specM
  refine Ev.bind (l1Split_ev 45 l (by omega)) ?_
  rw [mkB_size, List.length_map]
  by_cases h : l.length ≤ 9
  · rw [if_pos h]
    refine ev_neg (by omega) ?_
    rcases hp : parts 45 l with _ | ⟨f, _ | ⟨e, _ | ⟨g, rest⟩⟩⟩
    · exact absurd hp (parts_ne 45 l)
    · show Ev _ (finishS l (readV f) (readV f))
      have hr : rdOf ByteArray.empty ([f].map mkB) 0 = mkB f := rfl
      refine Ev.step (fun k => spec_ixLong.j0.eq_2 ..) (ev_neg (by simp) (ev_pos (by simp) ?_))
      rw [hr]
      refine Ev.bind (l1Read_ev f) (Ev.bind (l1Read_ev f) (ev_neg (by simp) (j1_ev l _ _)))
    · show Ev _ (finishS l (readV f) (readV (toL f e)))
      have hr0 : rdOf ByteArray.empty ([f, e].map mkB) 0 = mkB f := rfl
      have hr1 : rdOf ByteArray.empty ([f, e].map mkB) 1 = mkB e := rfl
      have hf := parts_part_len 45 l f (by rw [hp]; simp)
      have he := parts_part_len 45 l e (by rw [hp]; simp)
      refine Ev.step (fun k => spec_ixLong.j0.eq_2 ..) (ev_neg (by simp) (ev_pos (by simp) ?_))
      rw [hr0, hr1, mkB_size, mkB_size, w64 (x := (f.length : Int) - (e.length : Int)) (by omega) (by omega)]
      refine Ev.bind (l1Read_ev f) (Ev.bind (l1Read_ev f) (ev_pos (by simp) (ev_pos (by simp) ?_)))
      unfold toL
      by_cases c : e.length < f.length
      · rw [if_pos c, show ((f.length : Int) - (e.length : Int)).toNat = f.length - e.length from by omega, mkB_slice, List.drop_zero, mkB_append, mkB_size]
        refine ev_pos (by omega) (ev_pos (by omega) (ev_pos (by omega) (ev_pos (by rw [List.length_take]; omega) (Ev.bind (l1Read_ev _) (j1_ev l _ _)))))
      · rw [if_neg c]
        exact ev_neg (by omega) (Ev.bind (l1Read_ev e) (j1_ev l _ _))
    · exact fall _ _ (decide_eq_true (by simp only [List.length_cons]; omega))
  · rw [if_neg h]
    exact ev_pos (by omega) (fall _ _ rfl)
theorem implLong_ev (l : List UInt8) (hl : l.length ≤ 1048576) : Ev (fun k => impl_longRange.f k (mkB l)) (specM l) := by
  rw [← implM_eq]
  unfold impl_longRange.f implM
  have hcut : strings_Cut.f (mkB l) (⟨#[45]⟩ : ByteArray) = some (mkB (Lib.cut l [45]).1, mkB (Lib.cut l [45]).2.1, (Lib.cut l [45]).2.2) := by
    unfold strings_Cut.f
    rw [if_pos (by rw [mkB_size]; omega), mkB_data]
    rfl
  have hcl : (Lib.cut l [45]).1.length ≤ l.length ∧ (Lib.cut l [45]).2.1.length ≤ l.length := by
    unfold Lib.cut
    split
    · simp only [List.length_take, List.length_drop]; omega
    · simp
  refine ev_some hcut ?_
  generalize Lib.cut l [45] = c at hcl ⊢
  obtain ⟨f, e, g⟩ := c
  simp only at hcl ⊢
  have htt : impl_toOf (mkB f) (mkB e) g = some (mkB (ttL (f, e, g))) ∧ (ttL (f, e, g)).length ≤ 2 * l.length := by
    cases g with
    | false => exact ⟨rfl, by show f.length ≤ _; omega⟩
    | true =>
      have e1 : ttL (f, e, true) = toL f e := rfl
      rw [e1]
      unfold impl_toOf toL
      rw [if_pos rfl, mkB_size, mkB_size, w64 (x := (f.length : Int) - (e.length : Int)) (by omega) (by omega)]
      by_cases c : e.length < f.length
      · rw [if_pos c, if_pos (by omega), if_pos (by omega), if_pos (by omega), show ((f.length : Int) - (e.length : Int)).toNat = f.length - e.length from by omega, mkB_slice, List.drop_zero, mkB_append, mkB_size, if_pos (by rw [List.length_take]; omega)]
        exact ⟨rfl, by rw [List.length_append, List.length_take]; omega⟩
      · rw [if_neg c, if_neg (by omega)]
        exact ⟨rfl, by omega⟩
  refine ev_some htt.1 ?_
  have h2 := htt.2
  generalize ttL (f, e, g) = t at h2 ⊢
  unfold impl_longRange.g
  rw [mkB_size, mkB_size]
  refine ev_pos (by omega) (ev_pos (by omega) ?_)
  rcases atoiE (mkB f) with _ | a
  · exact ev_now rfl
  · rcases atoiE (mkB t) with _ | b
    · exact ev_now rfl
    · refine ev_some (isRange2_eq a b) ?_
      show Ev _ (finishS l a b)
      unfold finishS
      by_cases h : isR2 a b = true
      · have hh := isR2_true h
        have hs := implShort_ev a.toNat b.toNat (by omega) (by omega)
        rw [Int.toNat_of_nonneg (by omega), Int.toNat_of_nonneg (by omega)] at hs
        rw [if_pos h]
        refine ev_pos h (Ev.bind hs ?_)
        rw [tol_mkB, tol_mkB]
        by_cases c : shortL a.toNat b.toNat = l
        · exact ev_pos c (ev_now (if_pos c).symm)
        · exact ev_neg c (ev_now (if_neg c).symm)
      · rw [if_neg h]
        exact ev_neg h (ev_now rfl)

theorem idxc_ (x c : UInt8) (xs : List UInt8) (h : x ≠ c) (k : Nat) : Lib.splitK [c] 0 (k + 1) (x :: xs) = headOn x (Lib.splitK [c] 0 (k + 1) xs) := by
  rw [Lib.splitK, Lib.splitK, idx_cons_ x c xs h]
  by_cases m : Lib.index xs [c] = -1
  · rw [if_pos (by rw [m]; simp), if_pos (by rw [m]; simp)]; rfl
  · have hge := Lib.index_ge xs [c]
    obtain ⟨j, hj⟩ : ∃ j : Nat, Lib.index xs [c] = j := ⟨(Lib.index xs [c]).toNat, by omega⟩
    have n1 : ((j : Int) == -1) = false := by simp
    have n2 : (((j : Int) + 1) == -1) = false := by simp; omega
    have t1 : ((j : Int) + 1).toNat = j + 1 := by omega
    rw [hj, n1]
    simp only [Bool.false_eq_true, if_false]
    rw [n2]
    simp only [Bool.false_eq_true, if_false, t1, Int.toNat_natCast, Nat.add_zero, List.length_cons, List.length_nil]
    rfl
theorem splitK_or (c : UInt8) : ∀ (l : List UInt8) (k : Nat), Lib.splitK [c] 0 k l = parts c l ∨ ((∃ w ∈ Lib.splitK [c] 0 k l, c ∈ w) ∧ k + 2 ≤ (parts c l).length)
  | l, 0 => by
    have e : Lib.splitK [c] 0 0 l = [l] := by rw [Lib.splitK]
    rw [e]
    by_cases h : c ∈ l
    · refine Or.inr ⟨⟨l, List.mem_singleton.2 rfl, h⟩, ?_⟩
      obtain ⟨p, q, rfl, hp⟩ : ∃ p q, l = p ++ c :: q ∧ c ∉ p := by
        induction l with
        | nil => simp at h
        | cons x xs ih =>
          by_cases hx : x = c
          · exact ⟨[], xs, by rw [hx]; rfl, by simp⟩
          · obtain ⟨p, q, e, hp⟩ := ih (by rw [Lib.splitK]) (by
              rcases List.mem_cons.1 h with h | h
              · exact absurd h.symm hx
              · exact h)
            exact ⟨x :: p, q, by rw [e]; rfl, by simp only [List.mem_cons, not_or]; exact ⟨Ne.symm hx, hp⟩⟩
      rw [parts_two c p q hp, List.length_cons]
      have := List.length_pos_iff.2 (parts_ne c q)
      omega
    · exact Or.inl (parts_no c l h).symm
  | [], k + 1 => by
    refine Or.inl ?_
    rw [Lib.splitK, if_pos (by simp [Lib.index])]; rfl
  | x :: xs, k + 1 => by
    by_cases h : x = c
    · subst h
      have e : Lib.splitK [x] 0 (k + 1) (x :: xs) = [] :: Lib.splitK [x] 0 k xs := by
        rw [Lib.splitK, idx_head_, if_neg (by simp)]
        simp only [Int.toNat_zero, Nat.zero_add, List.take_zero, List.length_cons, List.length_nil, List.drop_succ_cons, List.drop_zero]
      have e2 : parts x (x :: xs) = [] :: parts x xs := by rw [parts, if_pos rfl]
      rw [e, e2]
      rcases splitK_or x xs k with h | ⟨⟨w, hw, hc⟩, hl⟩
      · exact Or.inl (by rw [h])
      · exact Or.inr ⟨⟨w, List.mem_cons_of_mem _ hw, hc⟩, by rw [List.length_cons]; omega⟩
    · have e2 : parts c (x :: xs) = headOn x (parts c xs) := by rw [parts, if_neg h]
      rw [idxc_ x c xs h k, e2]
      rcases splitK_or c xs (k + 1) with g | ⟨⟨w, hw, hc⟩, hl⟩
      · exact Or.inl (by rw [g])
      · refine Or.inr ⟨?_, by rw [headOn_length x _ (parts_ne c xs)]; exact hl⟩
        rcases hs : Lib.splitK [c] 0 (k + 1) xs with _ | ⟨p, ps⟩
        · rw [hs] at hw; simp at hw
        · rw [hs] at hw
          rcases List.mem_cons.1 hw with rfl | hw
          · exact ⟨x :: w, by simp [headOn], List.mem_cons_of_mem _ hc⟩
          · exact ⟨w, by simp [headOn, hw], hc⟩
theorem splitK_len (c : UInt8) : ∀ (k : Nat) (l : List UInt8), (Lib.splitK [c] 0 k l).length ≤ k + 1 ∧ ∀ w ∈ Lib.splitK [c] 0 k l, w.length ≤ l.length
  | 0, l => by
    have e : Lib.splitK [c] 0 0 l = [l] := by rw [Lib.splitK]
    rw [e]
    exact ⟨by simp, fun w hw => by rw [List.mem_singleton.1 hw]; exact Nat.le_refl _⟩
  | k + 1, l => by
    rw [Lib.splitK]
    split
    · exact ⟨by simp, fun w hw => by rw [List.mem_singleton.1 hw]; exact Nat.le_refl _⟩
    · obtain ⟨h1, h2⟩ := splitK_len c k (l.drop ((Lib.index l [c]).toNat + [c].length))
      refine ⟨by rw [List.length_cons]; omega, fun w hw => ?_⟩
      rcases List.mem_cons.1 hw with rfl | hw
      · rw [List.length_take]; omega
      · have := h2 w hw
        rw [List.length_drop] at this
        omega

def isR (r : S26) : Bool := decide (1 ≤ r.f0 ∧ r.f0 ≤ 2000) && decide (r.f0 ≤ r.f1 ∧ r.f1 ≤ 2000)
/-- What stands behind a range that ends at prev. -/
def tailR : Option Int → List S26 → Bool
  | _, [] => true
  | prev, r :: rs => isR r && ((match prev with | none => true | some p => decide (p + 2 ≤ r.f0)) && tailR (some r.f1) rs)
def goodR (xs : List S26) : Bool := decide (xs.length ≤ 20) && tailR none xs
theorem isR_true {r : S26} (h : isR r = true) : 1 ≤ r.f0 ∧ r.f0 ≤ 2000 ∧ r.f0 ≤ r.f1 ∧ r.f1 ≤ 2000 := by
  simp only [isR, Bool.and_eq_true, decide_eq_true_eq] at h; omega
theorem drop32 {xs : List S26} {i : Int} {y : S26} {ys : List S26} (h0 : 0 ≤ i) (h : xs.drop i.toNat = y :: ys) : i < (xs.length : Int) ∧ rd_T26 xs i = y ∧ xs.drop (i + 1).toNat = ys := by
  obtain ⟨h1, h2, h3, _⟩ := drop_get h0 h
  exact ⟨h1, h2 _, h3⟩

theorem ixRange_eq (r : S26) : spec_ixRange.f r.f0 r.f1 = some (isR r) := by
  unfold spec_ixRange.f isR
  rw [l1In_eq]
  by_cases h : 1 ≤ r.f0 ∧ r.f0 ≤ 2000
  · rw [decide_eq_true h]; simp only [Option.bind_some, if_true]; rw [l1In_eq]; simp
  · rw [decide_eq_false h]; simp
theorem ixGood_l (xs : List S26) (hn : xs.length ≤ 1048576) : ∀ (ys : List S26) (i : Int) (prev : Option Int), 0 ≤ i → xs.drop i.toNat = ys → (i = 0 → prev = none) → (0 < i → ∃ p, prev = some p ∧ (rd_T26 xs (i - 1)).f1 = p ∧ p ≤ 2000 ∧ 1 ≤ p) →
    Ev (fun k => spec_ixGood.l0 k xs xs (xs.length : Int) i) (tailR prev ys) := by
  intro ys
  induction ys with
  | nil =>
    intro i prev h0 h _ _
    have := drop_nil h0 h
    refine Ev.step (fun k => spec_ixGood.l0.eq_2 ..) ?_
    exact ev_neg (by omega) (ev_now rfl)
  | cons y ys ih =>
    intro i prev h0 h hp0 hp1
    obtain ⟨h1, h2, h3⟩ := drop32 h0 h
    refine Ev.step (fun k => spec_ixGood.l0.eq_2 ..) ?_
    rw [h2, w64 (x := i + 1) (by omega) (by omega)]
    refine ev_pos h1 (ev_pos h0 (ev_pos h1 (ev_some (ixRange_eq y) ?_)))
    by_cases hr : isR y = true
    · refine ev_pos hr ?_
      have hy := isR_true hr
      have hnext : Ev (fun k => spec_ixGood.l0 k xs xs (xs.length : Int) (i + 1)) (tailR (some y.f1) ys) :=
        ih (i + 1) (some y.f1) (by omega) h3 (fun h => by omega) (fun _ => ⟨y.f1, rfl, by rw [show i + 1 - 1 = i from by omega, h2], by omega, by omega⟩)
      by_cases hi : 0 < i
      · obtain ⟨p, rfl, hp, hp2, hp3⟩ := hp1 hi
        refine ev_pos hi ?_
        rw [w64 (x := i - 1) (by omega) (by omega), hp, w64 (x := p + 2) (by omega) (by omega)]
        refine ev_pos (by omega) (ev_pos (by omega) ?_)
        by_cases c : y.f0 < p + 2
        · exact ev_pos c (ev_now (by simp [tailR, hr, show ¬ p + 2 ≤ y.f0 from by omega]))
        · exact ev_neg c (ev_val hnext (by simp [tailR, hr, show p + 2 ≤ y.f0 from by omega]))
      · obtain rfl := hp0 (by omega)
        exact ev_neg hi (ev_val hnext (by simp [tailR, hr]))
    · exact ev_neg hr (ev_now (by simp [tailR, hr]))
theorem ixGood_ev (xs : List S26) (hn : xs.length ≤ 1048576) : Ev (fun k => spec_ixGood.f k xs) (goodR xs) := by
  unfold spec_ixGood.f goodR
  by_cases h : xs.length ≤ 20
  · exact ev_neg (by omega) (ev_val (ixGood_l xs hn xs 0 none (by omega) rfl (fun _ => rfl) (fun h => by omega)) (by simp [h]))
  · exact ev_pos (by omega) (ev_now (by simp [h]))

theorem isRange_eq (r : S26) : impl_isRange.f r.f0 r.f1 = some (isR r) := by
  unfold impl_isRange.f isR
  rw [within_eq]
  by_cases h : 1 ≤ r.f1 ∧ r.f1 ≤ 2000
  · rw [decide_eq_true h]; simp only [Option.bind_some, if_true]; rw [within_eq]
    simp only [Option.bind_some]; congr 1
    rw [← Bool.decide_and]
    exact decide_eq_decide.2 (by omega)
  · rw [decide_eq_false h]
    simp only [Option.bind_some, Bool.false_eq_true, if_false]; congr 1
    rw [← Bool.decide_and]
    exact (decide_eq_false (by omega)).symm
theorem areR_l (xs : List S26) (hn : xs.length ≤ 1048576) : ∀ (ys : List S26) (i : Int) (prev : Option Int), 0 ≤ i → xs.drop i.toNat = ys → (i = 0 → prev = none) → (0 < i → ∃ p, prev = some p ∧ (rd_T26 xs (i - 1)).f1 = p ∧ p ≤ 2000 ∧ 1 ≤ p) →
    Ev (fun k => impl_AreRanges.l0 k xs xs (xs.length : Int) i) (tailR prev ys && decide (xs.length ≤ 20)) := by
  intro ys
  induction ys with
  | nil =>
    intro i prev h0 h _ _
    have := drop_nil h0 h
    refine Ev.step (fun k => impl_AreRanges.l0.eq_2 ..) ?_
    exact ev_neg (by omega) (ev_now (by simp only [tailR, Bool.true_and]; exact decide_eq_decide.2 (by omega)))
  | cons y ys ih =>
    intro i prev h0 h hp0 hp1
    obtain ⟨h1, h2, h3⟩ := drop32 h0 h
    refine Ev.step (fun k => impl_AreRanges.l0.eq_2 ..) ?_
    rw [h2, w64 (x := i + 1) (by omega) (by omega)]
    refine ev_pos h1 (ev_pos h0 (ev_pos h1 (ev_some (isRange_eq y) ?_)))
    by_cases hr : isR y = true
    · refine ev_pos hr ?_
      have hy := isR_true hr
      have hnext : Ev (fun k => impl_AreRanges.l0 k xs xs (xs.length : Int) (i + 1)) (tailR (some y.f1) ys && decide (xs.length ≤ 20)) :=
        ih (i + 1) (some y.f1) (by omega) h3 (fun h => by omega) (fun _ => ⟨y.f1, rfl, by rw [show i + 1 - 1 = i from by omega, h2], by omega, by omega⟩)
      by_cases hi : 0 < i
      · obtain ⟨p, rfl, hp, hp2, hp3⟩ := hp1 hi
        refine ev_pos hi ?_
        rw [w64 (x := i - 1) (by omega) (by omega), hp, w64 (x := p + 2) (by omega) (by omega)]
        refine ev_pos (by omega) (ev_pos (by omega) ?_)
        by_cases c : y.f0 < p + 2
        · exact ev_pos c (ev_now (by simp [tailR, hr, show ¬ p + 2 ≤ y.f0 from by omega]))
        · exact ev_neg c (ev_val hnext (by simp [tailR, hr, show p + 2 ≤ y.f0 from by omega]))
      · obtain rfl := hp0 (by omega)
        exact ev_neg hi (ev_val hnext (by simp [tailR, hr]))
    · exact ev_neg hr (ev_now (by simp [tailR, hr]))
theorem areR_ev (xs : List S26) (hn : xs.length ≤ 1048576) : Ev (fun k => impl_AreRanges.f k xs) (goodR xs) := by
  unfold impl_AreRanges.f goodR
  exact ev_val (areR_l xs hn xs 0 none (by omega) rfl (fun _ => rfl) (fun h => by omega)) (Bool.and_comm _ _)

theorem tailR_mem : ∀ (xs : List S26) (prev : Option Int), tailR prev xs = true → ∀ r ∈ xs, isR r = true
  | [], _, _, r, hr => by simp at hr
  | x :: xs, prev, h, r, hr => by
    simp only [tailR, Bool.and_eq_true] at h
    rcases List.mem_cons.1 hr with rfl | hr
    · exact h.1
    · exact tailR_mem xs (some x.f1) h.2.2 r hr
theorem goodR_true {xs : List S26} (h : goodR xs = true) : xs.length ≤ 20 ∧ tailR none xs = true ∧ ∀ r ∈ xs, isR r = true := by
  simp only [goodR, Bool.and_eq_true, decide_eq_true_eq] at h
  exact ⟨h.1, h.2, tailR_mem xs none h.2⟩

theorem eqRangeS_l (xs : List S26) (hn : xs.length < 4611686018427387904) : ∀ (ys : List S26) (i : Int), 0 ≤ i → xs.drop i.toNat = ys →
    Ev (fun k => laws_eqRangeS.l0 k xs xs i) true := by
  intro ys
  induction ys with
  | nil =>
    intro i h0 h
    have := drop_nil h0 h
    refine Ev.step (fun k => laws_eqRangeS.l0.eq_2 ..) ?_
    exact ev_neg (by omega) (ev_now rfl)
  | cons y ys ih =>
    intro i h0 h
    obtain ⟨h1, h2, h3, _⟩ := drop_get h0 h
    refine Ev.step (fun k => laws_eqRangeS.l0.eq_2 ..) ?_
    have e : ∀ r : S26, laws_eqRange.f r.f0 r.f1 r.f0 r.f1 = some true := fun r => by unfold laws_eqRange.f; simp
    refine ev_pos h1 (ev_pos h0 (ev_pos h1 (ev_some (e _) (ev_pos rfl ?_))))
    rw [w64 (by omega) (by omega)]
    exact ih _ (by omega) h3
theorem eqRangeS_ev (xs : List S26) (hn : xs.length < 4611686018427387904) : Ev (fun k => laws_eqRangeS.f k xs xs) true := by
  unfold laws_eqRangeS.f
  exact ev_pos rfl (eqRangeS_l xs hn xs 0 (by omega) rfl)

/-- What a list of ranges reads as behind the marking. -/
def marksR (n : Nat) : List S26 := (List.range n).map (fun i : Nat => (⟨1 + 2 * (i : Int), 1 + 2 * (i : Int) + 1⟩ : S26))
theorem marksR_length (n : Nat) : (marksR n).length = n := by simp [marksR]
theorem marksR_succ (n : Nat) : marksR (n + 1) = marksR n ++ [(⟨1 + 2 * (n : Int), 1 + 2 * (n : Int) + 1⟩ : S26)] := by simp [marksR, List.range_succ]
theorem set_midR (us : List S26) (y v : S26) (ys : List S26) (i : Nat) (h : us.length = i) : (us ++ y :: ys).set (i : Int).toNat v = us ++ v :: ys := by
  rw [Int.toNat_natCast, List.set_append_right _ _ (by omega), h, Nat.sub_self, List.set_cons_zero]
theorem rd_midR (us : List S26) (y : S26) (ys : List S26) (i : Nat) (h : us.length = i) : rd_T26 (us ++ y :: ys) (i : Int) = y := by
  show (us ++ y :: ys).getD (i : Int).toNat _ = y
  rw [Int.toNat_natCast, List.getD_eq_getElem?_getD, List.getElem?_append_right (by omega), h, Nat.sub_self]; rfl

theorem markRangeS_l (n : Nat) (hn : n < 268435456) : ∀ (ys : List S26) (i : Nat), i + ys.length = n →
    Ev (fun k => laws_markRangeS.l0 k (marksR i ++ ys) (1 + 2 * (i : Int)) (i : Int)) ((1 : Int) + 2 * n, marksR n) := by
  intro ys
  induction ys with
  | nil =>
    intro i h
    refine Ev.step (fun k => laws_markRangeS.l0.eq_2 ..) ?_
    simp at h
    subst h
    exact ev_neg (by simp [marksR_length]) (ev_now (by simp))
  | cons y ys ih =>
    intro i h
    simp at h
    have hl := marksR_length i
    refine Ev.step (fun k => laws_markRangeS.l0.eq_2 ..) ?_
    refine ev_pos (by simp [marksR_length]; omega) (ev_pos (by omega) (ev_some rfl ?_))
    rw [rd_midR _ _ _ _ hl, set_midR _ _ _ _ _ hl, rd_midR _ _ _ _ hl, set_midR _ _ _ _ _ hl]
    rw [w64 (x := 1 + 2 * (i : Int) + 1) (by omega) (by omega), w64 (x := 1 + 2 * (i : Int) + 1 + 1) (by omega) (by omega), w64 (x := (i : Int) + 1) (by omega) (by omega)]
    have h2 := ih (i + 1) (by omega)
    have e2 : (1 : Int) + 2 * ((i + 1 : Nat) : Int) = 1 + 2 * (i : Int) + 1 + 1 := by omega
    have e3 : ((i + 1 : Nat) : Int) = (i : Int) + 1 := by omega
    have e4 : marksR (i + 1) ++ ys = marksR i ++ (⟨1 + 2 * (i : Int), 1 + 2 * (i : Int) + 1⟩ : S26) :: ys := by rw [marksR_succ, List.append_assoc]; rfl
    rw [e2, e3, e4] at h2
    exact h2
theorem markRangeS_ev (xs : List S26) (hn : xs.length < 268435456) : Ev (fun k => laws_markRangeS.f k xs 1) ((1 : Int) + 2 * xs.length, marksR xs.length) := markRangeS_l xs.length hn xs 0 (by omega)

theorem heldRangeS_l (n : Nat) (hn : n < 268435456) : ∀ (m i : Nat), i + m = n →
    Ev (fun k => laws_heldRangeS.l0 k (marksR n) (1 + 2 * (i : Int)) (i : Int)) ((1 : Int) + 2 * n) := by
  intro m
  induction m with
  | zero =>
    intro i h
    refine Ev.step (fun k => laws_heldRangeS.l0.eq_2 ..) ?_
    exact ev_neg (by rw [marksR_length]; omega) (ev_now (by omega))
  | succ m ih =>
    intro i h
    refine Ev.step (fun k => laws_heldRangeS.l0.eq_2 ..) ?_
    have hr : rd_T26 (marksR n) (i : Int) = (⟨1 + 2 * (i : Int), 1 + 2 * (i : Int) + 1⟩ : S26) := by
      show (marksR n).getD (i : Int).toNat _ = _
      rw [Int.toNat_natCast]
      simp [marksR, List.getD_eq_getElem?_getD, List.getElem?_range (show i < n by omega)]
    rw [hr, w64 (x := 1 + 2 * (i : Int) + 1) (by omega) (by omega), w64 (x := 1 + 2 * (i : Int) + 1 + 1) (by omega) (by omega), w64 (x := (i : Int) + 1) (by omega) (by omega)]
    refine ev_pos (by rw [marksR_length]; omega) (ev_pos (by omega) (ev_pos rfl (ev_pos rfl ?_)))
    have h2 := ih (i + 1) (by omega)
    have e2 : (1 : Int) + 2 * ((i + 1 : Nat) : Int) = 1 + 2 * (i : Int) + 1 + 1 := by omega
    have e3 : ((i + 1 : Nat) : Int) = (i : Int) + 1 := by omega
    rw [e2, e3] at h2
    exact h2
theorem heldRangeS_ev (n : Nat) (hn : n < 268435456) : Ev (fun k => laws_heldRangeS.f k (marksR n) 1) ((1 : Int) + 2 * n) := heldRangeS_l n hn n 0 (by omega)

theorem short_len9 (a b : Nat) (h : 1 ≤ a ∧ a ≤ b ∧ b ≤ 2000) : (shortL a b).length ≤ 9 := by
  have ha := dd_small 3 a (by omega)
  have hb := dd_small 3 b (by omega)
  have he := endL_len a b
  rw [shortL_eq]
  split
  · omega
  · simp only [List.length_append, List.length_cons]; omega
theorem dd_no44 (n : Nat) : (44 : UInt8) ∉ Lib.decDigits n := fun h => by
  have := dd_digit n 44 h
  have e : (44 : UInt8).toNat = 44 := rfl
  omega
theorem short_no44 (a b : Nat) : (44 : UInt8) ∉ shortL a b := fun h => by
  rw [shortL_eq] at h
  split at h
  · exact dd_no44 a h
  · rcases List.mem_append.1 h with h | h
    · exact dd_no44 a h
    · rcases List.mem_cons.1 h with h | h
      · exact absurd h (by decide)
      · unfold endL at h
        split at h
        · exact dd_no44 b (cutAt_mem _ _ _ h)
        · exact dd_no44 b h
theorem specM_valid {w : List UInt8} (h : (specM w).2.2 = true) : w.length ≤ 9 ∧ (44 : UInt8) ∉ w := by
  rcases specM_or w with e | ⟨a, b, h1, h2, _⟩
  · rw [e] at h; simp at h
  · subst h2; exact ⟨short_len9 a b h1, short_no44 a b⟩
def parseM : List (List UInt8) → List S26 → List S26 × Bool
  | [], out => if goodR out = true then (out, true) else ([], false)
  | w :: ws, out => if (specM w).2.2 = true then parseM ws (out ++ [(⟨(specM w).1, (specM w).2.1⟩ : S26)]) else ([], false)
theorem parseM_or : ∀ (ws : List (List UInt8)) (out : List S26), parseM ws out = ([], false) ∨ ((∀ w ∈ ws, (specM w).2.2 = true) ∧ ws.length + out.length ≤ 20)
  | [], out => by
    rw [parseM]
    split
    · rename_i h
      exact Or.inr ⟨by simp, by have := (goodR_true h).1; simp; omega⟩
    · exact Or.inl rfl
  | w :: ws, out => by
    rw [parseM]
    split
    · rename_i h
      rcases parseM_or ws (out ++ [(⟨(specM w).1, (specM w).2.1⟩ : S26)]) with e | ⟨h1, h2⟩
      · exact Or.inl e
      · refine Or.inr ⟨fun x hx => ?_, by simp only [List.length_append, List.length_cons, List.length_nil] at h2 ⊢; omega⟩
        rcases List.mem_cons.1 hx with rfl | hx
        · exact h
        · exact h1 x hx
    · exact Or.inl rfl
theorem parseM_small (ws : List (List UInt8)) : (parseM ws []).1.length ≤ 1000 := by
  have key : ∀ (ws : List (List UInt8)) (out : List S26), (parseM ws out).1.length ≤ out.length + ws.length := by
    intro ws
    induction ws with
    | nil => intro out; rw [parseM]; split <;> simp
    | cons w ws ih =>
      intro out
      rw [parseM]
      split
      · have := ih (out ++ [(⟨(specM w).1, (specM w).2.1⟩ : S26)])
        simp only [List.length_append, List.length_cons, List.length_nil] at this ⊢; omega
      · simp
  rcases parseM_or ws [] with e | ⟨_, h2⟩
  · rw [e]; simp
  · have := key ws []
    simp only [List.length_nil] at *; omega
def sumL (ps : List (List UInt8)) : Nat := (ps.map List.length).sum
theorem sumL_head (x : UInt8) (ps : List (List UInt8)) (h : ps ≠ []) : sumL (headOn x ps) = sumL ps + 1 := by
  cases ps with
  | nil => exact absurd rfl h
  | cons p ps => simp only [sumL, headOn, List.map_cons, List.sum_cons, List.length_cons]; omega
theorem parts_sum (c : UInt8) : ∀ (l : List UInt8), sumL (parts c l) + (parts c l).length = l.length + 1
  | [] => by simp [parts, sumL]
  | x :: xs => by
    have ih := parts_sum c xs
    rw [parts]
    split
    · simp only [sumL, List.map_cons, List.sum_cons, List.length_cons, List.length_nil] at ih ⊢; omega
    · rw [sumL_head x _ (parts_ne c xs), headOn_length x _ (parts_ne c xs), List.length_cons]; omega
theorem sumL_le : ∀ (ps : List (List UInt8)), (∀ p ∈ ps, p.length ≤ 9) → sumL ps ≤ 9 * ps.length
  | [], _ => by simp [sumL]
  | p :: ps, h => by
    have h1 := h p List.mem_cons_self
    have h2 := sumL_le ps (fun q hq => h q (List.mem_cons_of_mem _ hq))
    simp only [sumL, List.map_cons, List.sum_cons, List.length_cons] at h2 ⊢; omega
theorem parse_big (l : List UInt8) (h : l.length > 200) : parseM (parts 44 l) [] = ([], false) := by
  rcases parseM_or (parts 44 l) [] with e | ⟨h1, h2⟩
  · exact e
  · have hs := parts_sum 44 l
    have := sumL_le (parts 44 l) (fun p hp => (specM_valid (h1 p hp)).1)
    simp only [List.length_nil] at h2
    omega
def wordsN (l : List UInt8) : List (List UInt8) := Lib.splitK [44] 0 (min 21 (l.length + 1) - 1) l
theorem words_same (l : List UInt8) : parseM (wordsN l) [] = parseM (parts 44 l) [] := by
  have hp := parts_length 44 l
  rcases splitK_or 44 l (min 21 (l.length + 1) - 1) with h | ⟨⟨w, hw, hc⟩, hl⟩
  · unfold wordsN; rw [h]
  · have e1 : parseM (wordsN l) [] = ([], false) := by
      rcases parseM_or (wordsN l) [] with e | ⟨h1, _⟩
      · exact e
      · exact absurd hc (specM_valid (h1 w hw)).2
    have e2 : parseM (parts 44 l) [] = ([], false) := by
      rcases parseM_or (parts 44 l) [] with e | ⟨_, h2⟩
      · exact e
      · simp only [List.length_nil] at h2; omega
    rw [e1, e2]
def parseAll (l : List UInt8) : List S26 × Bool := if l.length > 200 then ([], false) else (if l = [] then ([], true) else parseM (parts 44 l) [])
theorem parseAll_small (l : List UInt8) : (parseAll l).1.length ≤ 1000 := by
  unfold parseAll
  split
  · simp
  · split
    · simp
    · exact parseM_small _
theorem specParse_l (ws : List (List UInt8)) (hw : ∀ w ∈ ws, w.length ≤ 1048576) : ∀ (ys : List (List UInt8)) (i : Int) (out : List S26), 0 ≤ i → ws.drop i.toNat = ys → out.length + ys.length ≤ 1048576 → ws.length ≤ 1048576 →
    Ev (fun k => spec_ixParse.l0 k out (ws.map mkB) ((ws.map mkB).length : Int) i) (parseM ys out) := by
  intro ys
  induction ys with
  | nil =>
    intro i out h0 h ho hn
    have := drop_nil h0 h
    simp only [List.length_nil] at ho
    refine Ev.step (fun k => spec_ixParse.l0.eq_2 ..) (ev_neg (by rw [List.length_map]; omega) (Ev.bind (ixGood_ev out (by omega)) ?_))
    rw [parseM]
    by_cases c : goodR out = true
    · exact ev_pos c (ev_now (if_pos c).symm)
    · exact ev_neg c (ev_now (if_neg c).symm)
  | cons y ys ih =>
    intro i out h0 h ho hn
    obtain ⟨h1, _, h3, _⟩ := drop_get h0 h
    simp only [List.length_cons] at ho
    have hy := hw y (List.mem_of_mem_drop (by rw [h]; exact List.mem_cons_self))
    have hd : (ws.map mkB).drop i.toNat = mkB y :: ys.map mkB := by rw [← List.map_drop, h]; rfl
    have hr : rdOf ByteArray.empty (ws.map mkB) i = mkB y := (drop_get h0 hd).2.1 _
    refine Ev.step (fun k => spec_ixParse.l0.eq_2 ..) ?_
    rw [hr, w64 (x := i + 1) (by omega) (by omega)]
    refine ev_pos (by rw [List.length_map]; omega) (ev_pos h0 (ev_pos (by rw [List.length_map]; omega) (Ev.bind (specLong_ev y hy) ?_)))
    rw [parseM]
    by_cases c : (specM y).2.2 = true
    · rw [if_pos c]
      exact ev_pos c (ev_pos (by omega) (ih (i + 1) _ (by omega) h3 (by simp only [List.length_append, List.length_cons, List.length_nil]; omega) hn))
    · rw [if_neg c]
      exact ev_neg c (ev_now rfl)
theorem implParse_l (ws : List (List UInt8)) (hw : ∀ w ∈ ws, w.length ≤ 1048576) : ∀ (ys : List (List UInt8)) (i : Int) (out : List S26), 0 ≤ i → ws.drop i.toNat = ys → out.length + ys.length ≤ 1048576 → ws.length ≤ 1048576 →
    Ev (fun k => impl_ParseRanges.l0 k out (ws.map mkB) ((ws.map mkB).length : Int) i) (parseM ys out) := by
  intro ys
  induction ys with
  | nil =>
    intro i out h0 h ho hn
    have := drop_nil h0 h
    simp only [List.length_nil] at ho
    refine Ev.step (fun k => impl_ParseRanges.l0.eq_2 ..) (ev_neg (by rw [List.length_map]; omega) (Ev.bind (areR_ev out (by omega)) ?_))
    rw [parseM]
    by_cases c : goodR out = true
    · exact ev_pos c (ev_now (if_pos c).symm)
    · exact ev_neg c (ev_now (if_neg c).symm)
  | cons y ys ih =>
    intro i out h0 h ho hn
    obtain ⟨h1, _, h3, _⟩ := drop_get h0 h
    simp only [List.length_cons] at ho
    have hy := hw y (List.mem_of_mem_drop (by rw [h]; exact List.mem_cons_self))
    have hd : (ws.map mkB).drop i.toNat = mkB y :: ys.map mkB := by rw [← List.map_drop, h]; rfl
    have hr : rdOf ByteArray.empty (ws.map mkB) i = mkB y := (drop_get h0 hd).2.1 _
    refine Ev.step (fun k => impl_ParseRanges.l0.eq_2 ..) ?_
    rw [hr, w64 (x := i + 1) (by omega) (by omega)]
    refine ev_pos (by rw [List.length_map]; omega) (ev_pos h0 (ev_pos (by rw [List.length_map]; omega) (Ev.bind (implLong_ev y hy) ?_)))
    rw [parseM]
    by_cases c : (specM y).2.2 = true
    · rw [if_pos c]
      exact ev_pos c (ev_pos (by omega) (ih (i + 1) _ (by omega) h3 (by simp only [List.length_append, List.length_cons, List.length_nil]; omega) hn))
    · rw [if_neg c]
      exact ev_neg c (ev_now rfl)
theorem specParse_ev (l : List UInt8) (hl : l.length ≤ 1048576) : Ev (fun k => spec_ParseRanges.f k (mkB l)) (parseAll l) := by
  unfold spec_ParseRanges.f
  suffices h : Ev (fun k => spec_ixParse.f k (mkB l)) (parseAll l) from Ev.bind h (ev_now rfl)
  unfold spec_ixParse.f parseAll
  rw [mkB_size, tol_mkB]
  by_cases h : l.length > 200
  · exact ev_pos (by omega) (ev_now (if_pos h).symm)
  · rw [if_neg h]
    refine ev_neg (by omega) ?_
    by_cases c : l = []
    · exact ev_pos c (ev_now (if_pos c).symm)
    · have hp := parts_length 44 l
      rw [if_neg c]
      exact ev_neg c (Ev.bind (l1Split_ev 44 l (by omega)) (specParse_l (parts 44 l) (fun w hw => by have := parts_part_len 44 l w hw; omega) (parts 44 l) 0 [] (by omega) rfl (by rw [List.length_nil]; omega) (by omega)))
theorem splitN_eq (l : List UInt8) (hl : l.length ≤ 1048576) : strings_SplitN.f (mkB l) (⟨#[44]⟩ : ByteArray) 21 = some ((wordsN l).map mkB) := by
  have e44 : (⟨#[44]⟩ : ByteArray) = mkB [44] := rfl
  unfold strings_SplitN.f
  rw [e44, mkB_size, mkB_size, if_pos (by omega), if_pos (by simp), if_pos (by omega), if_pos (by omega)]
  congr 1
  unfold splitNB wordsN
  rw [mkB_size, show (21 : Int).toNat = 21 from rfl]
  have h1 := Lib.splitB_data (mkB [44]) 0 (min 21 (l.length + 1) - 1) (mkB l)
  rw [mkB_data, mkB_data] at h1
  rw [← h1, List.map_map]
  have : (mkB ∘ fun x : ByteArray => x.data.toList) = id := by funext x; exact mkB_eq x
  rw [this, List.map_id]
theorem implParse_ev (l : List UInt8) (hl : l.length ≤ 1048576) : Ev (fun k => impl_ParseRanges.f k (mkB l)) (parseAll l) := by
  unfold impl_ParseRanges.f parseAll
  refine ev_some rfl ?_
  rw [tol_mkB]
  by_cases c : l = []
  · subst c
    exact ev_pos rfl (ev_now rfl)
  · refine ev_neg c (ev_some (splitN_eq l hl) ?_)
    obtain ⟨k1, k2⟩ := splitK_len 44 (min 21 (l.length + 1) - 1) l
    have hwn : (wordsN l).length ≤ 1048576 := by unfold wordsN; omega
    refine ev_val (implParse_l (wordsN l) (fun w hw => by have := k2 w hw; omega) _ 0 [] (by omega) rfl (by rw [Int.toNat_zero, List.drop_zero, List.length_nil]; omega) hwn) ?_
    rw [Int.toNat_zero, List.drop_zero, words_same]
    by_cases h : l.length > 200
    · rw [if_pos h]; exact parse_big l h
    · rw [if_neg h, if_neg c]
theorem FnExactParseRanges (a : ByteArray) (_ha : a.size ≤ 140737488351232) : ∃ k, laws_FnExactParseRanges.f k a = some true := by
  refine Ev.rounds ?_
  unfold laws_FnExactParseRanges.f
  by_cases h : (a.size : Int) > 1048576
  · exact ev_pos h (ev_now rfl)
  · refine ev_neg h ?_
    have hz : a.data.toList.length = a.size := by rw [Array.length_toList]; rfl
    have e := mkB_eq a
    have hs := specParse_ev a.data.toList (by omega)
    have hi := implParse_ev a.data.toList (by omega)
    have hW := parseAll_small a.data.toList
    rw [e] at hs hi
    generalize parseAll a.data.toList = r at hs hi hW
    refine Ev.bind hs (Ev.bind hi (Ev.bind (eqRangeS_ev r.1 (by omega)) (ev_pos rfl ?_)))
    refine Ev.step (fun k => laws_FnExactParseRanges.j0.eq_2 ..) ?_
    refine ev_neg (by simp) (Ev.bind (markRangeS_ev r.1 (by omega)) (Ev.bind (heldRangeS_ev r.1.length (by omega)) (ev_neg (by omega) (ev_pos rfl (Ev.bind hi (Ev.bind (eqRangeS_ev r.1 (by omega)) (ev_pos rfl ?_)))))))
    refine Ev.step (fun k => laws_FnExactParseRanges.j1.eq_2 ..) ?_
    exact ev_neg (by simp) (Ev.bind (heldRangeS_ev r.1.length (by omega)) (ev_neg (by omega) (ev_pos rfl (ev_now rfl))))

end Go.Proofs.YteolpfmpinbdoaaDoor.Pure
