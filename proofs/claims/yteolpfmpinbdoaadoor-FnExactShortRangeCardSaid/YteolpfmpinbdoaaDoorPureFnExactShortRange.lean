/- The law FnExactShortRange holds for every range: program and reference tell the same text. No condition but what the card lists. -/
import Derived.Test.YteolpfmpinbdoaaDoorPFnExactShortRangex4
namespace Go.Proofs.YteolpfmpinbdoaaDoor.Pure
open Go.RowKit Go.Proofs.YteolpfmpinbdoaaDoor.PFnExactShortRange Go.Proofs.YteolpfmpinbdoaaDoorW.PrintWords Go.Proofs.YteolpfmpinbdoaaDoorW.PrintLast

theorem w64 {x : Int} (h1 : -9223372036854775808 ≤ x) (h2 : x ≤ 9223372036854775807) : wrap64 x = x := by
  unfold wrap64; omega
theorem ev_pos {α : Type} {c : Prop} [Decidable c] {f g : Nat → Option α} {r : α} (hc : c) (h : Ev f r) : Ev (fun k => if c then f k else g k) r := by
  simpa only [if_pos hc] using h
theorem ev_neg {α : Type} {c : Prop} [Decidable c] {f g : Nat → Option α} {r : α} (hc : ¬ c) (h : Ev g r) : Ev (fun k => if c then f k else g k) r := by
  simpa only [if_neg hc] using h
theorem ev_now {α : Type} {r s : α} (h : r = s) : Ev (fun _ => some r) s := h ▸ Ev.now r
theorem ev_some {α β : Type} {x : Option α} {f : Nat → α → Option β} {a : α} {r : β} (h : x = some a) (k : Ev (fun n => f n a) r) : Ev (fun n => x.bind (f n)) r := by
  subst h; exact k
theorem ev_val {α : Type} {g : Nat → Option α} {a b : α} (h : Ev g a) (e : a = b) : Ev g b := e ▸ h
theorem ev_suc {α : Type} {g : Nat → Option α} {r : α} (h : Ev (fun k => g (k + 1)) r) : Ev g r := Ev.step (fun _ => rfl) h
theorem drop_nil {α : Type} {xs : List α} {i : Int} (h0 : 0 ≤ i) (h : xs.drop i.toNat = []) : (xs.length : Int) ≤ i := by
  have := List.drop_eq_nil_iff.1 h
  omega
theorem drop_get {α : Type} {xs : List α} {i : Int} {y : α} {ys : List α} (h0 : 0 ≤ i) (h : xs.drop i.toNat = y :: ys) : i < (xs.length : Int) ∧ (∀ d, xs.getD i.toNat d = y) ∧ xs.drop (i + 1).toNat = ys ∧ xs.take (i + 1).toNat = xs.take i.toNat ++ [y] := by
  have hl : i.toNat < xs.length := by
    rcases Nat.lt_or_ge i.toNat xs.length with hl | hl
    · exact hl
    · rw [List.drop_eq_nil_iff.2 hl] at h; cases h
  have e := List.drop_eq_getElem_cons hl
  rw [h] at e
  injection e with e1 e2
  have h1 : (i + 1).toNat = i.toNat + 1 := by omega
  refine ⟨by omega, fun d => ?_, ?_, ?_⟩
  · rw [List.getD_eq_getElem?_getD, List.getElem?_eq_getElem hl, e1]; rfl
  · rw [h1]; exact e2.symm
  · rw [h1, List.take_add_one, List.getElem?_eq_getElem hl, e1]; rfl
theorem drop_cons {xs : List Int} {i : Int} {y : Int} {ys : List Int} (h0 : 0 ≤ i) (h : xs.drop i.toNat = y :: ys) : i < (xs.length : Int) ∧ rd xs i = y ∧ xs.drop (i + 1).toNat = ys ∧ xs.take (i + 1).toNat = xs.take i.toNat ++ [y] := by
  obtain ⟨h1, h2, h3⟩ := drop_get h0 h
  exact ⟨h1, h2 0, h3⟩

/-! ### Texts as lists of bytes -/
def mkB (l : List UInt8) : ByteArray := ⟨l.toArray⟩
theorem mkB_data (l : List UInt8) : (mkB l).data.toList = l := by simp [mkB]
theorem mkB_size (l : List UInt8) : (mkB l).size = l.length := by simp [mkB, ByteArray.size]
theorem mkB_eq (s : ByteArray) : mkB s.data.toList = s := by cases s; simp [mkB]
theorem mkB_append (a b : List UInt8) : mkB a ++ mkB b = mkB (a ++ b) := by
  apply ByteArray.ext
  simp [mkB, ByteArray.data_append]
theorem mkB_drop (l : List UInt8) (i : Nat) : (mkB l).extract i (mkB l).size = mkB (l.drop i) := by
  apply ByteArray.ext
  apply Array.toList_inj.1
  rw [mkB_size]
  simp only [mkB, ByteArray.data_extract, List.extract_toArray, List.extract_eq_take_drop]
  rw [List.take_of_length_le (by rw [List.length_drop]; exact Nat.le_refl _)]
theorem mkB_slice (l : List UInt8) (i j : Nat) : (mkB l).extract i j = mkB ((l.take j).drop i) := by
  apply ByteArray.ext
  apply Array.toList_inj.1
  simp [mkB, ByteArray.data_extract, List.drop_take]
theorem mkB_nums (xs : List Int) : strOfNums xs = mkB (xs.map fun n => UInt8.ofNat n.toNat) := rfl
theorem mkB_inj {a b : List UInt8} (h : mkB a = mkB b) : a = b := by
  have := congrArg (fun s => s.data.toList) h
  simpa [mkB] using this
theorem bt_mkB {l : List UInt8} {i : Nat} {x : UInt8} {xs : List UInt8} (h : l.drop i = x :: xs) : bt (mkB l) (i : Int) = (x.toNat : Int) := by
  have hl : i < l.length := by
    rcases Nat.lt_or_ge i l.length with g | g
    · exact g
    · rw [List.drop_eq_nil_iff.2 g] at h; cases h
  have e : l[i] = x := by
    have := List.drop_eq_getElem_cons hl
    rw [h] at this
    injection this with h1 _
    exact h1.symm
  have hs : (i : Int).toNat < (mkB l).size := by rw [Int.toNat_natCast, mkB_size]; exact hl
  rw [← bt_at _ _ hs, ← e]
  rfl
theorem drop_step {α : Type} {l : List α} {i : Nat} {x : α} {xs : List α} (h : l.drop i = x :: xs) : i < l.length ∧ l.drop (i + 1) = xs := by
  have hl : i < l.length := by
    rcases Nat.lt_or_ge i l.length with g | g
    · exact g
    · rw [List.drop_eq_nil_iff.2 g] at h; cases h
  have := List.drop_eq_getElem_cons hl
  rw [h] at this
  injection this with _ h2
  exact ⟨hl, h2.symm⟩

theorem dd_len (n : Nat) : (Lib.decDigits n).length ≤ n + 1 := by
  induction n using Nat.strongRecOn with
  | _ n ih =>
    rw [Lib.decDigits]
    split
    · simp
    · rename_i h
      have := ih (n / 10) (by omega)
      rw [List.length_append]
      simp only [List.length_cons, List.length_nil]
      omega
theorem dd_pos (n : Nat) : 1 ≤ (Lib.decDigits n).length := by
  rw [Lib.decDigits]
  split <;> simp
def decV (l : List UInt8) : Nat := l.foldl (fun a b => a * 10 + (b.toNat - 48)) 0
theorem decV_dd (n : Nat) : decV (Lib.decDigits n) = n := by
  induction n using Nat.strongRecOn with
  | _ n ih =>
    rw [Lib.decDigits]
    split
    · rename_i h
      simp [decV]
      omega
    · rename_i h
      have := ih (n / 10) (by omega)
      unfold decV at this ⊢
      rw [List.foldl_append, this]
      simp
      omega
theorem dd_inj {a b : Nat} (h : Lib.decDigits a = Lib.decDigits b) : a = b := by
  rw [← decV_dd a, ← decV_dd b, h]
theorem dig_eq (x : Nat) (h : x < 200) : UInt8.ofNat ((((x : Nat) : Int) % 256).toNat) = UInt8.ofNat x := by
  congr 1
  omega
theorem l1Num_ev (n : Nat) (hn : n ≤ 1000000000000) : Ev (fun k => spec_l1Num.f k (n : Int)) (mkB (Lib.decDigits n)) := by
  induction n using Nat.strongRecOn with
  | _ n ih =>
    refine Ev.step (fun k => spec_l1Num.f.eq_2 ..) ?_
    by_cases h : n < 10
    · refine ev_pos (by omega) (ev_now ?_)
      rw [w64 (by omega) (by omega), mkB_nums, Lib.decDigits, dif_pos h]
      have := dig_eq (48 + n) (by omega)
      rw [show (((48 + n : Nat) : Nat) : Int) = 48 + (n : Int) from by omega] at this
      show mkB [UInt8.ofNat (((48 + (n : Int)) % 256).toNat)] = _
      rw [this]
    · refine ev_neg (by omega) ?_
      have e1 : Int.tdiv (n : Int) 10 = ((n / 10 : Nat) : Int) := by rw [Int.tdiv_eq_ediv_of_nonneg (by omega)]; omega
      have e2 : Int.tmod (n : Int) 10 = ((n % 10 : Nat) : Int) := by rw [Int.tmod_eq_emod_of_nonneg (by omega)]; omega
      rw [e1, e2, w64 (x := ((n / 10 : Nat) : Int)) (by omega) (by omega), w64 (x := 48 + ((n % 10 : Nat) : Int)) (by omega) (by omega)]
      have hl := dd_len (n / 10)
      have hs : strOfNums [(48 + ((n % 10 : Nat) : Int)) % 256] = mkB [UInt8.ofNat (48 + n % 10)] := by
        rw [mkB_nums]
        have := dig_eq (48 + n % 10) (by omega)
        rw [show (((48 + n % 10 : Nat) : Nat) : Int) = 48 + ((n % 10 : Nat) : Int) from by omega] at this
        show mkB [UInt8.ofNat (((48 + ((n % 10 : Nat) : Int)) % 256).toNat)] = _
        rw [this]
      refine Ev.bind (ih (n / 10) (by omega) (by omega)) (ev_some rfl ?_)
      rw [hs, mkB_size, mkB_size]
      refine ev_pos (by simp only [List.length_cons, List.length_nil]; omega) (ev_now ?_)
      rw [mkB_append, Lib.decDigits.eq_1 n, dif_neg h]
theorem itoa_eq (n : Nat) (hn : n ≤ 1000000000000) : strconv_Itoa.f (n : Int) = some (mkB (Lib.decDigits n)) := by
  unfold strconv_Itoa.f
  rw [if_pos (by omega), if_pos (by omega)]
  unfold Lib.itoa
  rw [if_neg (by omega), Int.toNat_natCast]
  rfl

/-- What stands from the first place on at which the second list parts from the first. -/
def cutAt : List UInt8 → List UInt8 → List UInt8
  | x :: xs, y :: ys => if x = y then cutAt xs ys else y :: ys
  | _, ys => ys
theorem cutAt_len : ∀ (xs ys : List UInt8), (cutAt xs ys).length ≤ ys.length
  | x :: xs, y :: ys => by
    rw [cutAt]
    split
    · have := cutAt_len xs ys; simp only [List.length_cons]; omega
    · exact Nat.le_refl _
  | [], ys => by simp [cutAt]
  | x :: xs, [] => by simp [cutAt]
def shortL (a b : Nat) : List UInt8 :=
  if a = b then Lib.decDigits a else if (Lib.decDigits a).length = (Lib.decDigits b).length then Lib.decDigits a ++ 45 :: cutAt (Lib.decDigits a) (Lib.decDigits b) else Lib.decDigits a ++ 45 :: Lib.decDigits b
theorem shortL_len (a b : Nat) : (shortL a b).length ≤ a + b + 3 := by
  have h1 := dd_len a
  have h2 := dd_len b
  have h3 := cutAt_len (Lib.decDigits a) (Lib.decDigits b)
  unfold shortL
  split
  · omega
  · split <;> simp only [List.length_append, List.length_cons] <;> omega
theorem join45 (f t : List UInt8) : mkB f ++ (⟨#[45]⟩ : ByteArray) ++ mkB t = mkB (f ++ 45 :: t) := by
  have : (⟨#[45]⟩ : ByteArray) = mkB [45] := rfl
  rw [this, mkB_append, mkB_append, List.append_assoc]; rfl
theorem size45 (f : List UInt8) : (mkB f ++ (⟨#[45]⟩ : ByteArray)).size = f.length + 1 := by
  have : (⟨#[45]⟩ : ByteArray) = mkB [45] := rfl
  rw [this, mkB_append, mkB_size]; simp
theorem ixShort_l (f t : List UInt8) (hl : f.length = t.length) (hb : f.length ≤ 1000000) : ∀ (xs ys : List UInt8) (i : Nat), f.drop i = xs → t.drop i = ys → xs ≠ ys →
    Ev (fun k => spec_ixShort.l0 k (mkB f) (mkB t) (i : Int)) (mkB (f ++ 45 :: cutAt xs ys)) := by
  intro xs
  induction xs with
  | nil =>
    intro ys i h1 h2 hne
    have := List.drop_eq_nil_iff.1 h1
    rw [List.drop_eq_nil_iff.2 (by omega)] at h2
    exact absurd h2 hne
  | cons x xs ih =>
    intro ys i h1 h2 hne
    obtain ⟨g1, g2⟩ := drop_step h1
    rcases ys with _ | ⟨y, ys⟩
    · have := List.drop_eq_nil_iff.1 h2
      omega
    obtain ⟨g3, g4⟩ := drop_step h2
    refine Ev.step (fun k => spec_ixShort.l0.eq_2 ..) ?_
    rw [bt_mkB h1, bt_mkB h2, mkB_size, mkB_size, w64 (x := (i : Int) + 1) (by omega) (by omega), size45, Int.toNat_natCast]
    have e0 : (mkB t).extract i t.length = mkB (y :: ys) := by have := mkB_drop t i; rw [mkB_size] at this; rw [this, h2]
    rw [e0, mkB_size, join45]
    refine ev_pos (by omega) (ev_pos (by omega) (ev_pos (by omega) ?_))
    have hyl : (y :: ys).length ≤ t.length := by rw [← h2, List.length_drop]; omega
    by_cases c : x = y
    · subst c
      refine ev_pos rfl ?_
      have := ih ys (i + 1) g2 g4 (fun e => hne (by rw [e]))
      rw [show ((i + 1 : Nat) : Int) = (i : Int) + 1 from by omega] at this
      exact ev_val this (by rw [cutAt, if_pos rfl])
    · have hc : ¬ ((x.toNat : Int) = (y.toNat : Int)) := fun e => c (UInt8.toNat_inj.1 (by omega))
      refine ev_neg hc (ev_pos (by omega) (ev_pos (by omega) (ev_pos (by omega) (ev_now ?_))))
      rw [cutAt, if_neg c]
theorem implShort_l (f t : List UInt8) (hl : f.length = t.length) (hb : f.length ≤ 1000000) : ∀ (xs ys : List UInt8) (i : Nat), f.drop i = xs → t.drop i = ys → xs ≠ ys →
    Ev (fun k => impl_shortRange.l0 k (mkB f) (mkB t) (i : Int)) (mkB (f ++ 45 :: cutAt xs ys)) := by
  intro xs
  induction xs with
  | nil =>
    intro ys i h1 h2 hne
    have := List.drop_eq_nil_iff.1 h1
    rw [List.drop_eq_nil_iff.2 (by omega)] at h2
    exact absurd h2 hne
  | cons x xs ih =>
    intro ys i h1 h2 hne
    obtain ⟨g1, g2⟩ := drop_step h1
    rcases ys with _ | ⟨y, ys⟩
    · have := List.drop_eq_nil_iff.1 h2
      omega
    obtain ⟨g3, g4⟩ := drop_step h2
    refine Ev.step (fun k => impl_shortRange.l0.eq_2 ..) ?_
    rw [bt_mkB h1, bt_mkB h2, mkB_size, mkB_size, w64 (x := (i : Int) + 1) (by omega) (by omega), size45, Int.toNat_natCast]
    have e0 : (mkB t).extract i t.length = mkB (y :: ys) := by have := mkB_drop t i; rw [mkB_size] at this; rw [this, h2]
    rw [e0, mkB_size, join45]
    refine ev_pos (by omega) (ev_pos (by omega) (ev_pos (by omega) (ev_pos (by omega) ?_)))
    have hyl : (y :: ys).length ≤ t.length := by rw [← h2, List.length_drop]; omega
    by_cases c : x = y
    · subst c
      refine ev_pos rfl ?_
      have := ih ys (i + 1) g2 g4 (fun e => hne (by rw [e]))
      rw [show ((i + 1 : Nat) : Int) = (i : Int) + 1 from by omega] at this
      exact ev_val this (by rw [cutAt, if_pos rfl])
    · have hc : ¬ ((x.toNat : Int) = (y.toNat : Int)) := fun e => c (UInt8.toNat_inj.1 (by omega))
      refine ev_neg hc (ev_pos (by omega) (ev_pos (by omega) (ev_pos (by omega) (ev_now ?_))))
      rw [cutAt, if_neg c]
theorem specShort_ev (a b : Nat) (ha : a ≤ 100000) (hb : b ≤ 100000) : Ev (fun k => spec_ixShort.f k (a : Int) (b : Int)) (mkB (shortL a b)) := by
  have h1 := dd_len a
  have h2 := dd_len b
  unfold spec_ixShort.f shortL
  refine Ev.bind (l1Num_ev a (by omega)) (Ev.bind (l1Num_ev b (by omega)) ?_)
  rw [mkB_size, mkB_size, size45, join45]
  by_cases c : a = b
  · rw [if_pos c]
    exact ev_pos (by omega) (ev_now rfl)
  · rw [if_neg c]
    refine ev_neg (by omega) ?_
    by_cases d : (Lib.decDigits a).length = (Lib.decDigits b).length
    · rw [if_pos d]
      exact ev_pos (by omega) (ixShort_l _ _ d (by omega) _ _ 0 rfl rfl (fun e => c (dd_inj e)))
    · rw [if_neg d]
      exact ev_neg (by omega) (ev_pos (by omega) (ev_pos (by omega) (ev_now rfl)))
theorem implShort_ev (a b : Nat) (ha : a ≤ 100000) (hb : b ≤ 100000) : Ev (fun k => impl_shortRange.f k (a : Int) (b : Int)) (mkB (shortL a b)) := by
  have h1 := dd_len a
  have h2 := dd_len b
  unfold impl_shortRange.f shortL
  refine ev_some (itoa_eq a (by omega)) (ev_some (itoa_eq b (by omega)) ?_)
  by_cases c : a = b
  · rw [if_pos c]
    exact ev_pos (by omega) (ev_now rfl)
  · rw [if_neg c]
    refine ev_neg (by omega) ?_
    by_cases d : (Lib.decDigits a).length = (Lib.decDigits b).length
    · rw [if_pos d]
      exact implShort_l _ _ d (by omega) _ _ 0 rfl rfl (fun e => c (dd_inj e))
    · rw [if_neg d]
      refine Ev.step (fun k => impl_shortRange.l0.eq_2 ..) ?_
      have e0 : (mkB (Lib.decDigits b)).extract 0 (Lib.decDigits b).length = mkB (Lib.decDigits b) := by have := mkB_drop (Lib.decDigits b) 0; rw [mkB_size] at this; rw [this]; rfl
      rw [mkB_size, mkB_size, size45, show ((0 : Int)).toNat = 0 from rfl, e0, mkB_size, join45]
      exact ev_neg (by omega) (ev_pos (by omega) (ev_pos (by omega) (ev_pos (by omega) (ev_pos (by omega) (ev_now rfl)))))

theorem within_eq (a lo hi : Int) : impl_within.f a lo hi = some (decide (lo ≤ a ∧ a ≤ hi)) := by
  unfold impl_within.f
  by_cases h : a ≥ lo
  · rw [if_pos h]; congr 1; simp [show lo ≤ a from h]
  · rw [if_neg h]; congr 1; simp; omega

theorem l1In_eq (a lo hi : Int) : spec_l1In.f a lo hi = some (decide (lo ≤ a ∧ a ≤ hi)) := by
  unfold spec_l1In.f
  by_cases h : a ≥ lo
  · rw [if_pos h]; congr 1; simp [show lo ≤ a from h]
  · rw [if_neg h]; congr 1; simp; omega

def isR2 (a b : Int) : Bool := decide (1 ≤ a ∧ a ≤ 2000) && decide (a ≤ b ∧ b ≤ 2000)
theorem isRange2_eq (a b : Int) : impl_isRange.f a b = some (isR2 a b) := by
  unfold impl_isRange.f isR2
  rw [within_eq]
  by_cases h : 1 ≤ b ∧ b ≤ 2000
  · rw [decide_eq_true h]; simp only [Option.bind_some, if_true]; rw [within_eq]
    simp only [Option.bind_some]; congr 1
    rw [← Bool.decide_and]
    exact decide_eq_decide.2 (by omega)
  · rw [decide_eq_false h]
    simp only [Option.bind_some, Bool.false_eq_true, if_false]; congr 1
    rw [← Bool.decide_and]
    exact (decide_eq_false (by omega)).symm
theorem ixRange2_eq (a b : Int) : spec_ixRange.f a b = some (isR2 a b) := by
  unfold spec_ixRange.f isR2
  rw [l1In_eq]
  by_cases h : 1 ≤ a ∧ a ≤ 2000
  · rw [decide_eq_true h]; simp only [Option.bind_some, if_true]; rw [l1In_eq]; simp
  · rw [decide_eq_false h]; simp
def shortM (a b : Int) : ByteArray × Bool := if isR2 a b = true then (mkB (shortL a.toNat b.toNat), true) else (⟨#[]⟩, false)
theorem specShortM (a b : Int) : Ev (fun k => spec_ShortRange.f k a b) (shortM a b) := by
  unfold spec_ShortRange.f shortM
  refine ev_some (ixRange2_eq a b) ?_
  by_cases h : isR2 a b = true
  · have hh : 1 ≤ a ∧ a ≤ 2000 ∧ a ≤ b ∧ b ≤ 2000 := by simp only [isR2, Bool.and_eq_true, decide_eq_true_eq] at h; omega
    have := specShort_ev a.toNat b.toNat (by omega) (by omega)
    rw [Int.toNat_of_nonneg (by omega), Int.toNat_of_nonneg (by omega)] at this
    exact ev_pos h (Ev.bind this (ev_now (by rw [if_pos h])))
  · exact ev_neg h (ev_now (by rw [if_neg h]))
theorem implShortM (a b : Int) : Ev (fun k => impl_ShortRange.f k a b) (shortM a b) := by
  unfold impl_ShortRange.f shortM
  refine ev_some (isRange2_eq a b) ?_
  by_cases h : isR2 a b = true
  · have hh : 1 ≤ a ∧ a ≤ 2000 ∧ a ≤ b ∧ b ≤ 2000 := by simp only [isR2, Bool.and_eq_true, decide_eq_true_eq] at h; omega
    have := implShort_ev a.toNat b.toNat (by omega) (by omega)
    rw [Int.toNat_of_nonneg (by omega), Int.toNat_of_nonneg (by omega)] at this
    exact ev_pos h (Ev.bind this (ev_now (by rw [if_pos h])))
  · exact ev_neg h (ev_now (by rw [if_neg h]))
theorem FnExactShortRange (a b : Int) : ∃ k, laws_FnExactShortRange.f k a b = some true := by
  refine Ev.rounds ?_
  unfold laws_FnExactShortRange.f laws_toRange.f
  refine ev_some rfl (Ev.bind (specShortM a b) (ev_some rfl (Ev.bind (implShortM a b) (ev_pos rfl (ev_neg (by simp) (ev_now rfl))))))

end Go.Proofs.YteolpfmpinbdoaaDoor.Pure
