/- The law FnExactParseChapters holds for every text: program and reference tell the same numbers. No condition but what the card lists. -/
import Derived.Test.YtngaimhnajeidaaDoorPFnExactParseChaptersx4
namespace Go.Proofs.YtngaimhnajeidaaDoor.Pure
open Go.RowKit Go.Proofs.YtngaimhnajeidaaDoor.PFnExactParseChapters Go.Proofs.YtngaimhnajeidaaDoorW.PrintWords Go.Proofs.YtngaimhnajeidaaDoorW.PrintLast

theorem w64 {x : Int} (h1 : -9223372036854775808 ≤ x) (h2 : x ≤ 9223372036854775807) : wrap64 x = x := by
  unfold wrap64; omega
theorem ev_pos {α : Type} {c : Prop} [Decidable c] {f g : Nat → Option α} {r : α} (hc : c) (h : Ev f r) : Ev (fun k => if c then f k else g k) r := by
  simpa only [if_pos hc] using h
theorem ev_neg {α : Type} {c : Prop} [Decidable c] {f g : Nat → Option α} {r : α} (hc : ¬ c) (h : Ev g r) : Ev (fun k => if c then f k else g k) r := by
  simpa only [if_neg hc] using h
theorem ev_now {α : Type} {r s : α} (h : r = s) : Ev (fun _ => some r) s := h ▸ Ev.now r
theorem ev_some {α β : Type} {x : Option α} {f : Nat → α → Option β} {a : α} {r : β} (h : x = some a) (k : Ev (fun n => f n a) r) : Ev (fun n => x.bind (f n)) r := by
  subst h; exact k
theorem ev_val {α : Type} {g : Nat → Option α} {a b : α} (h : Ev g a) (e : a = b) : Ev g b := e ▸ h
theorem ev_suc {α : Type} {g : Nat → Option α} {r : α} (h : Ev (fun k => g (k + 1)) r) : Ev g r := Ev.step (fun _ => rfl) h
theorem drop_nil {α : Type} {xs : List α} {i : Int} (h0 : 0 ≤ i) (h : xs.drop i.toNat = []) : (xs.length : Int) ≤ i := by
  have := List.drop_eq_nil_iff.1 h
  omega
theorem drop_get {α : Type} {xs : List α} {i : Int} {y : α} {ys : List α} (h0 : 0 ≤ i) (h : xs.drop i.toNat = y :: ys) : i < (xs.length : Int) ∧ (∀ d, xs.getD i.toNat d = y) ∧ xs.drop (i + 1).toNat = ys ∧ xs.take (i + 1).toNat = xs.take i.toNat ++ [y] := by
  have hl : i.toNat < xs.length := by
    rcases Nat.lt_or_ge i.toNat xs.length with hl | hl
    · exact hl
    · rw [List.drop_eq_nil_iff.2 hl] at h; cases h
  have e := List.drop_eq_getElem_cons hl
  rw [h] at e
  injection e with e1 e2
  have h1 : (i + 1).toNat = i.toNat + 1 := by omega
  refine ⟨by omega, fun d => ?_, ?_, ?_⟩
  · rw [List.getD_eq_getElem?_getD, List.getElem?_eq_getElem hl, e1]; rfl
  · rw [h1]; exact e2.symm
  · rw [h1, List.take_add_one, List.getElem?_eq_getElem hl, e1]; rfl
theorem drop_cons {xs : List Int} {i : Int} {y : Int} {ys : List Int} (h0 : 0 ≤ i) (h : xs.drop i.toNat = y :: ys) : i < (xs.length : Int) ∧ rd xs i = y ∧ xs.drop (i + 1).toNat = ys ∧ xs.take (i + 1).toNat = xs.take i.toNat ++ [y] := by
  obtain ⟨h1, h2, h3⟩ := drop_get h0 h
  exact ⟨h1, h2 0, h3⟩

/-! ### Texts as lists of bytes -/
def mkB (l : List UInt8) : ByteArray := ⟨l.toArray⟩
theorem mkB_data (l : List UInt8) : (mkB l).data.toList = l := by simp [mkB]
theorem mkB_size (l : List UInt8) : (mkB l).size = l.length := by simp [mkB, ByteArray.size]
theorem mkB_eq (s : ByteArray) : mkB s.data.toList = s := by cases s; simp [mkB]
theorem mkB_append (a b : List UInt8) : mkB a ++ mkB b = mkB (a ++ b) := by
  apply ByteArray.ext
  simp [mkB, ByteArray.data_append]
theorem mkB_drop (l : List UInt8) (i : Nat) : (mkB l).extract i (mkB l).size = mkB (l.drop i) := by
  apply ByteArray.ext
  apply Array.toList_inj.1
  rw [mkB_size]
  simp only [mkB, ByteArray.data_extract, List.extract_toArray, List.extract_eq_take_drop]
  rw [List.take_of_length_le (by rw [List.length_drop]; exact Nat.le_refl _)]
theorem mkB_slice (l : List UInt8) (i j : Nat) : (mkB l).extract i j = mkB ((l.take j).drop i) := by
  apply ByteArray.ext
  apply Array.toList_inj.1
  simp [mkB, ByteArray.data_extract, List.drop_take]
theorem mkB_nums (xs : List Int) : strOfNums xs = mkB (xs.map fun n => UInt8.ofNat n.toNat) := rfl
theorem mkB_inj {a b : List UInt8} (h : mkB a = mkB b) : a = b := by
  have := congrArg (fun s => s.data.toList) h
  simpa [mkB] using this
theorem bt_mkB {l : List UInt8} {i : Nat} {x : UInt8} {xs : List UInt8} (h : l.drop i = x :: xs) : bt (mkB l) (i : Int) = (x.toNat : Int) := by
  have hl : i < l.length := by
    rcases Nat.lt_or_ge i l.length with g | g
    · exact g
    · rw [List.drop_eq_nil_iff.2 g] at h; cases h
  have e : l[i] = x := by
    have := List.drop_eq_getElem_cons hl
    rw [h] at this
    injection this with h1 _
    exact h1.symm
  have hs : (i : Int).toNat < (mkB l).size := by rw [Int.toNat_natCast, mkB_size]; exact hl
  rw [← bt_at _ _ hs, ← e]
  rfl
theorem drop_step {α : Type} {l : List α} {i : Nat} {x : α} {xs : List α} (h : l.drop i = x :: xs) : i < l.length ∧ l.drop (i + 1) = xs := by
  have hl : i < l.length := by
    rcases Nat.lt_or_ge i l.length with g | g
    · exact g
    · rw [List.drop_eq_nil_iff.2 g] at h; cases h
  have := List.drop_eq_getElem_cons hl
  rw [h] at this
  injection this with _ h2
  exact ⟨hl, h2.symm⟩

theorem dd_len (n : Nat) : (Lib.decDigits n).length ≤ n + 1 := by
  induction n using Nat.strongRecOn with
  | _ n ih =>
    rw [Lib.decDigits]
    split
    · simp
    · rename_i h
      have := ih (n / 10) (by omega)
      rw [List.length_append]
      simp only [List.length_cons, List.length_nil]
      omega
theorem dd_pos (n : Nat) : 1 ≤ (Lib.decDigits n).length := by
  rw [Lib.decDigits]
  split <;> simp
def decV (l : List UInt8) : Nat := l.foldl (fun a b => a * 10 + (b.toNat - 48)) 0
theorem decV_dd (n : Nat) : decV (Lib.decDigits n) = n := by
  induction n using Nat.strongRecOn with
  | _ n ih =>
    rw [Lib.decDigits]
    split
    · rename_i h
      simp [decV]
      omega
    · rename_i h
      have := ih (n / 10) (by omega)
      unfold decV at this ⊢
      rw [List.foldl_append, this]
      simp
      omega
theorem dd_inj {a b : Nat} (h : Lib.decDigits a = Lib.decDigits b) : a = b := by
  rw [← decV_dd a, ← decV_dd b, h]
theorem dig_eq (x : Nat) (h : x < 200) : UInt8.ofNat ((((x : Nat) : Int) % 256).toNat) = UInt8.ofNat x := by
  congr 1
  omega
theorem l1Num_ev (n : Nat) (hn : n ≤ 1000000000000) : Ev (fun k => spec_l1Num.f k (n : Int)) (mkB (Lib.decDigits n)) := by
  induction n using Nat.strongRecOn with
  | _ n ih =>
    refine Ev.step (fun k => spec_l1Num.f.eq_2 ..) ?_
    by_cases h : n < 10
    · refine ev_pos (by omega) (ev_now ?_)
      rw [w64 (by omega) (by omega), mkB_nums, Lib.decDigits, dif_pos h]
      have := dig_eq (48 + n) (by omega)
      rw [show (((48 + n : Nat) : Nat) : Int) = 48 + (n : Int) from by omega] at this
      show mkB [UInt8.ofNat (((48 + (n : Int)) % 256).toNat)] = _
      rw [this]
    · refine ev_neg (by omega) ?_
      have e1 : Int.tdiv (n : Int) 10 = ((n / 10 : Nat) : Int) := by rw [Int.tdiv_eq_ediv_of_nonneg (by omega)]; omega
      have e2 : Int.tmod (n : Int) 10 = ((n % 10 : Nat) : Int) := by rw [Int.tmod_eq_emod_of_nonneg (by omega)]; omega
      rw [e1, e2, w64 (x := ((n / 10 : Nat) : Int)) (by omega) (by omega), w64 (x := 48 + ((n % 10 : Nat) : Int)) (by omega) (by omega)]
      have hl := dd_len (n / 10)
      have hs : strOfNums [(48 + ((n % 10 : Nat) : Int)) % 256] = mkB [UInt8.ofNat (48 + n % 10)] := by
        rw [mkB_nums]
        have := dig_eq (48 + n % 10) (by omega)
        rw [show (((48 + n % 10 : Nat) : Nat) : Int) = 48 + ((n % 10 : Nat) : Int) from by omega] at this
        show mkB [UInt8.ofNat (((48 + ((n % 10 : Nat) : Int)) % 256).toNat)] = _
        rw [this]
      refine Ev.bind (ih (n / 10) (by omega) (by omega)) (ev_some rfl ?_)
      rw [hs, mkB_size, mkB_size]
      refine ev_pos (by simp only [List.length_cons, List.length_nil]; omega) (ev_now ?_)
      rw [mkB_append, Lib.decDigits.eq_1 n, dif_neg h]
theorem itoa_eq (n : Nat) (hn : n ≤ 1000000000000) : strconv_Itoa.f (n : Int) = some (mkB (Lib.decDigits n)) := by
  unfold strconv_Itoa.f
  rw [if_pos (by omega), if_pos (by omega)]
  unfold Lib.itoa
  rw [if_neg (by omega), Int.toNat_natCast]
  rfl

def headOn (x : UInt8) : List (List UInt8) → List (List UInt8)
  | p :: ps => (x :: p) :: ps
  | [] => [[x]]
/-- The parts of a text between a byte's places. -/
def parts (c : UInt8) : List UInt8 → List (List UInt8)
  | [] => [[]]
  | x :: xs => if x = c then [] :: parts c xs else headOn x (parts c xs)
def glue (cur : List UInt8) : List (List UInt8) → List (List UInt8)
  | p :: ps => (cur ++ p) :: ps
  | [] => [cur]
theorem headOn_length (x : UInt8) (ps : List (List UInt8)) (h : ps ≠ []) : (headOn x ps).length = ps.length := by
  cases ps with
  | nil => exact absurd rfl h
  | cons p ps => rfl
theorem parts_ne (c : UInt8) (l : List UInt8) : parts c l ≠ [] := by
  cases l with
  | nil => simp [parts]
  | cons x xs =>
    rw [parts]
    split
    · simp
    · cases parts c xs <;> simp [headOn]
theorem parts_length (c : UInt8) : ∀ (l : List UInt8), (parts c l).length ≤ l.length + 1
  | [] => by simp [parts]
  | x :: xs => by
    have := parts_length c xs
    rw [parts]
    split
    · simp only [List.length_cons]; omega
    · rw [headOn_length x _ (parts_ne c xs)]; simp only [List.length_cons]; omega
theorem parts_part_len (c : UInt8) : ∀ (l : List UInt8), ∀ p ∈ parts c l, p.length ≤ l.length
  | [], p, h => by simp [parts] at h; subst h; simp
  | x :: xs, p, h => by
    rw [parts] at h
    split at h
    · rcases List.mem_cons.1 h with rfl | h
      · simp
      · have := parts_part_len c xs p h; simp only [List.length_cons]; omega
    · have hne := parts_ne c xs
      rcases hp : parts c xs with _ | ⟨q, qs⟩
      · exact absurd hp hne
      · rw [hp] at h
        rcases List.mem_cons.1 h with rfl | h
        · have := parts_part_len c xs q (by rw [hp]; exact List.mem_cons_self)
          simp only [List.length_cons]; omega
        · have := parts_part_len c xs p (by rw [hp]; exact List.mem_cons_of_mem _ h)
          simp only [List.length_cons]; omega
theorem glue_nil (ps : List (List UInt8)) (h : ps ≠ []) : glue [] ps = ps := by
  cases ps with
  | nil => exact absurd rfl h
  | cons p ps => rfl
theorem glue_head (cur : List UInt8) (x : UInt8) (ps : List (List UInt8)) : glue (cur ++ [x]) ps = glue cur (headOn x ps) := by
  cases ps with
  | nil => rfl
  | cons p ps => simp [glue, headOn]

theorem l1In_eq (a lo hi : Int) : spec_l1In.f a lo hi = some (decide (lo ≤ a ∧ a ≤ hi)) := by
  unfold spec_l1In.f
  by_cases h : a ≥ lo
  · rw [if_pos h]; congr 1; simp [show lo ≤ a from h]
  · rw [if_neg h]; congr 1; simp; omega

/-! ### Numerals read, and the range of a text -/
theorem dd_digit (n : Nat) : ∀ x ∈ Lib.decDigits n, 48 ≤ x.toNat ∧ x.toNat ≤ 57 := by
  induction n using Nat.strongRecOn with
  | _ n ih =>
    intro x hx
    rw [Lib.decDigits] at hx
    split at hx
    · rename_i h
      rw [List.mem_singleton] at hx
      subst hx
      rw [UInt8.toNat_ofNat']
      omega
    · rename_i h
      rcases List.mem_append.1 hx with hx | hx
      · exact ih (n / 10) (by omega) x hx
      · rw [List.mem_singleton] at hx
        subst hx
        rw [UInt8.toNat_ofNat']
        omega
theorem dd_no45 (n : Nat) : (45 : UInt8) ∉ Lib.decDigits n := fun h => by
  have := dd_digit n 45 h
  have e : (45 : UInt8).toNat = 45 := rfl
  omega
theorem dd_cons (n : Nat) (h : ¬ n < 10) : Lib.decDigits n = Lib.decDigits (n / 10) ++ [UInt8.ofNat (48 + n % 10)] := by rw [Lib.decDigits.eq_1 n, dif_neg h]
theorem dd_small (k n : Nat) (h : n < 10 ^ (k + 1)) : (Lib.decDigits n).length ≤ k + 1 := by
  induction k generalizing n with
  | zero => rw [Lib.decDigits, dif_pos (by omega)]; simp
  | succ k ih =>
    by_cases c : n < 10
    · rw [Lib.decDigits, dif_pos c]; simp
    · rw [dd_cons n c, List.length_append, List.length_singleton]
      have := ih (n / 10) (by rw [Nat.pow_succ] at h; omega)
      omega
theorem dd_mono (a b : Nat) (h : a ≤ b) : (Lib.decDigits a).length ≤ (Lib.decDigits b).length := by
  induction a using Nat.strongRecOn generalizing b with
  | _ a ih =>
    by_cases c : a < 10
    · have := dd_pos b
      rw [Lib.decDigits, dif_pos c]
      simp only [List.length_singleton]
      omega
    · rw [dd_cons a c, dd_cons b (by omega), List.length_append, List.length_append]
      have := ih (a / 10) (by omega) (b / 10) (by omega)
      simp only [List.length_singleton]
      omega
theorem dd_head (n : Nat) (h : 1 ≤ n) : ∃ x xs, Lib.decDigits n = x :: xs ∧ 49 ≤ x.toNat := by
  induction n using Nat.strongRecOn with
  | _ n ih =>
    by_cases c : n < 10
    · refine ⟨UInt8.ofNat (48 + n), [], by rw [Lib.decDigits, dif_pos c], ?_⟩
      rw [UInt8.toNat_ofNat']
      omega
    · obtain ⟨x, xs, e, hx⟩ := ih (n / 10) (by omega) (by omega)
      exact ⟨x, xs ++ [UInt8.ofNat (48 + n % 10)], by rw [dd_cons n c, e]; rfl, hx⟩
def readFrom : Int → List UInt8 → Int
  | a, [] => a
  | a, c :: r => if c.toNat < 48 then -1 else (if c.toNat > 57 then -1 else readFrom (10 * a + ((c.toNat : Int) - 48)) r)
theorem readFrom_digits : ∀ (l : List UInt8) (a : Nat), (∀ x ∈ l, 48 ≤ x.toNat ∧ x.toNat ≤ 57) → readFrom (a : Int) l = ((l.foldl (fun a b => a * 10 + (b.toNat - 48)) a : Nat) : Int)
  | [], _, _ => rfl
  | c :: r, a, h => by
    have hc := h c List.mem_cons_self
    rw [readFrom, if_neg (by omega), if_neg (by omega), List.foldl_cons, ← readFrom_digits r _ (fun x hx => h x (List.mem_cons_of_mem _ hx))]
    congr 1
    omega
def readV (l : List UInt8) : Int := if 1 ≤ l.length ∧ l.length ≤ 6 then (if l.head? = some 48 ∧ l.length > 1 then -1 else readFrom 0 l) else -1
theorem readV_dd (n : Nat) (h : 1 ≤ n ∧ n ≤ 2000) : readV (Lib.decDigits n) = n := by
  have hl := dd_small 3 n (by omega)
  have hp := dd_pos n
  obtain ⟨x, xs, e, hx⟩ := dd_head n h.1
  unfold readV
  rw [if_pos (by omega), if_neg]
  · have := readFrom_digits (Lib.decDigits n) 0 (dd_digit n)
    have e2 : ((Lib.decDigits n).foldl (fun a b => a * 10 + (b.toNat - 48)) 0) = n := decV_dd n
    rw [e2] at this
    exact this
  · rw [e]
    intro hh
    have := hh.1
    simp only [List.head?_cons, Option.some.injEq] at this
    subst this
    have e3 : (48 : UInt8).toNat = 48 := rfl
    omega
theorem readFrom_bd : ∀ (l : List UInt8) (a : Int) (k : Nat), 0 ≤ a → a < 10 ^ k → l.length + k ≤ 9 → -1 ≤ readFrom a l ∧ readFrom a l ≤ 1000000000
  | [], a, k, h0, h1, h2 => by
    have : (10 : Int) ^ k ≤ 10 ^ 9 := by
      have := Nat.pow_le_pow_right (n := 10) (by omega) (show k ≤ 9 by simp at h2; omega)
      exact_mod_cast this
    rw [readFrom]
    have e : (10 : Int) ^ 9 = 1000000000 := by decide
    omega
  | c :: r, a, k, h0, h1, h2 => by
    rw [readFrom]
    split
    · omega
    · split
      · omega
      · refine readFrom_bd r _ (k + 1) (by omega) ?_ (by simp only [List.length_cons] at h2; omega)
        rw [Int.pow_succ]
        omega
theorem l1Read_l (l : List UInt8) (hl : l.length ≤ 6) : ∀ (ys : List UInt8) (i : Nat) (a : Int) (k : Nat), l.drop i = ys → 0 ≤ a → a < 10 ^ k → ys.length + k ≤ 9 →
    Ev (fun k => spec_l1Read.l0 k (mkB l) a (i : Int)) (readFrom a ys) := by
  intro ys
  induction ys with
  | nil =>
    intro i a k h _ _ _
    have := List.drop_eq_nil_iff.1 h
    refine Ev.step (fun k => spec_l1Read.l0.eq_2 ..) ?_
    rw [mkB_size]
    exact ev_neg (by omega) (ev_now rfl)
  | cons y ys ih =>
    intro i a k h h0 h1 h2
    obtain ⟨g1, g2⟩ := drop_step h
    simp only [List.length_cons] at h2
    have hy := y.toNat_lt
    have hk : (10 : Int) ^ k ≤ 10 ^ 9 := by
      have := Nat.pow_le_pow_right (n := 10) (by omega) (show k ≤ 9 by omega)
      exact_mod_cast this
    have e9 : (10 : Int) ^ 9 = 1000000000 := by decide
    refine Ev.step (fun k => spec_l1Read.l0.eq_2 ..) ?_
    rw [bt_mkB h, mkB_size, readFrom, w64 (x := (i : Int) + 1) (by omega) (by omega), w64 (x := 10 * a) (by omega) (by omega)]
    refine ev_pos (by omega) (ev_pos (by omega) ?_)
    by_cases c1 : y.toNat < 48
    · rw [if_pos c1]; exact ev_pos (by omega) (ev_now rfl)
    · rw [if_neg c1]
      by_cases c2 : y.toNat > 57
      · rw [if_pos c2]; exact ev_neg (by omega) (ev_pos (by omega) (ev_now rfl))
      · rw [if_neg c2]
        refine ev_neg (by omega) (ev_neg (by omega) ?_)
        rw [w64 (x := 10 * a + (((y.toNat : Int) - 48) % 256)) (by omega) (by omega), show ((y.toNat : Int) - 48) % 256 = (y.toNat : Int) - 48 from by omega, show (i : Int) + 1 = ((i + 1 : Nat) : Int) from by omega]
        refine ih (i + 1) _ (k + 1) g2 (by omega) ?_ (by omega)
        rw [Int.pow_succ]
        omega
theorem l1Read_ev (l : List UInt8) : Ev (fun k => spec_l1Read.f k (mkB l)) (readV l) := by
  unfold spec_l1Read.f readV
  rw [mkB_size]
  refine ev_some (l1In_eq ..) ?_
  by_cases h : 1 ≤ l.length ∧ l.length ≤ 6
  · rw [if_pos h]
    obtain ⟨x, xs, hx⟩ : ∃ x xs, l = x :: xs := by
      rcases l with _ | ⟨x, xs⟩
      · simp at h
      · exact ⟨x, xs, rfl⟩
    have hb : bt (mkB l) 0 = (x.toNat : Int) := bt_mkB (i := 0) (by rw [List.drop_zero]; exact hx)
    have hrun : Ev (fun k => spec_l1Read.j0 k (mkB l) false) (readFrom 0 l) := Ev.step (fun k => spec_l1Read.j0.eq_2 ..) (ev_neg (by simp) (l1Read_l l (by omega) l 0 0 0 rfl (by omega) (by decide) (by omega)))
    refine ev_pos (decide_eq_true (by omega)) (ev_pos (by omega) ?_)
    rw [hb]
    by_cases c : x.toNat = 48
    · have hx48 : x = 48 := UInt8.toNat_inj.1 c
      refine ev_pos (by omega) ?_
      by_cases d : l.length > 1
      · rw [if_pos ⟨by rw [hx, hx48]; rfl, d⟩]
        exact Ev.step (fun k => spec_l1Read.j0.eq_2 ..) (ev_pos (decide_eq_true (by omega)) (ev_now rfl))
      · rw [if_neg (fun hh => d hh.2)]
        have e : decide ((l.length : Int) > 1) = false := decide_eq_false (by omega)
        rw [e]; exact hrun
    · rw [if_neg (fun hh => by
        have := hh.1
        rw [hx] at this
        simp only [List.head?_cons, Option.some.injEq] at this
        subst this
        exact c rfl)]
      exact ev_neg (by omega) hrun
  · rw [if_neg h]
    exact ev_neg (by rw [decide_eq_false (by omega)]; simp) (Ev.step (fun k => spec_l1Read.j0.eq_2 ..) (ev_pos rfl (ev_now rfl)))
theorem readV_bd (l : List UInt8) : -1 ≤ readV l ∧ readV l ≤ 1000000000 := by
  unfold readV
  split
  · split
    · omega
    · exact readFrom_bd l 0 0 (by omega) (by decide) (by omega)
  · omega
theorem parts_no (c : UInt8) : ∀ (l : List UInt8), c ∉ l → parts c l = [l]
  | [], _ => rfl
  | x :: xs, h => by
    simp only [List.mem_cons, not_or] at h
    rw [parts, if_neg (Ne.symm h.1), parts_no c xs h.2]
    rfl
theorem parts_two (c : UInt8) : ∀ (l r : List UInt8), c ∉ l → parts c (l ++ c :: r) = l :: parts c r
  | [], r, _ => by rw [List.nil_append, parts, if_pos rfl]
  | x :: xs, r, h => by
    simp only [List.mem_cons, not_or] at h
    rw [List.cons_append, parts, if_neg (Ne.symm h.1), parts_two c xs r h.2]
    rfl
theorem idx_cons_ (x c : UInt8) (xs : List UInt8) (h : x ≠ c) : Lib.index (x :: xs) [c] = if Lib.index xs [c] == -1 then -1 else Lib.index xs [c] + 1 := by
  have hp : ([c] : List UInt8).isPrefixOf (x :: xs) = false := by simp [List.isPrefixOf, Ne.symm h]
  rw [Lib.index, hp]; simp
theorem idx_head_ (c : UInt8) (xs : List UInt8) : Lib.index (c :: xs) [c] = 0 := by rw [Lib.index]; simp [List.isPrefixOf]
theorem decFrom_digits : ∀ (l : List UInt8) (a : Nat), (∀ x ∈ l, 48 ≤ x.toNat ∧ x.toNat ≤ 57) → Lib.decFrom a l = some (l.foldl (fun a b => a * 10 + (b.toNat - 48)) a)
  | [], _, _ => rfl
  | c :: r, a, h => by
    have hc := h c List.mem_cons_self
    rw [Lib.decFrom, Lib.digitVal, if_pos hc, List.foldl_cons, ← decFrom_digits r _ (fun x hx => h x (List.mem_cons_of_mem _ hx))]
theorem atoiE_dd (n : Nat) (h : 1 ≤ n ∧ n ≤ 2000) : atoiE (mkB (Lib.decDigits n)) = some (n : Int) := by
  have hl := dd_small 3 n (by omega)
  obtain ⟨x, xs, e, hx⟩ := dd_head n h.1
  have hd := dd_digit n x (by rw [e]; exact List.mem_cons_self)
  have h1 : Lib.decNat (Lib.decDigits n) = some n := by
    unfold Lib.decNat
    rw [if_neg (by rw [e]; simp), decFrom_digits _ _ (dd_digit n)]
    exact congrArg some (decV_dd n)
  have h2 : Lib.atoi (Lib.decDigits n) = some (n : Int) := by
    have h45 : (x == 45) = false := by
      rw [beq_eq_false_iff_ne]
      intro hh; subst hh
      have e3 : (45 : UInt8).toNat = 45 := rfl
      omega
    have h43 : (x == 43) = false := by
      rw [beq_eq_false_iff_ne]
      intro hh; subst hh
      have e3 : (43 : UInt8).toNat = 43 := rfl
      omega
    rw [e]
    simp only [Lib.atoi, h45, h43, Bool.false_eq_true, if_false]
    rw [← e, h1]; rfl
  unfold atoiE
  rw [mkB_data, Lib.atoiAll_short _ (by omega), h2]
  rfl
theorem tol_mkB (l : List UInt8) : (mkB l).toList = l := by rw [ByteArray.toList_eq, mkB_data]

theorem idxc_ (x c : UInt8) (xs : List UInt8) (h : x ≠ c) (k : Nat) : Lib.splitK [c] 0 (k + 1) (x :: xs) = headOn x (Lib.splitK [c] 0 (k + 1) xs) := by
  rw [Lib.splitK, Lib.splitK, idx_cons_ x c xs h]
  by_cases m : Lib.index xs [c] = -1
  · rw [if_pos (by rw [m]; simp), if_pos (by rw [m]; simp)]; rfl
  · have hge := Lib.index_ge xs [c]
    obtain ⟨j, hj⟩ : ∃ j : Nat, Lib.index xs [c] = j := ⟨(Lib.index xs [c]).toNat, by omega⟩
    have n1 : ((j : Int) == -1) = false := by simp
    have n2 : (((j : Int) + 1) == -1) = false := by simp; omega
    have t1 : ((j : Int) + 1).toNat = j + 1 := by omega
    rw [hj, n1]
    simp only [Bool.false_eq_true, if_false]
    rw [n2]
    simp only [Bool.false_eq_true, if_false, t1, Int.toNat_natCast, Nat.add_zero, List.length_cons, List.length_nil]
    rfl
theorem splitK_or (c : UInt8) : ∀ (l : List UInt8) (k : Nat), Lib.splitK [c] 0 k l = parts c l ∨ ((∃ w ∈ Lib.splitK [c] 0 k l, c ∈ w) ∧ k + 2 ≤ (parts c l).length)
  | l, 0 => by
    have e : Lib.splitK [c] 0 0 l = [l] := by rw [Lib.splitK]
    rw [e]
    by_cases h : c ∈ l
    · refine Or.inr ⟨⟨l, List.mem_singleton.2 rfl, h⟩, ?_⟩
      obtain ⟨p, q, rfl, hp⟩ : ∃ p q, l = p ++ c :: q ∧ c ∉ p := by
        induction l with
        | nil => simp at h
        | cons x xs ih =>
          by_cases hx : x = c
          · exact ⟨[], xs, by rw [hx]; rfl, by simp⟩
          · obtain ⟨p, q, e, hp⟩ := ih (by rw [Lib.splitK]) (by
              rcases List.mem_cons.1 h with h | h
              · exact absurd h.symm hx
              · exact h)
            exact ⟨x :: p, q, by rw [e]; rfl, by simp only [List.mem_cons, not_or]; exact ⟨Ne.symm hx, hp⟩⟩
      rw [parts_two c p q hp, List.length_cons]
      have := List.length_pos_iff.2 (parts_ne c q)
      omega
    · exact Or.inl (parts_no c l h).symm
  | [], k + 1 => by
    refine Or.inl ?_
    rw [Lib.splitK, if_pos (by simp [Lib.index])]; rfl
  | x :: xs, k + 1 => by
    by_cases h : x = c
    · subst h
      have e : Lib.splitK [x] 0 (k + 1) (x :: xs) = [] :: Lib.splitK [x] 0 k xs := by
        rw [Lib.splitK, idx_head_, if_neg (by simp)]
        simp only [Int.toNat_zero, Nat.zero_add, List.take_zero, List.length_cons, List.length_nil, List.drop_succ_cons, List.drop_zero]
      have e2 : parts x (x :: xs) = [] :: parts x xs := by rw [parts, if_pos rfl]
      rw [e, e2]
      rcases splitK_or x xs k with h | ⟨⟨w, hw, hc⟩, hl⟩
      · exact Or.inl (by rw [h])
      · exact Or.inr ⟨⟨w, List.mem_cons_of_mem _ hw, hc⟩, by rw [List.length_cons]; omega⟩
    · have e2 : parts c (x :: xs) = headOn x (parts c xs) := by rw [parts, if_neg h]
      rw [idxc_ x c xs h k, e2]
      rcases splitK_or c xs (k + 1) with g | ⟨⟨w, hw, hc⟩, hl⟩
      · exact Or.inl (by rw [g])
      · refine Or.inr ⟨?_, by rw [headOn_length x _ (parts_ne c xs)]; exact hl⟩
        rcases hs : Lib.splitK [c] 0 (k + 1) xs with _ | ⟨p, ps⟩
        · rw [hs] at hw; simp at hw
        · rw [hs] at hw
          rcases List.mem_cons.1 hw with rfl | hw
          · exact ⟨x :: w, by simp [headOn], List.mem_cons_of_mem _ hc⟩
          · exact ⟨w, by simp [headOn, hw], hc⟩
theorem splitK_len (c : UInt8) : ∀ (k : Nat) (l : List UInt8), (Lib.splitK [c] 0 k l).length ≤ k + 1 ∧ ∀ w ∈ Lib.splitK [c] 0 k l, w.length ≤ l.length
  | 0, l => by
    have e : Lib.splitK [c] 0 0 l = [l] := by rw [Lib.splitK]
    rw [e]
    exact ⟨by simp, fun w hw => by rw [List.mem_singleton.1 hw]; exact Nat.le_refl _⟩
  | k + 1, l => by
    rw [Lib.splitK]
    split
    · exact ⟨by simp, fun w hw => by rw [List.mem_singleton.1 hw]; exact Nat.le_refl _⟩
    · obtain ⟨h1, h2⟩ := splitK_len c k (l.drop ((Lib.index l [c]).toNat + [c].length))
      refine ⟨by rw [List.length_cons]; omega, fun w hw => ?_⟩
      rcases List.mem_cons.1 hw with rfl | hw
      · rw [List.length_take]; omega
      · have := h2 w hw
        rw [List.length_drop] at this
        omega

theorem l1Split_l (c : UInt8) (l : List UInt8) (hl : l.length ≤ 2000000) : ∀ (ys : List UInt8) (i frm : Nat) (acc : List ByteArray), l.drop i = ys → i ≤ l.length → frm ≤ i → acc.length + ys.length ≤ 2000000 →
    Ev (fun k => spec_l1Split.l0 k (mkB l) (c.toNat : Int) acc (frm : Int) (i : Int)) (acc ++ (glue ((l.take i).drop frm) (parts c ys)).map mkB) := by
  intro ys
  induction ys with
  | nil =>
    intro i frm acc h hi hf ha
    have := List.drop_eq_nil_iff.1 h
    refine Ev.step (fun k => spec_l1Split.l0.eq_2 ..) ?_
    rw [mkB_size, Int.toNat_natCast]
    have e0 : (mkB l).extract frm l.length = mkB (l.drop frm) := by have := mkB_drop l frm; rw [mkB_size] at this; exact this
    rw [e0]
    refine ev_neg (by omega) (ev_pos (by omega) (ev_pos (by omega) (ev_pos (by simp only [List.length_nil] at ha; omega) (ev_now ?_))))
    rw [parts, glue, List.take_of_length_le (by omega)]
    simp
  | cons y ys ih =>
    intro i frm acc h hi hf ha
    obtain ⟨g1, g2⟩ := drop_step h
    simp only [List.length_cons] at ha
    refine Ev.step (fun k => spec_l1Split.l0.eq_2 ..) ?_
    rw [bt_mkB h, mkB_size, w64 (x := (i : Int) + 1) (by omega) (by omega), Int.toNat_natCast, Int.toNat_natCast, mkB_slice, show (i : Int) + 1 = ((i + 1 : Nat) : Int) from by omega]
    refine ev_pos (by omega) (ev_pos (by omega) ?_)
    have htk : (l.take (i + 1)).drop frm = (l.take i).drop frm ++ [y] := by
      have e : l.take (i + 1) = l.take i ++ [y] := by
        rw [List.take_add_one]
        have : l[i]? = some y := by rw [List.getElem?_eq_getElem g1]; have := List.drop_eq_getElem_cons g1; rw [h] at this; injection this with a _; rw [a]
        rw [this]; rfl
      rw [e, List.drop_append_of_le_length (by rw [List.length_take]; omega)]
    by_cases e : y = c
    · subst e
      refine ev_pos rfl (ev_pos (by omega) (ev_pos (by omega) (ev_pos (by omega) (ev_pos (by omega) ?_))))
      refine ev_val (ih (i + 1) (i + 1) _ g2 (by omega) (Nat.le_refl _) (by simp only [List.length_append, List.length_cons, List.length_nil]; omega)) ?_
      have e3 : (l.take (i + 1)).drop (i + 1) = [] := List.drop_of_length_le (by rw [List.length_take]; omega)
      rw [e3, glue_nil _ (parts_ne _ _), parts, if_pos rfl]
      simp only [glue, List.append_nil, List.map_cons, List.append_assoc, List.cons_append, List.nil_append]
    · have hne : ¬ ((y.toNat : Int) = (c.toNat : Int)) := fun q => e (UInt8.toNat_inj.1 (by omega))
      refine ev_neg hne (ev_val (ih (i + 1) frm acc g2 (by omega) (by omega) (by omega)) ?_)
      rw [htk, glue_head, parts, if_neg e]
theorem l1Split_ev (c : UInt8) (l : List UInt8) (hl : l.length ≤ 1999999) : Ev (fun k => spec_l1Split.f k (mkB l) (c.toNat : Int)) ((parts c l).map mkB) := by
  unfold spec_l1Split.f
  refine ev_val (l1Split_l c l (by omega) l 0 0 [] rfl (by omega) (Nat.le_refl _) (by simp only [List.length_nil]; omega)) ?_
  rw [List.take_zero, List.drop_nil, glue_nil _ (parts_ne _ _), List.nil_append]

theorem within_eq (a lo hi : Int) : impl_within.f a lo hi = some (decide (lo ≤ a ∧ a ≤ hi)) := by
  unfold impl_within.f
  by_cases h : a ≥ lo
  · rw [if_pos h]; congr 1; simp [show lo ≤ a from h]
  · rw [if_neg h]; congr 1; simp; omega

theorem allWithin_l (lo hi : Int) (xs : List Int) (hn : xs.length < 4611686018427387904) : ∀ (ys : List Int) (i : Int), 0 ≤ i → xs.drop i.toNat = ys →
    Ev (fun k => impl_allWithin.l0 k lo hi xs (xs.length : Int) i) (decide (∀ n ∈ ys, lo ≤ n ∧ n ≤ hi)) := by
  intro ys
  induction ys with
  | nil =>
    intro i h0 h
    have := drop_nil h0 h
    refine Ev.step (fun k => impl_allWithin.l0.eq_2 ..) ?_
    exact ev_neg (by omega) (ev_now (by simp))
  | cons y ys ih =>
    intro i h0 h
    obtain ⟨h1, h2, h3, _⟩ := drop_cons h0 h
    refine Ev.step (fun k => impl_allWithin.l0.eq_2 ..) ?_
    refine ev_pos h1 (ev_pos h0 (ev_pos h1 ?_))
    rw [h2, w64 (by omega) (by omega)]
    refine ev_some (within_eq ..) ?_
    by_cases hy : lo ≤ y ∧ y ≤ hi
    · exact ev_pos (by simpa using hy) (ev_val (ih _ (by omega) h3) (by simp [hy]))
    · exact ev_neg (by simpa using hy) (ev_now (by simp [hy]))
theorem allWithin_ev (xs : List Int) (lo hi : Int) (hn : xs.length < 4611686018427387904) :
    Ev (fun k => impl_allWithin.f k xs lo hi) (decide (∀ n ∈ xs, lo ≤ n ∧ n ≤ hi)) := allWithin_l lo hi xs hn xs 0 (by omega) rfl

theorem l1All_l (lo hi : Int) (xs : List Int) (hn : xs.length < 4611686018427387904) : ∀ (ys : List Int) (i : Int), 0 ≤ i → xs.drop i.toNat = ys →
    Ev (fun k => spec_l1All.l0 k lo hi xs (xs.length : Int) i) (decide (∀ n ∈ ys, lo ≤ n ∧ n ≤ hi)) := by
  intro ys
  induction ys with
  | nil =>
    intro i h0 h
    have := drop_nil h0 h
    refine Ev.step (fun k => spec_l1All.l0.eq_2 ..) ?_
    exact ev_neg (by omega) (ev_now (by simp))
  | cons y ys ih =>
    intro i h0 h
    obtain ⟨h1, h2, h3, _⟩ := drop_cons h0 h
    refine Ev.step (fun k => spec_l1All.l0.eq_2 ..) ?_
    refine ev_pos h1 (ev_pos h0 (ev_pos h1 ?_))
    rw [h2, w64 (by omega) (by omega)]
    refine ev_some (l1In_eq ..) ?_
    by_cases hy : lo ≤ y ∧ y ≤ hi
    · exact ev_pos (by simpa using hy) (ev_val (ih _ (by omega) h3) (by simp [hy]))
    · exact ev_neg (by simpa using hy) (ev_now (by simp [hy]))
theorem l1All_ev (xs : List Int) (lo hi : Int) (hn : xs.length < 4611686018427387904) :
    Ev (fun k => spec_l1All.f k xs lo hi) (decide (∀ n ∈ xs, lo ≤ n ∧ n ≤ hi)) := l1All_l lo hi xs hn xs 0 (by omega) rfl

def goodC (xs : List Int) : Bool := decide (1 ≤ xs.length ∧ xs.length ≤ 12) && decide (∀ n ∈ xs, 1 ≤ n ∧ n ≤ 120)
theorem goodC_true {xs : List Int} (h : goodC xs = true) : 1 ≤ xs.length ∧ xs.length ≤ 12 ∧ ∀ n ∈ xs, 1 ≤ n ∧ n ≤ 120 := by
  simp only [goodC, Bool.and_eq_true, decide_eq_true_eq] at h
  exact ⟨h.1.1, h.1.2, h.2⟩
theorem caGood_ev (xs : List Int) (hn : xs.length ≤ 1048576) : Ev (fun k => spec_caGood.f k xs) (goodC xs) := by
  unfold spec_caGood.f goodC
  refine ev_some (l1In_eq ..) ?_
  by_cases h : 1 ≤ (xs.length : Int) ∧ (xs.length : Int) ≤ 12
  · have e : (1 ≤ xs.length ∧ xs.length ≤ 12) := by omega
    refine ev_pos (decide_eq_true h) (Ev.bind (l1All_ev xs 1 120 (by omega)) (ev_now ?_))
    rw [decide_eq_true e, Bool.true_and]
  · have e : ¬ (1 ≤ xs.length ∧ xs.length ≤ 12) := by omega
    refine ev_neg (by rw [decide_eq_false h]; simp) (ev_now ?_)
    rw [decide_eq_false e, Bool.false_and]
theorem areCh_ev (xs : List Int) (hn : xs.length ≤ 1048576) : Ev (fun k => impl_AreChapters.f k xs) (goodC xs) := by
  unfold impl_AreChapters.f goodC
  refine ev_some (within_eq ..) ?_
  by_cases h : 1 ≤ (xs.length : Int) ∧ (xs.length : Int) ≤ 12
  · have e : (1 ≤ xs.length ∧ xs.length ≤ 12) := by omega
    refine ev_pos (decide_eq_true h) (Ev.bind (allWithin_ev xs 1 120 (by omega)) (ev_now ?_))
    rw [decide_eq_true e, Bool.true_and]
  · have e : ¬ (1 ≤ xs.length ∧ xs.length ≤ 12) := by omega
    refine ev_neg (by rw [decide_eq_false h]; simp) (ev_now ?_)
    rw [decide_eq_false e, Bool.false_and]

def ndd (n : Int) : List UInt8 := Lib.decDigits n.toNat
theorem ndd_len {n : Int} (h1 : n ≤ 1000000) : (ndd n).length ≤ 1000001 := by
  have := dd_len n.toNat
  unfold ndd; omega
theorem l1NumI_ev (n : Int) (h0 : 0 ≤ n) (h1 : n ≤ 1000000) : Ev (fun k => spec_l1Num.f k n) (mkB (ndd n)) := by
  have := l1Num_ev n.toNat (by omega)
  rw [Int.toNat_of_nonneg h0] at this
  exact this
theorem itoaI_eq (n : Int) (h0 : 0 ≤ n) (h1 : n ≤ 1000000) : strconv_Itoa.f n = some (mkB (ndd n)) := by
  have := itoa_eq n.toNat (by omega)
  rw [Int.toNat_of_nonneg h0] at this
  exact this

def tailN : List Int → List UInt8
  | [] => []
  | y :: ys => 43 :: (ndd y ++ tailN ys)
def textN : List Int → List UInt8
  | [] => []
  | y :: ys => ndd y ++ tailN ys
theorem ndd_small {n : Int} (h1 : n ≤ 2000) : (ndd n).length ≤ 2001 := by
  have := dd_len n.toNat
  unfold ndd; omega
theorem tailN_len : ∀ (ys : List Int), (∀ r ∈ ys, r ≤ 2000) → (tailN ys).length ≤ 2002 * ys.length
  | [], _ => by simp [tailN]
  | y :: ys, h => by
    have h1 := ndd_small (h y List.mem_cons_self)
    have h2 := tailN_len ys (fun r hr => h r (List.mem_cons_of_mem _ hr))
    simp only [tailN, List.length_cons, List.length_append]; omega
theorem tailN_join : ∀ (ys : List Int), tailN ys = Lib.joinTail [43] (ys.map ndd)
  | [] => rfl
  | y :: ys => by
    rw [tailN, tailN_join ys]
    simp [Lib.joinTail]
theorem textN_join (ys : List Int) : Lib.join (ys.map ndd) [43] = textN ys := by
  rcases ys with _ | ⟨y, ys⟩
  · rfl
  · rw [List.map_cons, Lib.join_cons, textN, tailN_join]
theorem append43 (f t : List UInt8) : mkB f ++ (⟨#[43]⟩ : ByteArray) ++ mkB t = mkB (f ++ 43 :: t) := by
  have : (⟨#[43]⟩ : ByteArray) = mkB [43] := rfl
  rw [this, mkB_append, mkB_append, List.append_assoc]; rfl
theorem size43 (f : List UInt8) : (mkB f ++ (⟨#[43]⟩ : ByteArray)).size = f.length + 1 := by
  have : (⟨#[43]⟩ : ByteArray) = mkB [43] := rfl
  rw [this, mkB_append, mkB_size]; simp
theorem caText_l (xs : List Int) (hn : xs.length ≤ 1048576) (hb : ∀ r ∈ xs, 0 ≤ r ∧ r ≤ 2000) : ∀ (ys : List Int) (i : Int) (acc : List UInt8), 1 ≤ i → xs.drop i.toNat = ys → acc.length + 3000 * ys.length ≤ 100000000000 →
    Ev (fun k => spec_caText.l0 k (mkB acc) xs (xs.length : Int) i) (mkB (acc ++ tailN ys)) := by
  intro ys
  induction ys with
  | nil =>
    intro i acc h0 h _
    have := drop_nil (by omega) h
    refine Ev.step (fun k => spec_caText.l0.eq_2 ..) ?_
    exact ev_neg (by omega) (ev_now (by simp [tailN]))
  | cons y ys ih =>
    intro i acc h0 h ha
    obtain ⟨h1, h2, h3, _⟩ := drop_cons (by omega) h
    have hy := hb y (List.mem_of_mem_drop (by rw [h]; exact List.mem_cons_self))
    have hl := ndd_small hy.2
    simp only [List.length_cons] at ha
    refine Ev.step (fun k => spec_caText.l0.eq_2 ..) ?_
    rw [h2, w64 (x := i + 1) (by omega) (by omega), mkB_size, size43]
    refine ev_pos h1 (ev_pos (by omega) (ev_pos h1 (ev_pos (by omega) (ev_pos (by omega) (Ev.bind (l1NumI_ev y hy.1 (by omega)) ?_)))))
    rw [mkB_size, append43]
    refine ev_pos (by omega) (ev_val (ih (i + 1) _ (by omega) h3 (by simp only [List.length_append, List.length_cons]; omega)) ?_)
    rw [tailN]; simp
theorem caText_ev (xs : List Int) (hn : xs.length ≤ 1000) (hb : ∀ r ∈ xs, 0 ≤ r ∧ r ≤ 2000) : Ev (fun k => spec_caText.f k xs) (mkB (textN xs)) := by
  unfold spec_caText.f
  rcases xs with _ | ⟨y, ys⟩
  · refine Ev.step (fun k => spec_caText.l0.eq_2 ..) ?_
    exact ev_neg (by simp) (ev_now rfl)
  · have hy := hb y List.mem_cons_self
    have hl := ndd_small hy.2
    have e0 : rd (y :: ys) 0 = y := rfl
    have e1 : (⟨#[]⟩ : ByteArray) = mkB [] := rfl
    simp only [List.length_cons] at hn
    refine Ev.step (fun k => spec_caText.l0.eq_2 ..) ?_
    rw [e0, e1, w64 (x := (0 : Int) + 1) (by omega) (by omega), mkB_size]
    refine ev_pos (by simp only [List.length_cons]; omega) (ev_pos (by omega) (ev_pos (by simp only [List.length_cons]; omega) (ev_neg (by omega) (Ev.bind (l1NumI_ev y hy.1 (by omega)) ?_))))
    rw [mkB_size, mkB_append]
    refine ev_pos (by simp only [List.length_nil]; omega) ?_
    exact ev_val (caText_l (y :: ys) (by simp only [List.length_cons]; omega) hb ys (0 + 1) _ (by omega) rfl (by simp only [List.nil_append]; omega)) (by rw [List.nil_append, textN])
theorem textN_len (xs : List Int) (hn : xs.length ≤ 1000) (hb : ∀ r ∈ xs, 0 ≤ r ∧ r ≤ 2000) : (textN xs).length ≤ 10000000 := by
  rcases xs with _ | ⟨z, zs⟩
  · simp [textN]
  · have h1 := ndd_small (hb z List.mem_cons_self).2
    have h2 := tailN_len zs (fun r hr => (hb r (List.mem_cons_of_mem _ hr)).2)
    simp only [List.length_cons] at hn
    simp only [textN, List.length_append]; omega
theorem joined_l (xs : List Int) (hn : xs.length ≤ 1000) (hb : ∀ r ∈ xs, 0 ≤ r ∧ r ≤ 2000) : ∀ (ys : List Int) (i : Int), 0 ≤ i → xs.drop i.toNat = ys →
    Ev (fun k => impl_joined.l0 k (⟨#[43]⟩ : ByteArray) ((xs.take i.toNat).map fun r => mkB (ndd r)) xs (xs.length : Int) i) (mkB (textN xs)) := by
  intro ys
  induction ys with
  | nil =>
    intro i h0 h
    have := drop_nil h0 h
    refine Ev.step (fun k => impl_joined.l0.eq_2 ..) ?_
    refine ev_neg (by omega) (ev_some ?_ (ev_now rfl))
    rw [List.take_of_length_le (by omega)]
    have ej : joinB (xs.map fun r => mkB (ndd r)) (⟨#[43]⟩ : ByteArray) = textN xs := by
      unfold joinB
      rw [List.map_map]
      have : ((fun x : ByteArray => x.data.toList) ∘ fun r => mkB (ndd r)) = ndd := by funext r; exact mkB_data _
      rw [this]
      exact textN_join xs
    have hlen := textN_len xs hn hb
    unfold strings_Join.f
    rw [ej, if_pos (by rw [List.length_map]; omega), if_pos (by omega)]
    rfl
  | cons y ys ih =>
    intro i h0 h
    obtain ⟨h1, h2, h3, h4⟩ := drop_cons h0 h
    have hy := hb y (List.mem_of_mem_drop (by rw [h]; exact List.mem_cons_self))
    refine Ev.step (fun k => impl_joined.l0.eq_2 ..) ?_
    rw [h2, w64 (x := i + 1) (by omega) (by omega)]
    refine ev_pos h1 (ev_pos h0 (ev_pos h1 (ev_some (itoaI_eq y hy.1 (by omega)) (ev_pos (by rw [List.length_map, List.length_take]; omega) ?_))))
    have := ih (i + 1) (by omega) h3
    rw [h4, List.map_append] at this
    exact this
theorem joined_ev (xs : List Int) (hn : xs.length ≤ 1000) (hb : ∀ r ∈ xs, 0 ≤ r ∧ r ≤ 2000) : Ev (fun k => impl_joined.f k xs (⟨#[43]⟩ : ByteArray)) (mkB (textN xs)) := by
  unfold impl_joined.f
  exact joined_l xs hn hb xs 0 (by omega) rfl

theorem eqIntS_l (xs : List Int) (hn : xs.length < 4611686018427387904) : ∀ (ys : List Int) (i : Int), 0 ≤ i → xs.drop i.toNat = ys →
    Ev (fun k => laws_eqIntS.l0 k xs xs i) true := by
  intro ys
  induction ys with
  | nil =>
    intro i h0 h
    have := drop_nil h0 h
    refine Ev.step (fun k => laws_eqIntS.l0.eq_2 ..) ?_
    exact ev_neg (by omega) (ev_now rfl)
  | cons y ys ih =>
    intro i h0 h
    obtain ⟨h1, h2, h3, _⟩ := drop_cons h0 h
    refine Ev.step (fun k => laws_eqIntS.l0.eq_2 ..) ?_
    refine ev_pos h1 (ev_pos h0 (ev_pos h1 (ev_pos rfl ?_)))
    rw [w64 (by omega) (by omega)]
    exact ih _ (by omega) h3
theorem eqIntS_ev (xs : List Int) (hn : xs.length < 4611686018427387904) : Ev (fun k => laws_eqIntS.f k xs xs) true := by
  unfold laws_eqIntS.f
  exact ev_pos rfl (eqIntS_l xs hn xs 0 (by omega) rfl)

/-- What a list reads as behind the marking. -/
def marks (n : Nat) : List Int := (List.range n).map (fun i : Nat => (1 : Int) + i)
theorem marks_length (n : Nat) : (marks n).length = n := by simp [marks]
theorem marks_succ (n : Nat) : marks (n + 1) = marks n ++ [(1 : Int) + n] := by simp [marks, List.range_succ]
/-- A list whose first x elements are marked. -/
def marked (l : List Int) (x : Nat) : List Int := marks x ++ l.drop x
theorem marked_zero (l : List Int) : marked l 0 = l := by simp [marked, marks]
theorem marked_length (l : List Int) (x : Nat) (h : x ≤ l.length) : (marked l x).length = l.length := by simp [marked, marks_length]; omega
theorem marked_all (l : List Int) (x : Nat) (h : l.length ≤ x) (h2 : x ≤ l.length) : marked l x = marks l.length := by
  have e : x = l.length := by omega
  subst e
  simp [marked]
theorem marked_set (l : List Int) (x : Nat) (h : x < l.length) : (marked l x).set x (1 + (x : Int)) = marked l (x + 1) := by
  unfold marked
  rw [List.set_append_right _ _ (by rw [marks_length]; exact Nat.le_refl _), marks_length, Nat.sub_self, List.drop_eq_getElem_cons h, List.set_cons_zero, marks_succ, List.append_assoc]
  rfl

theorem markIntS_l (n : Nat) (hn : n < 1073741824) : ∀ (ys : List Int) (i : Nat), i + ys.length = n →
    Ev (fun k => laws_markIntS.l0 k (marks i ++ ys) (1 + (i : Int)) (i : Int)) ((1 : Int) + n, marks n) := by
  intro ys
  induction ys with
  | nil =>
    intro i h
    refine Ev.step (fun k => laws_markIntS.l0.eq_2 ..) ?_
    simp at h
    subst h
    exact ev_neg (by simp [marks_length]) (ev_now (by simp))
  | cons y ys ih =>
    intro i h
    simp at h
    refine Ev.step (fun k => laws_markIntS.l0.eq_2 ..) ?_
    refine ev_pos (by simp [marks_length]; omega) (ev_pos (by omega) ?_)
    rw [w64 (by omega) (by omega), w64 (by omega) (by omega)]
    have e : (marks i ++ y :: ys).set (i : Int).toNat (1 + (i : Int)) = marks (i + 1) ++ ys := by
      rw [marks_succ, Int.toNat_natCast, List.set_append_right _ _ (by rw [marks_length]; exact Nat.le_refl _), marks_length, Nat.sub_self, List.set_cons_zero, List.append_assoc]; rfl
    rw [e]
    have h2 := ih (i + 1) (by omega)
    have e2 : (1 : Int) + ((i + 1 : Nat) : Int) = 1 + (i : Int) + 1 := by omega
    have e3 : ((i + 1 : Nat) : Int) = (i : Int) + 1 := by omega
    rw [e2, e3] at h2
    exact h2
theorem markIntS_ev (xs : List Int) (hn : xs.length < 1073741824) : Ev (fun k => laws_markIntS.f k xs 1) ((1 : Int) + xs.length, marks xs.length) := markIntS_l xs.length hn xs 0 (by omega)

theorem heldIntS_l (n : Nat) (hn : n < 1073741824) : ∀ (m i : Nat), i + m = n →
    Ev (fun k => laws_heldIntS.l0 k (marks n) (1 + (i : Int)) (i : Int)) ((1 : Int) + n) := by
  intro m
  induction m with
  | zero =>
    intro i h
    refine Ev.step (fun k => laws_heldIntS.l0.eq_2 ..) ?_
    exact ev_neg (by rw [marks_length]; omega) (ev_now (by omega))
  | succ m ih =>
    intro i h
    refine Ev.step (fun k => laws_heldIntS.l0.eq_2 ..) ?_
    have hr : rd (marks n) (i : Int) = 1 + (i : Int) := by
      simp [rd, marks, List.getD_eq_getElem?_getD, List.getElem?_range (show i < n by omega)]
    refine ev_pos (by rw [marks_length]; omega) (ev_pos (by omega) (ev_pos hr ?_))
    rw [w64 (by omega) (by omega), w64 (by omega) (by omega)]
    have h2 := ih (i + 1) (by omega)
    have e2 : (1 : Int) + ((i + 1 : Nat) : Int) = 1 + (i : Int) + 1 := by omega
    have e3 : ((i + 1 : Nat) : Int) = (i : Int) + 1 := by omega
    rw [e2, e3] at h2
    exact h2
theorem heldIntS_ev (n : Nat) (hn : n < 1073741824) : Ev (fun k => laws_heldIntS.f k (marks n) 1) ((1 : Int) + n) := heldIntS_l n hn n 0 (by omega)

def finishC (l : List UInt8) (xs : List Int) : List Int × Bool := if goodC xs = true then (if textN xs = l then (xs, true) else ([], false)) else ([], false)
theorem finishC_or (l : List UInt8) (xs : List Int) : finishC l xs = ([], false) ∨ ∃ ys, goodC ys = true ∧ textN ys = l ∧ finishC l xs = (ys, true) := by
  unfold finishC
  by_cases h : goodC xs = true
  · rw [if_pos h]
    by_cases c : textN xs = l
    · rw [if_pos c]; exact Or.inr ⟨xs, h, c, rfl⟩
    · rw [if_neg c]; exact Or.inl rfl
  · rw [if_neg h]; exact Or.inl rfl
theorem finishC_ok (xs : List Int) (h : goodC xs = true) : finishC (textN xs) xs = (xs, true) := by
  unfold finishC
  rw [if_pos h, if_pos rfl]
theorem ndd_no43 (n : Int) : (43 : UInt8) ∉ ndd n := fun h => by
  have := dd_digit n.toNat 43 h
  have e : (43 : UInt8).toNat = 43 := rfl
  omega
theorem parts_text : ∀ (x : Int) (xs : List Int), parts 43 (ndd x ++ tailN xs) = ndd x :: xs.map ndd
  | x, [] => by rw [tailN, List.append_nil]; exact parts_no 43 _ (ndd_no43 x)
  | x, y :: ys => by rw [tailN, parts_two 43 _ _ (ndd_no43 x), parts_text y ys]; rfl
theorem parts_textN (xs : List Int) (h : goodC xs = true) : parts 43 (textN xs) = xs.map ndd := by
  have hg := goodC_true h
  rcases xs with _ | ⟨x, xs⟩
  · simp at hg
  · exact parts_text x xs
theorem tailN_len4 : ∀ (xs : List Int), (∀ n ∈ xs, 1 ≤ n ∧ n ≤ 120) → (tailN xs).length ≤ 4 * xs.length
  | [], _ => by simp [tailN]
  | y :: ys, h => by
    have hy := h y List.mem_cons_self
    have h1 : (ndd y).length ≤ 3 := dd_small 2 y.toNat (by omega)
    have h2 := tailN_len4 ys (fun n hn => h n (List.mem_cons_of_mem _ hn))
    simp only [tailN, List.length_cons, List.length_append]; omega
theorem textN_48 (xs : List Int) (h : goodC xs = true) : (textN xs).length ≤ 48 := by
  have hg := goodC_true h
  rcases xs with _ | ⟨y, ys⟩
  · simp [textN]
  · have hy := hg.2.2 y List.mem_cons_self
    have h1 : (ndd y).length ≤ 3 := dd_small 2 y.toNat (by omega)
    have h2 := tailN_len4 ys (fun n hn => hg.2.2 n (List.mem_cons_of_mem _ hn))
    have h3 := hg.2.1
    simp only [textN, List.length_append, List.length_cons] at h3 ⊢; omega
def specC (l : List UInt8) : List Int × Bool := if l.length > 48 then ([], false) else finishC l ((parts 43 l).map readV)
def atoiAllE : List (List UInt8) → Option (List Int)
  | [] => some []
  | w :: ws => match atoiE (mkB w) with
    | none => none
    | some v => (atoiAllE ws).map (v :: ·)
def words43 (l : List UInt8) : List (List UInt8) := Lib.splitK [43] 0 (min 13 (l.length + 1) - 1) l
def implC (l : List UInt8) : List Int × Bool := if (words43 l).length > 12 then ([], false) else (match atoiAllE (words43 l) with
  | none => ([], false)
  | some xs => finishC l xs)
theorem specC_or (l : List UInt8) : specC l = ([], false) ∨ ∃ ys, goodC ys = true ∧ textN ys = l ∧ specC l = (ys, true) := by
  unfold specC
  split
  · exact Or.inl rfl
  · exact finishC_or ..
theorem implC_or (l : List UInt8) : implC l = ([], false) ∨ ∃ ys, goodC ys = true ∧ textN ys = l ∧ implC l = (ys, true) := by
  unfold implC
  split
  · exact Or.inl rfl
  · split
    · exact Or.inl rfl
    · exact finishC_or ..
theorem readV_map : ∀ (xs : List Int), (∀ n ∈ xs, 1 ≤ n ∧ n ≤ 120) → (xs.map ndd).map readV = xs
  | [], _ => rfl
  | x :: xs, h => by
    have hx := h x List.mem_cons_self
    have h1 : readV (ndd x) = x := by
      have := readV_dd x.toNat (by omega)
      rw [Int.toNat_of_nonneg (by omega)] at this
      exact this
    rw [List.map_cons, List.map_cons, h1, readV_map xs (fun n hn => h n (List.mem_cons_of_mem _ hn))]
theorem atoi_map : ∀ (xs : List Int), (∀ n ∈ xs, 1 ≤ n ∧ n ≤ 120) → atoiAllE (xs.map ndd) = some xs
  | [], _ => rfl
  | x :: xs, h => by
    have hx := h x List.mem_cons_self
    have h1 : atoiE (mkB (ndd x)) = some x := by
      have := atoiE_dd x.toNat (by omega)
      rw [Int.toNat_of_nonneg (by omega)] at this
      exact this
    rw [List.map_cons, atoiAllE, h1, atoi_map xs (fun n hn => h n (List.mem_cons_of_mem _ hn))]
    rfl
theorem specC_ok (xs : List Int) (h : goodC xs = true) : specC (textN xs) = (xs, true) := by
  have hg := goodC_true h
  have hl := textN_48 xs h
  unfold specC
  rw [if_neg (by omega), parts_textN xs h, readV_map xs hg.2.2]
  exact finishC_ok xs h
theorem implC_ok (xs : List Int) (h : goodC xs = true) : implC (textN xs) = (xs, true) := by
  have hg := goodC_true h
  have hp := parts_length 43 (textN xs)
  have hpl : (parts 43 (textN xs)).length = xs.length := by rw [parts_textN xs h, List.length_map]
  have hw : words43 (textN xs) = xs.map ndd := by
    unfold words43
    rcases splitK_or 43 (textN xs) (min 13 ((textN xs).length + 1) - 1) with e | ⟨_, hl⟩
    · rw [e, parts_textN xs h]
    · omega
  unfold implC
  rw [hw, List.length_map, if_neg (by omega), atoi_map xs hg.2.2]
  exact finishC_ok xs h
theorem implC_eq (l : List UInt8) : implC l = specC l := by
  rcases specC_or l with h | ⟨ys, h1, h2, h3⟩
  · rcases implC_or l with g | ⟨ys, h1, h2, h3⟩
    · rw [h, g]
    · rw [← h2, specC_ok ys h1, implC_ok ys h1]
  · rw [← h2, specC_ok ys h1, implC_ok ys h1]
theorem specC_small (l : List UInt8) : (specC l).1.length ≤ 1000 := by
  rcases specC_or l with h | ⟨ys, h1, _, h3⟩
  · rw [h]; simp
  · have := (goodC_true h1).2.1
    rw [h3]; show ys.length ≤ 1000; omega
theorem specC_l (l : List UInt8) (ws : List (List UInt8)) (hn : ws.length ≤ 1000) : ∀ (ys : List (List UInt8)) (i : Int) (out : List Int), 0 ≤ i → ws.drop i.toNat = ys → out.length + ys.length ≤ 1000 →
    Ev (fun k => spec_ParseChapters.l0 k (mkB l) out (ws.map mkB) ((ws.map mkB).length : Int) i) (finishC l (out ++ ys.map readV)) := by
  intro ys
  induction ys with
  | nil =>
    intro i out h0 h ho
    have := drop_nil h0 h
    simp only [List.length_nil] at ho
    refine Ev.step (fun k => spec_ParseChapters.l0.eq_2 ..) (ev_neg (by rw [List.length_map]; omega) (Ev.bind (caGood_ev out (by omega)) ?_))
    rw [List.map_nil, List.append_nil]
    unfold finishC
    by_cases c : goodC out = true
    · have hg := goodC_true c
      rw [if_pos c]
      refine ev_pos c (Ev.bind (caText_ev out (by omega) (fun r hr => by have := hg.2.2 r hr; omega)) ?_)
      rw [tol_mkB, tol_mkB]
      by_cases d : textN out = l
      · exact ev_pos d (ev_now (if_pos d).symm)
      · exact ev_neg d (ev_now (if_neg d).symm)
    · exact ev_neg c (ev_now (if_neg c).symm)
  | cons y ys ih =>
    intro i out h0 h ho
    obtain ⟨h1, _, h3, _⟩ := drop_get h0 h
    simp only [List.length_cons] at ho
    have hd : (ws.map mkB).drop i.toNat = mkB y :: ys.map mkB := by rw [← List.map_drop, h]; rfl
    have hr : rdOf ByteArray.empty (ws.map mkB) i = mkB y := (drop_get h0 hd).2.1 _
    refine Ev.step (fun k => spec_ParseChapters.l0.eq_2 ..) ?_
    rw [hr, w64 (x := i + 1) (by omega) (by omega)]
    refine ev_pos (by rw [List.length_map]; omega) (ev_pos h0 (ev_pos (by rw [List.length_map]; omega) (Ev.bind (l1Read_ev y) (ev_pos (by omega) (ev_val (ih (i + 1) _ (by omega) h3 (by simp only [List.length_append, List.length_cons, List.length_nil]; omega)) ?_)))))
    rw [List.map_cons, List.append_assoc]; rfl
theorem specC_ev (l : List UInt8) : Ev (fun k => spec_ParseChapters.f k (mkB l)) (specC l) := by
  unfold spec_ParseChapters.f specC
  rw [mkB_size]
  by_cases h : l.length > 48
  · exact ev_pos (by omega) (ev_now (if_pos h).symm)
  · have hp := parts_length 43 l
    rw [if_neg h]
    exact ev_neg (by omega) (Ev.bind (l1Split_ev 43 l (by omega)) (specC_l l (parts 43 l) (by omega) (parts 43 l) 0 [] (by omega) rfl (by rw [List.length_nil]; omega)))
def numM (ws : List (List UInt8)) (out : List Int) : List Int × Bool := match atoiAllE ws with
  | none => ([], false)
  | some xs => (out ++ xs, true)
theorem numbers_l (ws : List (List UInt8)) (hn : ws.length ≤ 1000) (hw : ∀ w ∈ ws, w.length ≤ 1048576) : ∀ (ys : List (List UInt8)) (i : Int) (out : List Int), 0 ≤ i → ws.drop i.toNat = ys → out.length + ys.length ≤ 1000 →
    Ev (fun k => impl_numbersOf.l0 k out (ws.map mkB) ((ws.map mkB).length : Int) i) (numM ys out) := by
  intro ys
  induction ys with
  | nil =>
    intro i out h0 h ho
    have := drop_nil h0 h
    refine Ev.step (fun k => impl_numbersOf.l0.eq_2 ..) (ev_neg (by rw [List.length_map]; omega) (ev_now ?_))
    simp [numM, atoiAllE]
  | cons y ys ih =>
    intro i out h0 h ho
    obtain ⟨h1, _, h3, _⟩ := drop_get h0 h
    simp only [List.length_cons] at ho
    have hy := hw y (List.mem_of_mem_drop (by rw [h]; exact List.mem_cons_self))
    have hd : (ws.map mkB).drop i.toNat = mkB y :: ys.map mkB := by rw [← List.map_drop, h]; rfl
    have hr : rdOf ByteArray.empty (ws.map mkB) i = mkB y := (drop_get h0 hd).2.1 _
    refine Ev.step (fun k => impl_numbersOf.l0.eq_2 ..) ?_
    rw [hr, w64 (x := i + 1) (by omega) (by omega), mkB_size]
    refine ev_pos (by rw [List.length_map]; omega) (ev_pos h0 (ev_pos (by rw [List.length_map]; omega) (ev_pos (by omega) ?_)))
    rcases he : atoiE (mkB y) with _ | v
    · exact ev_now (by unfold numM; rw [atoiAllE, he])
    · refine ev_pos (by omega) (ev_val (ih (i + 1) _ (by omega) h3 (by simp only [List.length_append, List.length_cons, List.length_nil]; omega)) ?_)
      unfold numM
      rw [atoiAllE, he]
      rcases atoiAllE ys with _ | xs
      · rfl
      · simp
theorem splitN43_eq (l : List UInt8) (hl : l.length ≤ 1048576) : strings_SplitN.f (mkB l) (⟨#[43]⟩ : ByteArray) 13 = some ((words43 l).map mkB) := by
  have e43 : (⟨#[43]⟩ : ByteArray) = mkB [43] := rfl
  unfold strings_SplitN.f
  rw [e43, mkB_size, mkB_size, if_pos (by omega), if_pos (by simp), if_pos (by omega), if_pos (by omega)]
  congr 1
  unfold splitNB words43
  rw [mkB_size, show (13 : Int).toNat = 13 from rfl]
  have h1 := Lib.splitB_data (mkB [43]) 0 (min 13 (l.length + 1) - 1) (mkB l)
  rw [mkB_data, mkB_data] at h1
  rw [← h1, List.map_map]
  have : (mkB ∘ fun x : ByteArray => x.data.toList) = id := by funext x; exact mkB_eq x
  rw [this, List.map_id]
theorem implC_ev (l : List UInt8) (hl : l.length ≤ 1048576) : Ev (fun k => impl_ParseChapters.f k (mkB l)) (specC l) := by
  rw [← implC_eq]
  unfold impl_ParseChapters.f impl_numbersOf.f implC
  rw [w64 (x := 12 + 1) (by omega) (by omega), show (12 : Int) + 1 = 13 from rfl, splitN43_eq l hl]
  obtain ⟨k1, k2⟩ := splitK_len 43 (min 13 (l.length + 1) - 1) l
  have hwn : (words43 l).length ≤ 13 := by unfold words43; omega
  have hww : ∀ w ∈ words43 l, w.length ≤ 1048576 := fun w hw => by have := k2 w hw; omega
  by_cases h : (words43 l).length > 12
  · rw [if_pos h]
    exact Ev.bind (ev_some rfl (ev_pos (by rw [List.length_map]; omega) (ev_now rfl))) (ev_neg (by simp) (ev_now rfl))
  · rw [if_neg h]
    refine Ev.bind (ev_some rfl (ev_neg (by rw [List.length_map]; omega) (numbers_l (words43 l) (by omega) hww _ 0 [] (by omega) rfl (by rw [Int.toNat_zero, List.drop_zero, List.length_nil]; omega)))) ?_
    rw [Int.toNat_zero, List.drop_zero]
    have hlen : ∀ (ws : List (List UInt8)) (xs : List Int), atoiAllE ws = some xs → xs.length = ws.length := by
      intro ws
      induction ws with
      | nil => intro xs e; rw [atoiAllE] at e; injection e with e; subst e; rfl
      | cons w ws ih =>
        intro xs e
        rw [atoiAllE] at e
        rcases hv : atoiE (mkB w) with _ | v
        · rw [hv] at e; cases e
        · rw [hv] at e
          simp only at e
          rcases hx : atoiAllE ws with _ | zs
          · rw [hx] at e; cases e
          · rw [hx] at e
            injection e with e
            subst e
            rw [List.length_cons, List.length_cons, ih zs hx]
    have hnum : numM (words43 l) [] = match atoiAllE (words43 l) with
      | none => ([], false)
      | some xs => (xs, true) := by
      unfold numM
      rcases atoiAllE (words43 l) with _ | xs <;> rfl
    rw [hnum]
    rcases hx : atoiAllE (words43 l) with _ | xs
    · exact ev_neg (by simp) (ev_now rfl)
    · have hxl := hlen _ _ hx
      show Ev _ (finishC l xs)
      refine ev_pos rfl (Ev.bind (areCh_ev xs (by omega)) ?_)
      unfold finishC
      by_cases c : goodC xs = true
      · have hg := goodC_true c
        rw [if_pos c]
        refine ev_pos c (Ev.bind (joined_ev xs (by omega) (fun r hr => by have := hg.2.2 r hr; omega)) ?_)
        rw [tol_mkB, tol_mkB]
        by_cases d : textN xs = l
        · exact ev_pos d (ev_now (if_pos d).symm)
        · exact ev_neg d (ev_now (if_neg d).symm)
      · exact ev_neg c (ev_now (if_neg c).symm)
theorem FnExactParseChapters (a : ByteArray) (_ha : a.size ≤ 140737488351232) : ∃ k, laws_FnExactParseChapters.f k a = some true := by
  refine Ev.rounds ?_
  unfold laws_FnExactParseChapters.f
  by_cases h : (a.size : Int) > 1048576
  · exact ev_pos h (ev_now rfl)
  · refine ev_neg h ?_
    have hz : a.data.toList.length = a.size := by rw [Array.length_toList]; rfl
    have e := mkB_eq a
    have hs := specC_ev a.data.toList
    have hi := implC_ev a.data.toList (by omega)
    have hW := specC_small a.data.toList
    rw [e] at hs hi
    generalize specC a.data.toList = r at hs hi hW
    refine Ev.bind hs (Ev.bind hi (Ev.bind (eqIntS_ev r.1 (by omega)) (ev_pos rfl ?_)))
    refine Ev.step (fun k => laws_FnExactParseChapters.j0.eq_2 ..) ?_
    refine ev_neg (by simp) (Ev.bind (markIntS_ev r.1 (by omega)) (Ev.bind (heldIntS_ev r.1.length (by omega)) (ev_neg (by omega) (ev_pos rfl (Ev.bind hi (Ev.bind (eqIntS_ev r.1 (by omega)) (ev_pos rfl ?_)))))))
    refine Ev.step (fun k => laws_FnExactParseChapters.j1.eq_2 ..) ?_
    exact ev_neg (by simp) (Ev.bind (heldIntS_ev r.1.length (by omega)) (ev_neg (by omega) (ev_pos rfl (ev_now rfl))))

end Go.Proofs.YtngaimhnajeidaaDoor.Pure
