/- The law FnExactChaptersText holds for every list of numbers: program and reference tell the same text. No condition but what the card lists. -/
import Derived.Test.YtngaimhnajeidaaDoorPFnExactChaptersTextx2
namespace Go.Proofs.YtngaimhnajeidaaDoor.Pure
open Go.RowKit Go.Proofs.YtngaimhnajeidaaDoor.PFnExactChaptersText Go.Proofs.YtngaimhnajeidaaDoorW.PrintWords Go.Proofs.YtngaimhnajeidaaDoorW.PrintLast

theorem w64 {x : Int} (h1 : -9223372036854775808 ≤ x) (h2 : x ≤ 9223372036854775807) : wrap64 x = x := by
  unfold wrap64; omega
theorem ev_pos {α : Type} {c : Prop} [Decidable c] {f g : Nat → Option α} {r : α} (hc : c) (h : Ev f r) : Ev (fun k => if c then f k else g k) r := by
  simpa only [if_pos hc] using h
theorem ev_neg {α : Type} {c : Prop} [Decidable c] {f g : Nat → Option α} {r : α} (hc : ¬ c) (h : Ev g r) : Ev (fun k => if c then f k else g k) r := by
  simpa only [if_neg hc] using h
theorem ev_now {α : Type} {r s : α} (h : r = s) : Ev (fun _ => some r) s := h ▸ Ev.now r
theorem ev_some {α β : Type} {x : Option α} {f : Nat → α → Option β} {a : α} {r : β} (h : x = some a) (k : Ev (fun n => f n a) r) : Ev (fun n => x.bind (f n)) r := by
  subst h; exact k
theorem ev_val {α : Type} {g : Nat → Option α} {a b : α} (h : Ev g a) (e : a = b) : Ev g b := e ▸ h
theorem ev_suc {α : Type} {g : Nat → Option α} {r : α} (h : Ev (fun k => g (k + 1)) r) : Ev g r := Ev.step (fun _ => rfl) h
theorem drop_nil {α : Type} {xs : List α} {i : Int} (h0 : 0 ≤ i) (h : xs.drop i.toNat = []) : (xs.length : Int) ≤ i := by
  have := List.drop_eq_nil_iff.1 h
  omega
theorem drop_get {α : Type} {xs : List α} {i : Int} {y : α} {ys : List α} (h0 : 0 ≤ i) (h : xs.drop i.toNat = y :: ys) : i < (xs.length : Int) ∧ (∀ d, xs.getD i.toNat d = y) ∧ xs.drop (i + 1).toNat = ys ∧ xs.take (i + 1).toNat = xs.take i.toNat ++ [y] := by
  have hl : i.toNat < xs.length := by
    rcases Nat.lt_or_ge i.toNat xs.length with hl | hl
    · exact hl
    · rw [List.drop_eq_nil_iff.2 hl] at h; cases h
  have e := List.drop_eq_getElem_cons hl
  rw [h] at e
  injection e with e1 e2
  have h1 : (i + 1).toNat = i.toNat + 1 := by omega
  refine ⟨by omega, fun d => ?_, ?_, ?_⟩
  · rw [List.getD_eq_getElem?_getD, List.getElem?_eq_getElem hl, e1]; rfl
  · rw [h1]; exact e2.symm
  · rw [h1, List.take_add_one, List.getElem?_eq_getElem hl, e1]; rfl
theorem drop_cons {xs : List Int} {i : Int} {y : Int} {ys : List Int} (h0 : 0 ≤ i) (h : xs.drop i.toNat = y :: ys) : i < (xs.length : Int) ∧ rd xs i = y ∧ xs.drop (i + 1).toNat = ys ∧ xs.take (i + 1).toNat = xs.take i.toNat ++ [y] := by
  obtain ⟨h1, h2, h3⟩ := drop_get h0 h
  exact ⟨h1, h2 0, h3⟩

theorem within_eq (a lo hi : Int) : impl_within.f a lo hi = some (decide (lo ≤ a ∧ a ≤ hi)) := by
  unfold impl_within.f
  by_cases h : a ≥ lo
  · rw [if_pos h]; congr 1; simp [show lo ≤ a from h]
  · rw [if_neg h]; congr 1; simp; omega

theorem allWithin_l (lo hi : Int) (xs : List Int) (hn : xs.length < 4611686018427387904) : ∀ (ys : List Int) (i : Int), 0 ≤ i → xs.drop i.toNat = ys →
    Ev (fun k => impl_allWithin.l0 k lo hi xs (xs.length : Int) i) (decide (∀ n ∈ ys, lo ≤ n ∧ n ≤ hi)) := by
  intro ys
  induction ys with
  | nil =>
    intro i h0 h
    have := drop_nil h0 h
    refine Ev.step (fun k => impl_allWithin.l0.eq_2 ..) ?_
    exact ev_neg (by omega) (ev_now (by simp))
  | cons y ys ih =>
    intro i h0 h
    obtain ⟨h1, h2, h3, _⟩ := drop_cons h0 h
    refine Ev.step (fun k => impl_allWithin.l0.eq_2 ..) ?_
    refine ev_pos h1 (ev_pos h0 (ev_pos h1 ?_))
    rw [h2, w64 (by omega) (by omega)]
    refine ev_some (within_eq ..) ?_
    by_cases hy : lo ≤ y ∧ y ≤ hi
    · exact ev_pos (by simpa using hy) (ev_val (ih _ (by omega) h3) (by simp [hy]))
    · exact ev_neg (by simpa using hy) (ev_now (by simp [hy]))
theorem allWithin_ev (xs : List Int) (lo hi : Int) (hn : xs.length < 4611686018427387904) :
    Ev (fun k => impl_allWithin.f k xs lo hi) (decide (∀ n ∈ xs, lo ≤ n ∧ n ≤ hi)) := allWithin_l lo hi xs hn xs 0 (by omega) rfl

theorem l1In_eq (a lo hi : Int) : spec_l1In.f a lo hi = some (decide (lo ≤ a ∧ a ≤ hi)) := by
  unfold spec_l1In.f
  by_cases h : a ≥ lo
  · rw [if_pos h]; congr 1; simp [show lo ≤ a from h]
  · rw [if_neg h]; congr 1; simp; omega

theorem l1All_l (lo hi : Int) (xs : List Int) (hn : xs.length < 4611686018427387904) : ∀ (ys : List Int) (i : Int), 0 ≤ i → xs.drop i.toNat = ys →
    Ev (fun k => spec_l1All.l0 k lo hi xs (xs.length : Int) i) (decide (∀ n ∈ ys, lo ≤ n ∧ n ≤ hi)) := by
  intro ys
  induction ys with
  | nil =>
    intro i h0 h
    have := drop_nil h0 h
    refine Ev.step (fun k => spec_l1All.l0.eq_2 ..) ?_
    exact ev_neg (by omega) (ev_now (by simp))
  | cons y ys ih =>
    intro i h0 h
    obtain ⟨h1, h2, h3, _⟩ := drop_cons h0 h
    refine Ev.step (fun k => spec_l1All.l0.eq_2 ..) ?_
    refine ev_pos h1 (ev_pos h0 (ev_pos h1 ?_))
    rw [h2, w64 (by omega) (by omega)]
    refine ev_some (l1In_eq ..) ?_
    by_cases hy : lo ≤ y ∧ y ≤ hi
    · exact ev_pos (by simpa using hy) (ev_val (ih _ (by omega) h3) (by simp [hy]))
    · exact ev_neg (by simpa using hy) (ev_now (by simp [hy]))
theorem l1All_ev (xs : List Int) (lo hi : Int) (hn : xs.length < 4611686018427387904) :
    Ev (fun k => spec_l1All.f k xs lo hi) (decide (∀ n ∈ xs, lo ≤ n ∧ n ≤ hi)) := l1All_l lo hi xs hn xs 0 (by omega) rfl

def goodC (xs : List Int) : Bool := decide (1 ≤ xs.length ∧ xs.length ≤ 12) && decide (∀ n ∈ xs, 1 ≤ n ∧ n ≤ 120)
theorem goodC_true {xs : List Int} (h : goodC xs = true) : 1 ≤ xs.length ∧ xs.length ≤ 12 ∧ ∀ n ∈ xs, 1 ≤ n ∧ n ≤ 120 := by
  simp only [goodC, Bool.and_eq_true, decide_eq_true_eq] at h
  exact ⟨h.1.1, h.1.2, h.2⟩
theorem caGood_ev (xs : List Int) (hn : xs.length ≤ 1048576) : Ev (fun k => spec_caGood.f k xs) (goodC xs) := by
  unfold spec_caGood.f goodC
  refine ev_some (l1In_eq ..) ?_
  by_cases h : 1 ≤ (xs.length : Int) ∧ (xs.length : Int) ≤ 12
  · have e : (1 ≤ xs.length ∧ xs.length ≤ 12) := by omega
    refine ev_pos (decide_eq_true h) (Ev.bind (l1All_ev xs 1 120 (by omega)) (ev_now ?_))
    rw [decide_eq_true e, Bool.true_and]
  · have e : ¬ (1 ≤ xs.length ∧ xs.length ≤ 12) := by omega
    refine ev_neg (by rw [decide_eq_false h]; simp) (ev_now ?_)
    rw [decide_eq_false e, Bool.false_and]
theorem areCh_ev (xs : List Int) (hn : xs.length ≤ 1048576) : Ev (fun k => impl_AreChapters.f k xs) (goodC xs) := by
  unfold impl_AreChapters.f goodC
  refine ev_some (within_eq ..) ?_
  by_cases h : 1 ≤ (xs.length : Int) ∧ (xs.length : Int) ≤ 12
  · have e : (1 ≤ xs.length ∧ xs.length ≤ 12) := by omega
    refine ev_pos (decide_eq_true h) (Ev.bind (allWithin_ev xs 1 120 (by omega)) (ev_now ?_))
    rw [decide_eq_true e, Bool.true_and]
  · have e : ¬ (1 ≤ xs.length ∧ xs.length ≤ 12) := by omega
    refine ev_neg (by rw [decide_eq_false h]; simp) (ev_now ?_)
    rw [decide_eq_false e, Bool.false_and]

/-! ### Texts as lists of bytes -/
def mkB (l : List UInt8) : ByteArray := ⟨l.toArray⟩
theorem mkB_data (l : List UInt8) : (mkB l).data.toList = l := by simp [mkB]
theorem mkB_size (l : List UInt8) : (mkB l).size = l.length := by simp [mkB, ByteArray.size]
theorem mkB_eq (s : ByteArray) : mkB s.data.toList = s := by cases s; simp [mkB]
theorem mkB_append (a b : List UInt8) : mkB a ++ mkB b = mkB (a ++ b) := by
  apply ByteArray.ext
  simp [mkB, ByteArray.data_append]
theorem mkB_drop (l : List UInt8) (i : Nat) : (mkB l).extract i (mkB l).size = mkB (l.drop i) := by
  apply ByteArray.ext
  apply Array.toList_inj.1
  rw [mkB_size]
  simp only [mkB, ByteArray.data_extract, List.extract_toArray, List.extract_eq_take_drop]
  rw [List.take_of_length_le (by rw [List.length_drop]; exact Nat.le_refl _)]
theorem mkB_slice (l : List UInt8) (i j : Nat) : (mkB l).extract i j = mkB ((l.take j).drop i) := by
  apply ByteArray.ext
  apply Array.toList_inj.1
  simp [mkB, ByteArray.data_extract, List.drop_take]
theorem mkB_nums (xs : List Int) : strOfNums xs = mkB (xs.map fun n => UInt8.ofNat n.toNat) := rfl
theorem mkB_inj {a b : List UInt8} (h : mkB a = mkB b) : a = b := by
  have := congrArg (fun s => s.data.toList) h
  simpa [mkB] using this
theorem bt_mkB {l : List UInt8} {i : Nat} {x : UInt8} {xs : List UInt8} (h : l.drop i = x :: xs) : bt (mkB l) (i : Int) = (x.toNat : Int) := by
  have hl : i < l.length := by
    rcases Nat.lt_or_ge i l.length with g | g
    · exact g
    · rw [List.drop_eq_nil_iff.2 g] at h; cases h
  have e : l[i] = x := by
    have := List.drop_eq_getElem_cons hl
    rw [h] at this
    injection this with h1 _
    exact h1.symm
  have hs : (i : Int).toNat < (mkB l).size := by rw [Int.toNat_natCast, mkB_size]; exact hl
  rw [← bt_at _ _ hs, ← e]
  rfl
theorem drop_step {α : Type} {l : List α} {i : Nat} {x : α} {xs : List α} (h : l.drop i = x :: xs) : i < l.length ∧ l.drop (i + 1) = xs := by
  have hl : i < l.length := by
    rcases Nat.lt_or_ge i l.length with g | g
    · exact g
    · rw [List.drop_eq_nil_iff.2 g] at h; cases h
  have := List.drop_eq_getElem_cons hl
  rw [h] at this
  injection this with _ h2
  exact ⟨hl, h2.symm⟩

theorem dd_len (n : Nat) : (Lib.decDigits n).length ≤ n + 1 := by
  induction n using Nat.strongRecOn with
  | _ n ih =>
    rw [Lib.decDigits]
    split
    · simp
    · rename_i h
      have := ih (n / 10) (by omega)
      rw [List.length_append]
      simp only [List.length_cons, List.length_nil]
      omega
theorem dd_pos (n : Nat) : 1 ≤ (Lib.decDigits n).length := by
  rw [Lib.decDigits]
  split <;> simp
def decV (l : List UInt8) : Nat := l.foldl (fun a b => a * 10 + (b.toNat - 48)) 0
theorem decV_dd (n : Nat) : decV (Lib.decDigits n) = n := by
  induction n using Nat.strongRecOn with
  | _ n ih =>
    rw [Lib.decDigits]
    split
    · rename_i h
      simp [decV]
      omega
    · rename_i h
      have := ih (n / 10) (by omega)
      unfold decV at this ⊢
      rw [List.foldl_append, this]
      simp
      omega
theorem dd_inj {a b : Nat} (h : Lib.decDigits a = Lib.decDigits b) : a = b := by
  rw [← decV_dd a, ← decV_dd b, h]
theorem dig_eq (x : Nat) (h : x < 200) : UInt8.ofNat ((((x : Nat) : Int) % 256).toNat) = UInt8.ofNat x := by
  congr 1
  omega
theorem l1Num_ev (n : Nat) (hn : n ≤ 1000000000000) : Ev (fun k => spec_l1Num.f k (n : Int)) (mkB (Lib.decDigits n)) := by
  induction n using Nat.strongRecOn with
  | _ n ih =>
    refine Ev.step (fun k => spec_l1Num.f.eq_2 ..) ?_
    by_cases h : n < 10
    · refine ev_pos (by omega) (ev_now ?_)
      rw [w64 (by omega) (by omega), mkB_nums, Lib.decDigits, dif_pos h]
      have := dig_eq (48 + n) (by omega)
      rw [show (((48 + n : Nat) : Nat) : Int) = 48 + (n : Int) from by omega] at this
      show mkB [UInt8.ofNat (((48 + (n : Int)) % 256).toNat)] = _
      rw [this]
    · refine ev_neg (by omega) ?_
      have e1 : Int.tdiv (n : Int) 10 = ((n / 10 : Nat) : Int) := by rw [Int.tdiv_eq_ediv_of_nonneg (by omega)]; omega
      have e2 : Int.tmod (n : Int) 10 = ((n % 10 : Nat) : Int) := by rw [Int.tmod_eq_emod_of_nonneg (by omega)]; omega
      rw [e1, e2, w64 (x := ((n / 10 : Nat) : Int)) (by omega) (by omega), w64 (x := 48 + ((n % 10 : Nat) : Int)) (by omega) (by omega)]
      have hl := dd_len (n / 10)
      have hs : strOfNums [(48 + ((n % 10 : Nat) : Int)) % 256] = mkB [UInt8.ofNat (48 + n % 10)] := by
        rw [mkB_nums]
        have := dig_eq (48 + n % 10) (by omega)
        rw [show (((48 + n % 10 : Nat) : Nat) : Int) = 48 + ((n % 10 : Nat) : Int) from by omega] at this
        show mkB [UInt8.ofNat (((48 + ((n % 10 : Nat) : Int)) % 256).toNat)] = _
        rw [this]
      refine Ev.bind (ih (n / 10) (by omega) (by omega)) (ev_some rfl ?_)
      rw [hs, mkB_size, mkB_size]
      refine ev_pos (by simp only [List.length_cons, List.length_nil]; omega) (ev_now ?_)
      rw [mkB_append, Lib.decDigits.eq_1 n, dif_neg h]
theorem itoa_eq (n : Nat) (hn : n ≤ 1000000000000) : strconv_Itoa.f (n : Int) = some (mkB (Lib.decDigits n)) := by
  unfold strconv_Itoa.f
  rw [if_pos (by omega), if_pos (by omega)]
  unfold Lib.itoa
  rw [if_neg (by omega), Int.toNat_natCast]
  rfl

def ndd (n : Int) : List UInt8 := Lib.decDigits n.toNat
theorem ndd_len {n : Int} (h1 : n ≤ 1000000) : (ndd n).length ≤ 1000001 := by
  have := dd_len n.toNat
  unfold ndd; omega
theorem l1NumI_ev (n : Int) (h0 : 0 ≤ n) (h1 : n ≤ 1000000) : Ev (fun k => spec_l1Num.f k n) (mkB (ndd n)) := by
  have := l1Num_ev n.toNat (by omega)
  rw [Int.toNat_of_nonneg h0] at this
  exact this
theorem itoaI_eq (n : Int) (h0 : 0 ≤ n) (h1 : n ≤ 1000000) : strconv_Itoa.f n = some (mkB (ndd n)) := by
  have := itoa_eq n.toNat (by omega)
  rw [Int.toNat_of_nonneg h0] at this
  exact this

def tailN : List Int → List UInt8
  | [] => []
  | y :: ys => 43 :: (ndd y ++ tailN ys)
def textN : List Int → List UInt8
  | [] => []
  | y :: ys => ndd y ++ tailN ys
theorem ndd_small {n : Int} (h1 : n ≤ 2000) : (ndd n).length ≤ 2001 := by
  have := dd_len n.toNat
  unfold ndd; omega
theorem tailN_len : ∀ (ys : List Int), (∀ r ∈ ys, r ≤ 2000) → (tailN ys).length ≤ 2002 * ys.length
  | [], _ => by simp [tailN]
  | y :: ys, h => by
    have h1 := ndd_small (h y List.mem_cons_self)
    have h2 := tailN_len ys (fun r hr => h r (List.mem_cons_of_mem _ hr))
    simp only [tailN, List.length_cons, List.length_append]; omega
theorem tailN_join : ∀ (ys : List Int), tailN ys = Lib.joinTail [43] (ys.map ndd)
  | [] => rfl
  | y :: ys => by
    rw [tailN, tailN_join ys]
    simp [Lib.joinTail]
theorem textN_join (ys : List Int) : Lib.join (ys.map ndd) [43] = textN ys := by
  rcases ys with _ | ⟨y, ys⟩
  · rfl
  · rw [List.map_cons, Lib.join_cons, textN, tailN_join]
theorem append43 (f t : List UInt8) : mkB f ++ (⟨#[43]⟩ : ByteArray) ++ mkB t = mkB (f ++ 43 :: t) := by
  have : (⟨#[43]⟩ : ByteArray) = mkB [43] := rfl
  rw [this, mkB_append, mkB_append, List.append_assoc]; rfl
theorem size43 (f : List UInt8) : (mkB f ++ (⟨#[43]⟩ : ByteArray)).size = f.length + 1 := by
  have : (⟨#[43]⟩ : ByteArray) = mkB [43] := rfl
  rw [this, mkB_append, mkB_size]; simp
theorem caText_l (xs : List Int) (hn : xs.length ≤ 1048576) (hb : ∀ r ∈ xs, 0 ≤ r ∧ r ≤ 2000) : ∀ (ys : List Int) (i : Int) (acc : List UInt8), 1 ≤ i → xs.drop i.toNat = ys → acc.length + 3000 * ys.length ≤ 100000000000 →
    Ev (fun k => spec_caText.l0 k (mkB acc) xs (xs.length : Int) i) (mkB (acc ++ tailN ys)) := by
  intro ys
  induction ys with
  | nil =>
    intro i acc h0 h _
    have := drop_nil (by omega) h
    refine Ev.step (fun k => spec_caText.l0.eq_2 ..) ?_
    exact ev_neg (by omega) (ev_now (by simp [tailN]))
  | cons y ys ih =>
    intro i acc h0 h ha
    obtain ⟨h1, h2, h3, _⟩ := drop_cons (by omega) h
    have hy := hb y (List.mem_of_mem_drop (by rw [h]; exact List.mem_cons_self))
    have hl := ndd_small hy.2
    simp only [List.length_cons] at ha
    refine Ev.step (fun k => spec_caText.l0.eq_2 ..) ?_
    rw [h2, w64 (x := i + 1) (by omega) (by omega), mkB_size, size43]
    refine ev_pos h1 (ev_pos (by omega) (ev_pos h1 (ev_pos (by omega) (ev_pos (by omega) (Ev.bind (l1NumI_ev y hy.1 (by omega)) ?_)))))
    rw [mkB_size, append43]
    refine ev_pos (by omega) (ev_val (ih (i + 1) _ (by omega) h3 (by simp only [List.length_append, List.length_cons]; omega)) ?_)
    rw [tailN]; simp
theorem caText_ev (xs : List Int) (hn : xs.length ≤ 1000) (hb : ∀ r ∈ xs, 0 ≤ r ∧ r ≤ 2000) : Ev (fun k => spec_caText.f k xs) (mkB (textN xs)) := by
  unfold spec_caText.f
  rcases xs with _ | ⟨y, ys⟩
  · refine Ev.step (fun k => spec_caText.l0.eq_2 ..) ?_
    exact ev_neg (by simp) (ev_now rfl)
  · have hy := hb y List.mem_cons_self
    have hl := ndd_small hy.2
    have e0 : rd (y :: ys) 0 = y := rfl
    have e1 : (⟨#[]⟩ : ByteArray) = mkB [] := rfl
    simp only [List.length_cons] at hn
    refine Ev.step (fun k => spec_caText.l0.eq_2 ..) ?_
    rw [e0, e1, w64 (x := (0 : Int) + 1) (by omega) (by omega), mkB_size]
    refine ev_pos (by simp only [List.length_cons]; omega) (ev_pos (by omega) (ev_pos (by simp only [List.length_cons]; omega) (ev_neg (by omega) (Ev.bind (l1NumI_ev y hy.1 (by omega)) ?_))))
    rw [mkB_size, mkB_append]
    refine ev_pos (by simp only [List.length_nil]; omega) ?_
    exact ev_val (caText_l (y :: ys) (by simp only [List.length_cons]; omega) hb ys (0 + 1) _ (by omega) rfl (by simp only [List.nil_append]; omega)) (by rw [List.nil_append, textN])
theorem textN_len (xs : List Int) (hn : xs.length ≤ 1000) (hb : ∀ r ∈ xs, 0 ≤ r ∧ r ≤ 2000) : (textN xs).length ≤ 10000000 := by
  rcases xs with _ | ⟨z, zs⟩
  · simp [textN]
  · have h1 := ndd_small (hb z List.mem_cons_self).2
    have h2 := tailN_len zs (fun r hr => (hb r (List.mem_cons_of_mem _ hr)).2)
    simp only [List.length_cons] at hn
    simp only [textN, List.length_append]; omega
theorem joined_l (xs : List Int) (hn : xs.length ≤ 1000) (hb : ∀ r ∈ xs, 0 ≤ r ∧ r ≤ 2000) : ∀ (ys : List Int) (i : Int), 0 ≤ i → xs.drop i.toNat = ys →
    Ev (fun k => impl_joined.l0 k (⟨#[43]⟩ : ByteArray) ((xs.take i.toNat).map fun r => mkB (ndd r)) xs (xs.length : Int) i) (mkB (textN xs)) := by
  intro ys
  induction ys with
  | nil =>
    intro i h0 h
    have := drop_nil h0 h
    refine Ev.step (fun k => impl_joined.l0.eq_2 ..) ?_
    refine ev_neg (by omega) (ev_some ?_ (ev_now rfl))
    rw [List.take_of_length_le (by omega)]
    have ej : joinB (xs.map fun r => mkB (ndd r)) (⟨#[43]⟩ : ByteArray) = textN xs := by
      unfold joinB
      rw [List.map_map]
      have : ((fun x : ByteArray => x.data.toList) ∘ fun r => mkB (ndd r)) = ndd := by funext r; exact mkB_data _
      rw [this]
      exact textN_join xs
    have hlen := textN_len xs hn hb
    unfold strings_Join.f
    rw [ej, if_pos (by rw [List.length_map]; omega), if_pos (by omega)]
    rfl
  | cons y ys ih =>
    intro i h0 h
    obtain ⟨h1, h2, h3, h4⟩ := drop_cons h0 h
    have hy := hb y (List.mem_of_mem_drop (by rw [h]; exact List.mem_cons_self))
    refine Ev.step (fun k => impl_joined.l0.eq_2 ..) ?_
    rw [h2, w64 (x := i + 1) (by omega) (by omega)]
    refine ev_pos h1 (ev_pos h0 (ev_pos h1 (ev_some (itoaI_eq y hy.1 (by omega)) (ev_pos (by rw [List.length_map, List.length_take]; omega) ?_))))
    have := ih (i + 1) (by omega) h3
    rw [h4, List.map_append] at this
    exact this
theorem joined_ev (xs : List Int) (hn : xs.length ≤ 1000) (hb : ∀ r ∈ xs, 0 ≤ r ∧ r ≤ 2000) : Ev (fun k => impl_joined.f k xs (⟨#[43]⟩ : ByteArray)) (mkB (textN xs)) := by
  unfold impl_joined.f
  exact joined_l xs hn hb xs 0 (by omega) rfl

theorem toIntS_l (xs : List Int) (hn : xs.length < 4611686018427387904) : ∀ (ys : List Int) (i : Int) (zs : List Int), 0 ≤ i → xs.drop i.toNat = ys → zs.length = ys.length →
    Ev (fun k => laws_toIntS.l0 k xs (xs.take i.toNat ++ zs) i) xs := by
  intro ys
  induction ys with
  | nil =>
    intro i zs h0 h hz
    have := drop_nil h0 h
    refine Ev.step (fun k => laws_toIntS.l0.eq_2 ..) ?_
    have hz : zs = [] := List.eq_nil_of_length_eq_zero hz
    refine ev_neg (by omega) (ev_now ?_)
    rw [hz, List.append_nil, List.take_of_length_le (by omega)]
  | cons y ys ih =>
    intro i zs h0 h hz
    obtain ⟨h1, h2, h3, h4⟩ := drop_cons h0 h
    obtain ⟨z, zs, rfl⟩ : ∃ z zs', zs = z :: zs' := List.exists_cons_of_length_eq_add_one hz
    have hl : (xs.take i.toNat).length = i.toNat := by rw [List.length_take]; omega
    refine Ev.step (fun k => laws_toIntS.l0.eq_2 ..) ?_
    refine ev_pos h1 (ev_pos h0 (ev_pos (by rw [List.length_append, hl, List.length_cons]; omega) ?_))
    rw [h2, w64 (by omega) (by omega)]
    have e : (xs.take i.toNat ++ z :: zs).set i.toNat y = xs.take (i + 1).toNat ++ zs := by
      rw [h4, List.set_append_right _ _ (by omega), hl, Nat.sub_self, List.set_cons_zero, List.append_assoc]; rfl
    rw [e]
    exact ih (i + 1) zs (by omega) h3 (by simpa using hz)
theorem toIntS_ev (xs : List Int) (hn : xs.length ≤ 1048576) : Ev (fun k => laws_toIntS.f k xs) xs := by
  unfold laws_toIntS.f
  refine ev_pos (by omega) (ev_pos (by omega) ?_)
  exact toIntS_l xs (by omega) xs 0 _ (by omega) rfl (by simp)

theorem eqIntS_l (xs : List Int) (hn : xs.length < 4611686018427387904) : ∀ (ys : List Int) (i : Int), 0 ≤ i → xs.drop i.toNat = ys →
    Ev (fun k => laws_eqIntS.l0 k xs xs i) true := by
  intro ys
  induction ys with
  | nil =>
    intro i h0 h
    have := drop_nil h0 h
    refine Ev.step (fun k => laws_eqIntS.l0.eq_2 ..) ?_
    exact ev_neg (by omega) (ev_now rfl)
  | cons y ys ih =>
    intro i h0 h
    obtain ⟨h1, h2, h3, _⟩ := drop_cons h0 h
    refine Ev.step (fun k => laws_eqIntS.l0.eq_2 ..) ?_
    refine ev_pos h1 (ev_pos h0 (ev_pos h1 (ev_pos rfl ?_)))
    rw [w64 (by omega) (by omega)]
    exact ih _ (by omega) h3
theorem eqIntS_ev (xs : List Int) (hn : xs.length < 4611686018427387904) : Ev (fun k => laws_eqIntS.f k xs xs) true := by
  unfold laws_eqIntS.f
  exact ev_pos rfl (eqIntS_l xs hn xs 0 (by omega) rfl)

def chTextM (xs : List Int) : ByteArray × Bool := if goodC xs = true then (mkB (textN xs), true) else (⟨#[]⟩, false)
theorem specChText (xs : List Int) (hn : xs.length ≤ 1048576) : Ev (fun k => spec_ChaptersText.f k xs) (chTextM xs) := by
  unfold spec_ChaptersText.f chTextM
  refine Ev.bind (caGood_ev xs hn) ?_
  by_cases h : goodC xs = true
  · have hh := goodC_true h
    exact ev_pos h (Ev.bind (caText_ev xs (by omega) (fun r hr => by have := hh.2.2 r hr; omega)) (ev_now (by rw [if_pos h])))
  · exact ev_neg h (ev_now (by rw [if_neg h]))
theorem implChText (xs : List Int) (hn : xs.length ≤ 1048576) : Ev (fun k => impl_ChaptersText.f k xs) (chTextM xs) := by
  unfold impl_ChaptersText.f chTextM
  refine Ev.bind (areCh_ev xs hn) ?_
  by_cases h : goodC xs = true
  · have hh := goodC_true h
    exact ev_pos h (Ev.bind (joined_ev xs (by omega) (fun r hr => by have := hh.2.2 r hr; omega)) (ev_now (by rw [if_pos h])))
  · exact ev_neg h (ev_now (by rw [if_neg h]))
theorem FnExactChaptersText (l : List Int) (hx : l.length ≤ 9223372036854775807) : ∃ k, laws_FnExactChaptersText.f k l = some true := by
  refine Ev.rounds ?_
  unfold laws_FnExactChaptersText.f
  by_cases h : (l.length : Int) > 1048576
  · exact ev_pos h (ev_now rfl)
  · refine ev_neg h ?_
    have hl : l.length ≤ 1048576 := by omega
    refine Ev.bind (toIntS_ev l hl) (Ev.bind (specChText _ hl) ?_)
    refine Ev.bind (toIntS_ev l hl) (Ev.bind (implChText _ hl) (ev_pos rfl ?_))
    refine Ev.step (fun k => laws_FnExactChaptersText.j0.eq_2 ..) ?_
    exact ev_neg (by simp) (Ev.bind (toIntS_ev l hl) (Ev.bind (eqIntS_ev _ (by omega)) (ev_pos rfl (ev_now rfl))))

end Go.Proofs.YtngaimhnajeidaaDoor.Pure
