/- The law FnExactRangesText holds for every list of ranges: program and reference tell the same text. No condition but what the card lists. -/
import Derived.Test.YteolpfmpinbdoaaDoorPFnExactRangesTextx8
namespace Go.Proofs.YteolpfmpinbdoaaDoor.Pure
open Go.RowKit Go.Proofs.YteolpfmpinbdoaaDoor.PFnExactRangesText Go.Proofs.YteolpfmpinbdoaaDoorW.PrintWords Go.Proofs.YteolpfmpinbdoaaDoorW.PrintLast

theorem w64 {x : Int} (h1 : -9223372036854775808 ≤ x) (h2 : x ≤ 9223372036854775807) : wrap64 x = x := by
  unfold wrap64; omega
theorem ev_pos {α : Type} {c : Prop} [Decidable c] {f g : Nat → Option α} {r : α} (hc : c) (h : Ev f r) : Ev (fun k => if c then f k else g k) r := by
  simpa only [if_pos hc] using h
theorem ev_neg {α : Type} {c : Prop} [Decidable c] {f g : Nat → Option α} {r : α} (hc : ¬ c) (h : Ev g r) : Ev (fun k => if c then f k else g k) r := by
  simpa only [if_neg hc] using h
theorem ev_now {α : Type} {r s : α} (h : r = s) : Ev (fun _ => some r) s := h ▸ Ev.now r
theorem ev_some {α β : Type} {x : Option α} {f : Nat → α → Option β} {a : α} {r : β} (h : x = some a) (k : Ev (fun n => f n a) r) : Ev (fun n => x.bind (f n)) r := by
  subst h; exact k
theorem ev_val {α : Type} {g : Nat → Option α} {a b : α} (h : Ev g a) (e : a = b) : Ev g b := e ▸ h
theorem ev_suc {α : Type} {g : Nat → Option α} {r : α} (h : Ev (fun k => g (k + 1)) r) : Ev g r := Ev.step (fun _ => rfl) h
theorem drop_nil {α : Type} {xs : List α} {i : Int} (h0 : 0 ≤ i) (h : xs.drop i.toNat = []) : (xs.length : Int) ≤ i := by
  have := List.drop_eq_nil_iff.1 h
  omega
theorem drop_get {α : Type} {xs : List α} {i : Int} {y : α} {ys : List α} (h0 : 0 ≤ i) (h : xs.drop i.toNat = y :: ys) : i < (xs.length : Int) ∧ (∀ d, xs.getD i.toNat d = y) ∧ xs.drop (i + 1).toNat = ys ∧ xs.take (i + 1).toNat = xs.take i.toNat ++ [y] := by
  have hl : i.toNat < xs.length := by
    rcases Nat.lt_or_ge i.toNat xs.length with hl | hl
    · exact hl
    · rw [List.drop_eq_nil_iff.2 hl] at h; cases h
  have e := List.drop_eq_getElem_cons hl
  rw [h] at e
  injection e with e1 e2
  have h1 : (i + 1).toNat = i.toNat + 1 := by omega
  refine ⟨by omega, fun d => ?_, ?_, ?_⟩
  · rw [List.getD_eq_getElem?_getD, List.getElem?_eq_getElem hl, e1]; rfl
  · rw [h1]; exact e2.symm
  · rw [h1, List.take_add_one, List.getElem?_eq_getElem hl, e1]; rfl
theorem drop_cons {xs : List Int} {i : Int} {y : Int} {ys : List Int} (h0 : 0 ≤ i) (h : xs.drop i.toNat = y :: ys) : i < (xs.length : Int) ∧ rd xs i = y ∧ xs.drop (i + 1).toNat = ys ∧ xs.take (i + 1).toNat = xs.take i.toNat ++ [y] := by
  obtain ⟨h1, h2, h3⟩ := drop_get h0 h
  exact ⟨h1, h2 0, h3⟩

def isR (r : S26) : Bool := decide (1 ≤ r.f0 ∧ r.f0 ≤ 2000) && decide (r.f0 ≤ r.f1 ∧ r.f1 ≤ 2000)
/-- What stands behind a range that ends at prev. -/
def tailR : Option Int → List S26 → Bool
  | _, [] => true
  | prev, r :: rs => isR r && ((match prev with | none => true | some p => decide (p + 2 ≤ r.f0)) && tailR (some r.f1) rs)
def goodR (xs : List S26) : Bool := decide (xs.length ≤ 20) && tailR none xs
theorem isR_true {r : S26} (h : isR r = true) : 1 ≤ r.f0 ∧ r.f0 ≤ 2000 ∧ r.f0 ≤ r.f1 ∧ r.f1 ≤ 2000 := by
  simp only [isR, Bool.and_eq_true, decide_eq_true_eq] at h; omega
theorem drop32 {xs : List S26} {i : Int} {y : S26} {ys : List S26} (h0 : 0 ≤ i) (h : xs.drop i.toNat = y :: ys) : i < (xs.length : Int) ∧ rd_T26 xs i = y ∧ xs.drop (i + 1).toNat = ys := by
  obtain ⟨h1, h2, h3, _⟩ := drop_get h0 h
  exact ⟨h1, h2 _, h3⟩

theorem l1In_eq (a lo hi : Int) : spec_l1In.f a lo hi = some (decide (lo ≤ a ∧ a ≤ hi)) := by
  unfold spec_l1In.f
  by_cases h : a ≥ lo
  · rw [if_pos h]; congr 1; simp [show lo ≤ a from h]
  · rw [if_neg h]; congr 1; simp; omega

theorem ixRange_eq (r : S26) : spec_ixRange.f r.f0 r.f1 = some (isR r) := by
  unfold spec_ixRange.f isR
  rw [l1In_eq]
  by_cases h : 1 ≤ r.f0 ∧ r.f0 ≤ 2000
  · rw [decide_eq_true h]; simp only [Option.bind_some, if_true]; rw [l1In_eq]; simp
  · rw [decide_eq_false h]; simp
theorem ixGood_l (xs : List S26) (hn : xs.length ≤ 1048576) : ∀ (ys : List S26) (i : Int) (prev : Option Int), 0 ≤ i → xs.drop i.toNat = ys → (i = 0 → prev = none) → (0 < i → ∃ p, prev = some p ∧ (rd_T26 xs (i - 1)).f1 = p ∧ p ≤ 2000 ∧ 1 ≤ p) →
    Ev (fun k => spec_ixGood.l0 k xs xs (xs.length : Int) i) (tailR prev ys) := by
  intro ys
  induction ys with
  | nil =>
    intro i prev h0 h _ _
    have := drop_nil h0 h
    refine Ev.step (fun k => spec_ixGood.l0.eq_2 ..) ?_
    exact ev_neg (by omega) (ev_now rfl)
  | cons y ys ih =>
    intro i prev h0 h hp0 hp1
    obtain ⟨h1, h2, h3⟩ := drop32 h0 h
    refine Ev.step (fun k => spec_ixGood.l0.eq_2 ..) ?_
    rw [h2, w64 (x := i + 1) (by omega) (by omega)]
    refine ev_pos h1 (ev_pos h0 (ev_pos h1 (ev_some (ixRange_eq y) ?_)))
    by_cases hr : isR y = true
    · refine ev_pos hr ?_
      have hy := isR_true hr
      have hnext : Ev (fun k => spec_ixGood.l0 k xs xs (xs.length : Int) (i + 1)) (tailR (some y.f1) ys) :=
        ih (i + 1) (some y.f1) (by omega) h3 (fun h => by omega) (fun _ => ⟨y.f1, rfl, by rw [show i + 1 - 1 = i from by omega, h2], by omega, by omega⟩)
      by_cases hi : 0 < i
      · obtain ⟨p, rfl, hp, hp2, hp3⟩ := hp1 hi
        refine ev_pos hi ?_
        rw [w64 (x := i - 1) (by omega) (by omega), hp, w64 (x := p + 2) (by omega) (by omega)]
        refine ev_pos (by omega) (ev_pos (by omega) ?_)
        by_cases c : y.f0 < p + 2
        · exact ev_pos c (ev_now (by simp [tailR, hr, show ¬ p + 2 ≤ y.f0 from by omega]))
        · exact ev_neg c (ev_val hnext (by simp [tailR, hr, show p + 2 ≤ y.f0 from by omega]))
      · obtain rfl := hp0 (by omega)
        exact ev_neg hi (ev_val hnext (by simp [tailR, hr]))
    · exact ev_neg hr (ev_now (by simp [tailR, hr]))
theorem ixGood_ev (xs : List S26) (hn : xs.length ≤ 1048576) : Ev (fun k => spec_ixGood.f k xs) (goodR xs) := by
  unfold spec_ixGood.f goodR
  by_cases h : xs.length ≤ 20
  · exact ev_neg (by omega) (ev_val (ixGood_l xs hn xs 0 none (by omega) rfl (fun _ => rfl) (fun h => by omega)) (by simp [h]))
  · exact ev_pos (by omega) (ev_now (by simp [h]))

theorem within_eq (a lo hi : Int) : impl_within.f a lo hi = some (decide (lo ≤ a ∧ a ≤ hi)) := by
  unfold impl_within.f
  by_cases h : a ≥ lo
  · rw [if_pos h]; congr 1; simp [show lo ≤ a from h]
  · rw [if_neg h]; congr 1; simp; omega

theorem isRange_eq (r : S26) : impl_isRange.f r.f0 r.f1 = some (isR r) := by
  unfold impl_isRange.f isR
  rw [within_eq]
  by_cases h : 1 ≤ r.f1 ∧ r.f1 ≤ 2000
  · rw [decide_eq_true h]; simp only [Option.bind_some, if_true]; rw [within_eq]
    simp only [Option.bind_some]; congr 1
    rw [← Bool.decide_and]
    exact decide_eq_decide.2 (by omega)
  · rw [decide_eq_false h]
    simp only [Option.bind_some, Bool.false_eq_true, if_false]; congr 1
    rw [← Bool.decide_and]
    exact (decide_eq_false (by omega)).symm
theorem areR_l (xs : List S26) (hn : xs.length ≤ 1048576) : ∀ (ys : List S26) (i : Int) (prev : Option Int), 0 ≤ i → xs.drop i.toNat = ys → (i = 0 → prev = none) → (0 < i → ∃ p, prev = some p ∧ (rd_T26 xs (i - 1)).f1 = p ∧ p ≤ 2000 ∧ 1 ≤ p) →
    Ev (fun k => impl_AreRanges.l0 k xs xs (xs.length : Int) i) (tailR prev ys && decide (xs.length ≤ 20)) := by
  intro ys
  induction ys with
  | nil =>
    intro i prev h0 h _ _
    have := drop_nil h0 h
    refine Ev.step (fun k => impl_AreRanges.l0.eq_2 ..) ?_
    exact ev_neg (by omega) (ev_now (by simp only [tailR, Bool.true_and]; exact decide_eq_decide.2 (by omega)))
  | cons y ys ih =>
    intro i prev h0 h hp0 hp1
    obtain ⟨h1, h2, h3⟩ := drop32 h0 h
    refine Ev.step (fun k => impl_AreRanges.l0.eq_2 ..) ?_
    rw [h2, w64 (x := i + 1) (by omega) (by omega)]
    refine ev_pos h1 (ev_pos h0 (ev_pos h1 (ev_some (isRange_eq y) ?_)))
    by_cases hr : isR y = true
    · refine ev_pos hr ?_
      have hy := isR_true hr
      have hnext : Ev (fun k => impl_AreRanges.l0 k xs xs (xs.length : Int) (i + 1)) (tailR (some y.f1) ys && decide (xs.length ≤ 20)) :=
        ih (i + 1) (some y.f1) (by omega) h3 (fun h => by omega) (fun _ => ⟨y.f1, rfl, by rw [show i + 1 - 1 = i from by omega, h2], by omega, by omega⟩)
      by_cases hi : 0 < i
      · obtain ⟨p, rfl, hp, hp2, hp3⟩ := hp1 hi
        refine ev_pos hi ?_
        rw [w64 (x := i - 1) (by omega) (by omega), hp, w64 (x := p + 2) (by omega) (by omega)]
        refine ev_pos (by omega) (ev_pos (by omega) ?_)
        by_cases c : y.f0 < p + 2
        · exact ev_pos c (ev_now (by simp [tailR, hr, show ¬ p + 2 ≤ y.f0 from by omega]))
        · exact ev_neg c (ev_val hnext (by simp [tailR, hr, show p + 2 ≤ y.f0 from by omega]))
      · obtain rfl := hp0 (by omega)
        exact ev_neg hi (ev_val hnext (by simp [tailR, hr]))
    · exact ev_neg hr (ev_now (by simp [tailR, hr]))
theorem areR_ev (xs : List S26) (hn : xs.length ≤ 1048576) : Ev (fun k => impl_AreRanges.f k xs) (goodR xs) := by
  unfold impl_AreRanges.f goodR
  exact ev_val (areR_l xs hn xs 0 none (by omega) rfl (fun _ => rfl) (fun h => by omega)) (Bool.and_comm _ _)

def toR (r : S23) : S26 := ⟨r.f0, r.f1⟩
theorem toRangeS_l (xs : List S23) (hn : xs.length < 4611686018427387904) : ∀ (ys : List S23) (i : Int) (zs : List S26), 0 ≤ i → xs.drop i.toNat = ys → zs.length = ys.length →
    Ev (fun k => laws_toRangeS.l0 k xs ((xs.take i.toNat).map toR ++ zs) i) (xs.map toR) := by
  intro ys
  induction ys with
  | nil =>
    intro i zs h0 h hz
    have := drop_nil h0 h
    refine Ev.step (fun k => laws_toRangeS.l0.eq_2 ..) ?_
    have hz : zs = [] := List.eq_nil_of_length_eq_zero hz
    refine ev_neg (by omega) (ev_now ?_)
    rw [hz, List.append_nil, List.take_of_length_le (by omega)]
  | cons y ys ih =>
    intro i zs h0 h hz
    obtain ⟨h1, h2', h3, h4⟩ := drop_get h0 h
    have h2 : rd_T23 xs i = y := h2' _
    obtain ⟨z, zs, rfl⟩ : ∃ z zs', zs = z :: zs' := List.exists_cons_of_length_eq_add_one hz
    have hl : ((xs.take i.toNat).map toR).length = i.toNat := by rw [List.length_map, List.length_take]; omega
    refine Ev.step (fun k => laws_toRangeS.l0.eq_2 ..) ?_
    refine ev_pos h1 (ev_pos h0 ?_)
    unfold laws_toRange.f
    refine ev_some rfl (ev_pos (by rw [List.length_append, hl, List.length_cons]; omega) ?_)
    rw [h2, w64 (by omega) (by omega)]
    have e : ((xs.take i.toNat).map toR ++ z :: zs).set i.toNat (⟨y.f0, y.f1⟩ : S26) = (xs.take (i + 1).toNat).map toR ++ zs := by
      rw [h4, List.map_append, List.set_append_right _ _ (by omega), hl, Nat.sub_self, List.set_cons_zero, List.append_assoc]; rfl
    rw [e]
    exact ih (i + 1) zs (by omega) h3 (by simpa using hz)
theorem toRangeS_ev (xs : List S23) (hn : xs.length ≤ 1048576) : Ev (fun k => laws_toRangeS.f k xs) (xs.map toR) := by
  unfold laws_toRangeS.f
  refine ev_pos (by omega) (ev_pos (by omega) ?_)
  exact toRangeS_l xs (by omega) xs 0 _ (by omega) rfl (by simp)

theorem eqRangeS_l (xs : List S26) (hn : xs.length < 4611686018427387904) : ∀ (ys : List S26) (i : Int), 0 ≤ i → xs.drop i.toNat = ys →
    Ev (fun k => laws_eqRangeS.l0 k xs xs i) true := by
  intro ys
  induction ys with
  | nil =>
    intro i h0 h
    have := drop_nil h0 h
    refine Ev.step (fun k => laws_eqRangeS.l0.eq_2 ..) ?_
    exact ev_neg (by omega) (ev_now rfl)
  | cons y ys ih =>
    intro i h0 h
    obtain ⟨h1, h2, h3, _⟩ := drop_get h0 h
    refine Ev.step (fun k => laws_eqRangeS.l0.eq_2 ..) ?_
    have e : ∀ r : S26, laws_eqRange.f r.f0 r.f1 r.f0 r.f1 = some true := fun r => by unfold laws_eqRange.f; simp
    refine ev_pos h1 (ev_pos h0 (ev_pos h1 (ev_some (e _) (ev_pos rfl ?_))))
    rw [w64 (by omega) (by omega)]
    exact ih _ (by omega) h3
theorem eqRangeS_ev (xs : List S26) (hn : xs.length < 4611686018427387904) : Ev (fun k => laws_eqRangeS.f k xs xs) true := by
  unfold laws_eqRangeS.f
  exact ev_pos rfl (eqRangeS_l xs hn xs 0 (by omega) rfl)

/-! ### Texts as lists of bytes -/
def mkB (l : List UInt8) : ByteArray := ⟨l.toArray⟩
theorem mkB_data (l : List UInt8) : (mkB l).data.toList = l := by simp [mkB]
theorem mkB_size (l : List UInt8) : (mkB l).size = l.length := by simp [mkB, ByteArray.size]
theorem mkB_eq (s : ByteArray) : mkB s.data.toList = s := by cases s; simp [mkB]
theorem mkB_append (a b : List UInt8) : mkB a ++ mkB b = mkB (a ++ b) := by
  apply ByteArray.ext
  simp [mkB, ByteArray.data_append]
theorem mkB_drop (l : List UInt8) (i : Nat) : (mkB l).extract i (mkB l).size = mkB (l.drop i) := by
  apply ByteArray.ext
  apply Array.toList_inj.1
  rw [mkB_size]
  simp only [mkB, ByteArray.data_extract, List.extract_toArray, List.extract_eq_take_drop]
  rw [List.take_of_length_le (by rw [List.length_drop]; exact Nat.le_refl _)]
theorem mkB_slice (l : List UInt8) (i j : Nat) : (mkB l).extract i j = mkB ((l.take j).drop i) := by
  apply ByteArray.ext
  apply Array.toList_inj.1
  simp [mkB, ByteArray.data_extract, List.drop_take]
theorem mkB_nums (xs : List Int) : strOfNums xs = mkB (xs.map fun n => UInt8.ofNat n.toNat) := rfl
theorem mkB_inj {a b : List UInt8} (h : mkB a = mkB b) : a = b := by
  have := congrArg (fun s => s.data.toList) h
  simpa [mkB] using this
theorem bt_mkB {l : List UInt8} {i : Nat} {x : UInt8} {xs : List UInt8} (h : l.drop i = x :: xs) : bt (mkB l) (i : Int) = (x.toNat : Int) := by
  have hl : i < l.length := by
    rcases Nat.lt_or_ge i l.length with g | g
    · exact g
    · rw [List.drop_eq_nil_iff.2 g] at h; cases h
  have e : l[i] = x := by
    have := List.drop_eq_getElem_cons hl
    rw [h] at this
    injection this with h1 _
    exact h1.symm
  have hs : (i : Int).toNat < (mkB l).size := by rw [Int.toNat_natCast, mkB_size]; exact hl
  rw [← bt_at _ _ hs, ← e]
  rfl
theorem drop_step {α : Type} {l : List α} {i : Nat} {x : α} {xs : List α} (h : l.drop i = x :: xs) : i < l.length ∧ l.drop (i + 1) = xs := by
  have hl : i < l.length := by
    rcases Nat.lt_or_ge i l.length with g | g
    · exact g
    · rw [List.drop_eq_nil_iff.2 g] at h; cases h
  have := List.drop_eq_getElem_cons hl
  rw [h] at this
  injection this with _ h2
  exact ⟨hl, h2.symm⟩

theorem dd_len (n : Nat) : (Lib.decDigits n).length ≤ n + 1 := by
  induction n using Nat.strongRecOn with
  | _ n ih =>
    rw [Lib.decDigits]
    split
    · simp
    · rename_i h
      have := ih (n / 10) (by omega)
      rw [List.length_append]
      simp only [List.length_cons, List.length_nil]
      omega
theorem dd_pos (n : Nat) : 1 ≤ (Lib.decDigits n).length := by
  rw [Lib.decDigits]
  split <;> simp
def decV (l : List UInt8) : Nat := l.foldl (fun a b => a * 10 + (b.toNat - 48)) 0
theorem decV_dd (n : Nat) : decV (Lib.decDigits n) = n := by
  induction n using Nat.strongRecOn with
  | _ n ih =>
    rw [Lib.decDigits]
    split
    · rename_i h
      simp [decV]
      omega
    · rename_i h
      have := ih (n / 10) (by omega)
      unfold decV at this ⊢
      rw [List.foldl_append, this]
      simp
      omega
theorem dd_inj {a b : Nat} (h : Lib.decDigits a = Lib.decDigits b) : a = b := by
  rw [← decV_dd a, ← decV_dd b, h]
theorem dig_eq (x : Nat) (h : x < 200) : UInt8.ofNat ((((x : Nat) : Int) % 256).toNat) = UInt8.ofNat x := by
  congr 1
  omega
theorem l1Num_ev (n : Nat) (hn : n ≤ 1000000000000) : Ev (fun k => spec_l1Num.f k (n : Int)) (mkB (Lib.decDigits n)) := by
  induction n using Nat.strongRecOn with
  | _ n ih =>
    refine Ev.step (fun k => spec_l1Num.f.eq_2 ..) ?_
    by_cases h : n < 10
    · refine ev_pos (by omega) (ev_now ?_)
      rw [w64 (by omega) (by omega), mkB_nums, Lib.decDigits, dif_pos h]
      have := dig_eq (48 + n) (by omega)
      rw [show (((48 + n : Nat) : Nat) : Int) = 48 + (n : Int) from by omega] at this
      show mkB [UInt8.ofNat (((48 + (n : Int)) % 256).toNat)] = _
      rw [this]
    · refine ev_neg (by omega) ?_
      have e1 : Int.tdiv (n : Int) 10 = ((n / 10 : Nat) : Int) := by rw [Int.tdiv_eq_ediv_of_nonneg (by omega)]; omega
      have e2 : Int.tmod (n : Int) 10 = ((n % 10 : Nat) : Int) := by rw [Int.tmod_eq_emod_of_nonneg (by omega)]; omega
      rw [e1, e2, w64 (x := ((n / 10 : Nat) : Int)) (by omega) (by omega), w64 (x := 48 + ((n % 10 : Nat) : Int)) (by omega) (by omega)]
      have hl := dd_len (n / 10)
      have hs : strOfNums [(48 + ((n % 10 : Nat) : Int)) % 256] = mkB [UInt8.ofNat (48 + n % 10)] := by
        rw [mkB_nums]
        have := dig_eq (48 + n % 10) (by omega)
        rw [show (((48 + n % 10 : Nat) : Nat) : Int) = 48 + ((n % 10 : Nat) : Int) from by omega] at this
        show mkB [UInt8.ofNat (((48 + ((n % 10 : Nat) : Int)) % 256).toNat)] = _
        rw [this]
      refine Ev.bind (ih (n / 10) (by omega) (by omega)) (ev_some rfl ?_)
      rw [hs, mkB_size, mkB_size]
      refine ev_pos (by simp only [List.length_cons, List.length_nil]; omega) (ev_now ?_)
      rw [mkB_append, Lib.decDigits.eq_1 n, dif_neg h]
theorem itoa_eq (n : Nat) (hn : n ≤ 1000000000000) : strconv_Itoa.f (n : Int) = some (mkB (Lib.decDigits n)) := by
  unfold strconv_Itoa.f
  rw [if_pos (by omega), if_pos (by omega)]
  unfold Lib.itoa
  rw [if_neg (by omega), Int.toNat_natCast]
  rfl

/-- What stands from the first place on at which the second list parts from the first. -/
def cutAt : List UInt8 → List UInt8 → List UInt8
  | x :: xs, y :: ys => if x = y then cutAt xs ys else y :: ys
  | _, ys => ys
theorem cutAt_len : ∀ (xs ys : List UInt8), (cutAt xs ys).length ≤ ys.length
  | x :: xs, y :: ys => by
    rw [cutAt]
    split
    · have := cutAt_len xs ys; simp only [List.length_cons]; omega
    · exact Nat.le_refl _
  | [], ys => by simp [cutAt]
  | x :: xs, [] => by simp [cutAt]
def shortL (a b : Nat) : List UInt8 :=
  if a = b then Lib.decDigits a else if (Lib.decDigits a).length = (Lib.decDigits b).length then Lib.decDigits a ++ 45 :: cutAt (Lib.decDigits a) (Lib.decDigits b) else Lib.decDigits a ++ 45 :: Lib.decDigits b
theorem shortL_len (a b : Nat) : (shortL a b).length ≤ a + b + 3 := by
  have h1 := dd_len a
  have h2 := dd_len b
  have h3 := cutAt_len (Lib.decDigits a) (Lib.decDigits b)
  unfold shortL
  split
  · omega
  · split <;> simp only [List.length_append, List.length_cons] <;> omega
theorem join45 (f t : List UInt8) : mkB f ++ (⟨#[45]⟩ : ByteArray) ++ mkB t = mkB (f ++ 45 :: t) := by
  have : (⟨#[45]⟩ : ByteArray) = mkB [45] := rfl
  rw [this, mkB_append, mkB_append, List.append_assoc]; rfl
theorem size45 (f : List UInt8) : (mkB f ++ (⟨#[45]⟩ : ByteArray)).size = f.length + 1 := by
  have : (⟨#[45]⟩ : ByteArray) = mkB [45] := rfl
  rw [this, mkB_append, mkB_size]; simp
theorem ixShort_l (f t : List UInt8) (hl : f.length = t.length) (hb : f.length ≤ 1000000) : ∀ (xs ys : List UInt8) (i : Nat), f.drop i = xs → t.drop i = ys → xs ≠ ys →
    Ev (fun k => spec_ixShort.l0 k (mkB f) (mkB t) (i : Int)) (mkB (f ++ 45 :: cutAt xs ys)) := by
  intro xs
  induction xs with
  | nil =>
    intro ys i h1 h2 hne
    have := List.drop_eq_nil_iff.1 h1
    rw [List.drop_eq_nil_iff.2 (by omega)] at h2
    exact absurd h2 hne
  | cons x xs ih =>
    intro ys i h1 h2 hne
    obtain ⟨g1, g2⟩ := drop_step h1
    rcases ys with _ | ⟨y, ys⟩
    · have := List.drop_eq_nil_iff.1 h2
      omega
    obtain ⟨g3, g4⟩ := drop_step h2
    refine Ev.step (fun k => spec_ixShort.l0.eq_2 ..) ?_
    rw [bt_mkB h1, bt_mkB h2, mkB_size, mkB_size, w64 (x := (i : Int) + 1) (by omega) (by omega), size45, Int.toNat_natCast]
    have e0 : (mkB t).extract i t.length = mkB (y :: ys) := by have := mkB_drop t i; rw [mkB_size] at this; rw [this, h2]
    rw [e0, mkB_size, join45]
    refine ev_pos (by omega) (ev_pos (by omega) (ev_pos (by omega) ?_))
    have hyl : (y :: ys).length ≤ t.length := by rw [← h2, List.length_drop]; omega
    by_cases c : x = y
    · subst c
      refine ev_pos rfl ?_
      have := ih ys (i + 1) g2 g4 (fun e => hne (by rw [e]))
      rw [show ((i + 1 : Nat) : Int) = (i : Int) + 1 from by omega] at this
      exact ev_val this (by rw [cutAt, if_pos rfl])
    · have hc : ¬ ((x.toNat : Int) = (y.toNat : Int)) := fun e => c (UInt8.toNat_inj.1 (by omega))
      refine ev_neg hc (ev_pos (by omega) (ev_pos (by omega) (ev_pos (by omega) (ev_now ?_))))
      rw [cutAt, if_neg c]
theorem implShort_l (f t : List UInt8) (hl : f.length = t.length) (hb : f.length ≤ 1000000) : ∀ (xs ys : List UInt8) (i : Nat), f.drop i = xs → t.drop i = ys → xs ≠ ys →
    Ev (fun k => impl_shortRange.l0 k (mkB f) (mkB t) (i : Int)) (mkB (f ++ 45 :: cutAt xs ys)) := by
  intro xs
  induction xs with
  | nil =>
    intro ys i h1 h2 hne
    have := List.drop_eq_nil_iff.1 h1
    rw [List.drop_eq_nil_iff.2 (by omega)] at h2
    exact absurd h2 hne
  | cons x xs ih =>
    intro ys i h1 h2 hne
    obtain ⟨g1, g2⟩ := drop_step h1
    rcases ys with _ | ⟨y, ys⟩
    · have := List.drop_eq_nil_iff.1 h2
      omega
    obtain ⟨g3, g4⟩ := drop_step h2
    refine Ev.step (fun k => impl_shortRange.l0.eq_2 ..) ?_
    rw [bt_mkB h1, bt_mkB h2, mkB_size, mkB_size, w64 (x := (i : Int) + 1) (by omega) (by omega), size45, Int.toNat_natCast]
    have e0 : (mkB t).extract i t.length = mkB (y :: ys) := by have := mkB_drop t i; rw [mkB_size] at this; rw [this, h2]
    rw [e0, mkB_size, join45]
    refine ev_pos (by omega) (ev_pos (by omega) (ev_pos (by omega) (ev_pos (by omega) ?_)))
    have hyl : (y :: ys).length ≤ t.length := by rw [← h2, List.length_drop]; omega
    by_cases c : x = y
    · subst c
      refine ev_pos rfl ?_
      have := ih ys (i + 1) g2 g4 (fun e => hne (by rw [e]))
      rw [show ((i + 1 : Nat) : Int) = (i : Int) + 1 from by omega] at this
      exact ev_val this (by rw [cutAt, if_pos rfl])
    · have hc : ¬ ((x.toNat : Int) = (y.toNat : Int)) := fun e => c (UInt8.toNat_inj.1 (by omega))
      refine ev_neg hc (ev_pos (by omega) (ev_pos (by omega) (ev_pos (by omega) (ev_now ?_))))
      rw [cutAt, if_neg c]
theorem specShort_ev (a b : Nat) (ha : a ≤ 100000) (hb : b ≤ 100000) : Ev (fun k => spec_ixShort.f k (a : Int) (b : Int)) (mkB (shortL a b)) := by
  have h1 := dd_len a
  have h2 := dd_len b
  unfold spec_ixShort.f shortL
  refine Ev.bind (l1Num_ev a (by omega)) (Ev.bind (l1Num_ev b (by omega)) ?_)
  rw [mkB_size, mkB_size, size45, join45]
  by_cases c : a = b
  · rw [if_pos c]
    exact ev_pos (by omega) (ev_now rfl)
  · rw [if_neg c]
    refine ev_neg (by omega) ?_
    by_cases d : (Lib.decDigits a).length = (Lib.decDigits b).length
    · rw [if_pos d]
      exact ev_pos (by omega) (ixShort_l _ _ d (by omega) _ _ 0 rfl rfl (fun e => c (dd_inj e)))
    · rw [if_neg d]
      exact ev_neg (by omega) (ev_pos (by omega) (ev_pos (by omega) (ev_now rfl)))
theorem implShort_ev (a b : Nat) (ha : a ≤ 100000) (hb : b ≤ 100000) : Ev (fun k => impl_shortRange.f k (a : Int) (b : Int)) (mkB (shortL a b)) := by
  have h1 := dd_len a
  have h2 := dd_len b
  unfold impl_shortRange.f shortL
  refine ev_some (itoa_eq a (by omega)) (ev_some (itoa_eq b (by omega)) ?_)
  by_cases c : a = b
  · rw [if_pos c]
    exact ev_pos (by omega) (ev_now rfl)
  · rw [if_neg c]
    refine ev_neg (by omega) ?_
    by_cases d : (Lib.decDigits a).length = (Lib.decDigits b).length
    · rw [if_pos d]
      exact implShort_l _ _ d (by omega) _ _ 0 rfl rfl (fun e => c (dd_inj e))
    · rw [if_neg d]
      refine Ev.step (fun k => impl_shortRange.l0.eq_2 ..) ?_
      have e0 : (mkB (Lib.decDigits b)).extract 0 (Lib.decDigits b).length = mkB (Lib.decDigits b) := by have := mkB_drop (Lib.decDigits b) 0; rw [mkB_size] at this; rw [this]; rfl
      rw [mkB_size, mkB_size, size45, show ((0 : Int)).toNat = 0 from rfl, e0, mkB_size, join45]
      exact ev_neg (by omega) (ev_pos (by omega) (ev_pos (by omega) (ev_pos (by omega) (ev_pos (by omega) (ev_now rfl)))))

theorem tailR_mem : ∀ (xs : List S26) (prev : Option Int), tailR prev xs = true → ∀ r ∈ xs, isR r = true
  | [], _, _, r, hr => by simp at hr
  | x :: xs, prev, h, r, hr => by
    simp only [tailR, Bool.and_eq_true] at h
    rcases List.mem_cons.1 hr with rfl | hr
    · exact h.1
    · exact tailR_mem xs (some x.f1) h.2.2 r hr
theorem goodR_true {xs : List S26} (h : goodR xs = true) : xs.length ≤ 20 ∧ tailR none xs = true ∧ ∀ r ∈ xs, isR r = true := by
  simp only [goodR, Bool.and_eq_true, decide_eq_true_eq] at h
  exact ⟨h.1, h.2, tailR_mem xs none h.2⟩

def shortR (r : S26) : List UInt8 := shortL r.f0.toNat r.f1.toNat
def tailT : List S26 → List UInt8
  | [] => []
  | y :: ys => 44 :: (shortR y ++ tailT ys)
def textR : List S26 → List UInt8
  | [] => []
  | y :: ys => shortR y ++ tailT ys
theorem shortR_len {r : S26} (h : isR r = true) : (shortR r).length ≤ 4100 := by
  have := isR_true h
  have := shortL_len r.f0.toNat r.f1.toNat
  unfold shortR; omega
theorem tailT_len : ∀ (ys : List S26), (∀ r ∈ ys, isR r = true) → (tailT ys).length ≤ 4101 * ys.length
  | [], _ => by simp [tailT]
  | y :: ys, h => by
    have h1 := shortR_len (h y List.mem_cons_self)
    have h2 := tailT_len ys (fun r hr => h r (List.mem_cons_of_mem _ hr))
    simp only [tailT, List.length_cons, List.length_append]; omega
theorem tailT_join : ∀ (ys : List S26), tailT ys = Lib.joinTail [44] (ys.map shortR)
  | [] => rfl
  | y :: ys => by
    rw [tailT, tailT_join ys]
    simp [Lib.joinTail]
theorem textR_join (ys : List S26) : Lib.join (ys.map shortR) [44] = textR ys := by
  rcases ys with _ | ⟨y, ys⟩
  · rfl
  · rw [List.map_cons, Lib.join_cons, textR, tailT_join]
theorem append44 (f t : List UInt8) : mkB f ++ (⟨#[44]⟩ : ByteArray) ++ mkB t = mkB (f ++ 44 :: t) := by
  have : (⟨#[44]⟩ : ByteArray) = mkB [44] := rfl
  rw [this, mkB_append, mkB_append, List.append_assoc]; rfl
theorem size44 (f : List UInt8) : (mkB f ++ (⟨#[44]⟩ : ByteArray)).size = f.length + 1 := by
  have : (⟨#[44]⟩ : ByteArray) = mkB [44] := rfl
  rw [this, mkB_append, mkB_size]; simp
theorem specShortR_ev (r : S26) (h : isR r = true) : Ev (fun k => spec_ixShort.f k r.f0 r.f1) (mkB (shortR r)) := by
  have hh := isR_true h
  have := specShort_ev r.f0.toNat r.f1.toNat (by omega) (by omega)
  rw [Int.toNat_of_nonneg (by omega), Int.toNat_of_nonneg (by omega)] at this
  exact this
theorem implShortR_ev (r : S26) (h : isR r = true) : Ev (fun k => impl_shortRange.f k r.f0 r.f1) (mkB (shortR r)) := by
  have hh := isR_true h
  have := implShort_ev r.f0.toNat r.f1.toNat (by omega) (by omega)
  rw [Int.toNat_of_nonneg (by omega), Int.toNat_of_nonneg (by omega)] at this
  exact this

theorem ixText_l (xs : List S26) (hn : xs.length ≤ 1048576) (hb : ∀ r ∈ xs, isR r = true) : ∀ (ys : List S26) (i : Int) (acc : List UInt8), 1 ≤ i → xs.drop i.toNat = ys → acc.length + 5000 * ys.length ≤ 100000000000 →
    Ev (fun k => spec_ixText.l0 k (mkB acc) xs (xs.length : Int) i) (mkB (acc ++ tailT ys)) := by
  intro ys
  induction ys with
  | nil =>
    intro i acc h0 h _
    have := drop_nil (by omega) h
    refine Ev.step (fun k => spec_ixText.l0.eq_2 ..) ?_
    exact ev_neg (by omega) (ev_now (by simp [tailT]))
  | cons y ys ih =>
    intro i acc h0 h ha
    obtain ⟨h1, h2, h3⟩ := drop32 (by omega) h
    have hy := hb y (List.mem_of_mem_drop (by rw [h]; exact List.mem_cons_self))
    have hl := shortR_len hy
    simp only [List.length_cons] at ha
    refine Ev.step (fun k => spec_ixText.l0.eq_2 ..) ?_
    rw [h2, w64 (x := i + 1) (by omega) (by omega), mkB_size, size44]
    refine ev_pos h1 (ev_pos (by omega) (ev_pos h1 (ev_pos (by omega) (ev_pos (by omega) (Ev.bind (specShortR_ev y hy) ?_)))))
    rw [mkB_size, append44]
    refine ev_pos (by omega) (ev_val (ih (i + 1) _ (by omega) h3 (by simp only [List.length_append, List.length_cons]; omega)) ?_)
    rw [tailT]; simp
theorem specText_ev (xs : List S26) (h : goodR xs = true) : Ev (fun k => spec_ixText.f k xs) (mkB (textR xs)) := by
  obtain ⟨hn, _, hb⟩ := goodR_true h
  unfold spec_ixText.f
  rcases xs with _ | ⟨y, ys⟩
  · refine Ev.step (fun k => spec_ixText.l0.eq_2 ..) ?_
    exact ev_neg (by simp) (ev_now rfl)
  · have hy := hb y List.mem_cons_self
    have hl := shortR_len hy
    have e0 : rd_T26 (y :: ys) 0 = y := rfl
    have e1 : (⟨#[]⟩ : ByteArray) = mkB [] := rfl
    simp only [List.length_cons] at hn
    refine Ev.step (fun k => spec_ixText.l0.eq_2 ..) ?_
    rw [e0, e1, w64 (x := (0 : Int) + 1) (by omega) (by omega), mkB_size]
    refine ev_pos (by simp only [List.length_cons]; omega) (ev_pos (by omega) (ev_pos (by simp only [List.length_cons]; omega) (ev_neg (by omega) (Ev.bind (specShortR_ev y hy) ?_))))
    rw [mkB_size, mkB_append]
    refine ev_pos (by simp only [List.length_nil]; omega) ?_
    exact ev_val (ixText_l (y :: ys) (by simp only [List.length_cons]; omega) hb ys (0 + 1) _ (by omega) rfl (by simp only [List.nil_append]; omega)) (by rw [List.nil_append, textR])
theorem implText_l (xs : List S26) (hn : xs.length ≤ 20) (hb : ∀ r ∈ xs, isR r = true) : ∀ (ys : List S26) (i : Int), 0 ≤ i → xs.drop i.toNat = ys →
    Ev (fun k => impl_rangesText.l0 k ((xs.take i.toNat).map fun r => mkB (shortR r)) xs (xs.length : Int) i) (mkB (textR xs)) := by
  intro ys
  induction ys with
  | nil =>
    intro i h0 h
    have := drop_nil h0 h
    refine Ev.step (fun k => impl_rangesText.l0.eq_2 ..) ?_
    refine ev_neg (by omega) (ev_some ?_ (ev_now rfl))
    rw [List.take_of_length_le (by omega)]
    have ej : joinB (xs.map fun r => mkB (shortR r)) (⟨#[44]⟩ : ByteArray) = textR xs := by
      unfold joinB
      rw [List.map_map]
      have : ((fun x : ByteArray => x.data.toList) ∘ fun r => mkB (shortR r)) = shortR := by funext r; exact mkB_data _
      rw [this]
      exact textR_join xs
    have hlen : (textR xs).length ≤ 1000000 := by
      rcases xs with _ | ⟨z, zs⟩
      · simp [textR]
      · have h1 := shortR_len (hb z List.mem_cons_self)
        have h2 := tailT_len zs (fun r hr => hb r (List.mem_cons_of_mem _ hr))
        simp only [List.length_cons] at hn
        simp only [textR, List.length_append]; omega
    unfold strings_Join.f
    rw [ej, if_pos (by rw [List.length_map]; omega), if_pos (by omega)]
    rfl
  | cons y ys ih =>
    intro i h0 h
    obtain ⟨h1, h2', h3, h4⟩ := drop_get h0 h
    have h2 : rd_T26 xs i = y := h2' _
    have hy := hb y (List.mem_of_mem_drop (by rw [h]; exact List.mem_cons_self))
    refine Ev.step (fun k => impl_rangesText.l0.eq_2 ..) ?_
    rw [h2, w64 (x := i + 1) (by omega) (by omega)]
    refine ev_pos h1 (ev_pos h0 (ev_pos h1 (Ev.bind (implShortR_ev y hy) (ev_pos (by rw [List.length_map, List.length_take]; omega) ?_))))
    have := ih (i + 1) (by omega) h3
    rw [h4, List.map_append] at this
    exact this
theorem implText_ev (xs : List S26) (h : goodR xs = true) : Ev (fun k => impl_rangesText.f k xs) (mkB (textR xs)) := by
  obtain ⟨hn, _, hb⟩ := goodR_true h
  unfold impl_rangesText.f
  exact implText_l xs hn hb xs 0 (by omega) rfl
def textM (xs : List S26) : ByteArray × Bool := if goodR xs = true then (mkB (textR xs), true) else (⟨#[]⟩, false)
theorem specTextM (xs : List S26) (hn : xs.length ≤ 1048576) : Ev (fun k => spec_RangesText.f k xs) (textM xs) := by
  unfold spec_RangesText.f textM
  refine Ev.bind (ixGood_ev xs hn) ?_
  by_cases h : goodR xs = true
  · exact ev_pos h (Ev.bind (specText_ev xs h) (ev_now (by rw [if_pos h])))
  · exact ev_neg h (ev_now (by rw [if_neg h]))
theorem implTextM (xs : List S26) (hn : xs.length ≤ 1048576) : Ev (fun k => impl_RangesText.f k xs) (textM xs) := by
  unfold impl_RangesText.f textM
  refine Ev.bind (areR_ev xs hn) ?_
  by_cases h : goodR xs = true
  · exact ev_pos h (Ev.bind (implText_ev xs h) (ev_now (by rw [if_pos h])))
  · exact ev_neg h (ev_now (by rw [if_neg h]))
theorem FnExactRangesText (l : List S23) (hx : l.length ≤ 9223372036854775807) : ∃ k, laws_FnExactRangesText.f k l = some true := by
  refine Ev.rounds ?_
  unfold laws_FnExactRangesText.f laws_szRangeS.f
  have hm : (l.map toR).length = l.length := List.length_map ..
  rw [w64 (x := 1048576 - (l.length : Int)) (by omega) (by omega)]
  by_cases h : 1048576 - (l.length : Int) < 0
  · rw [if_pos h]
    exact ev_some rfl (ev_pos (by omega) (ev_now rfl))
  · rw [if_neg h]
    refine ev_some rfl (ev_neg h ?_)
    have hl : l.length ≤ 1048576 := by omega
    refine Ev.bind (toRangeS_ev l hl) (Ev.bind (specTextM _ (by omega)) ?_)
    refine Ev.bind (toRangeS_ev l hl) (Ev.bind (implTextM _ (by omega)) (ev_pos rfl ?_))
    refine Ev.step (fun k => laws_FnExactRangesText.j0.eq_2 ..) ?_
    exact ev_neg (by simp) (Ev.bind (toRangeS_ev l hl) (Ev.bind (eqRangeS_ev _ (by omega)) (ev_pos rfl (ev_now rfl))))

end Go.Proofs.YteolpfmpinbdoaaDoor.Pure
