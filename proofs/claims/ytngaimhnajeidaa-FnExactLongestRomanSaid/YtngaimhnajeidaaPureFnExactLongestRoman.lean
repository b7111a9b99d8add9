/- The law FnExactLongestRoman holds for every number: program and reference tell the same number with the most letters. No condition. -/
import Derived.Test.YtngaimhnajeidaaPFnExactLongestRomanx1
namespace Go.Proofs.Ytngaimhnajeidaa.Pure
open Go.RowKit Go.Proofs.Ytngaimhnajeidaa.PFnExactLongestRoman Go.Proofs.YtngaimhnajeidaaW.PrintWords Go.Proofs.YtngaimhnajeidaaW.PrintLast

theorem w64 {x : Int} (h1 : -9223372036854775808 ≤ x) (h2 : x ≤ 9223372036854775807) : wrap64 x = x := by
  unfold wrap64; omega
theorem ev_pos {α : Type} {c : Prop} [Decidable c] {f g : Nat → Option α} {r : α} (hc : c) (h : Ev f r) : Ev (fun k => if c then f k else g k) r := by
  simpa only [if_pos hc] using h
theorem ev_neg {α : Type} {c : Prop} [Decidable c] {f g : Nat → Option α} {r : α} (hc : ¬ c) (h : Ev g r) : Ev (fun k => if c then f k else g k) r := by
  simpa only [if_neg hc] using h
theorem ev_now {α : Type} {r s : α} (h : r = s) : Ev (fun _ => some r) s := h ▸ Ev.now r
theorem ev_some {α β : Type} {x : Option α} {f : Nat → α → Option β} {a : α} {r : β} (h : x = some a) (k : Ev (fun n => f n a) r) : Ev (fun n => x.bind (f n)) r := by
  subst h; exact k
theorem ev_val {α : Type} {g : Nat → Option α} {a b : α} (h : Ev g a) (e : a = b) : Ev g b := e ▸ h
theorem ev_suc {α : Type} {g : Nat → Option α} {r : α} (h : Ev (fun k => g (k + 1)) r) : Ev g r := Ev.step (fun _ => rfl) h
theorem drop_nil {α : Type} {xs : List α} {i : Int} (h0 : 0 ≤ i) (h : xs.drop i.toNat = []) : (xs.length : Int) ≤ i := by
  have := List.drop_eq_nil_iff.1 h
  omega
theorem drop_get {α : Type} {xs : List α} {i : Int} {y : α} {ys : List α} (h0 : 0 ≤ i) (h : xs.drop i.toNat = y :: ys) : i < (xs.length : Int) ∧ (∀ d, xs.getD i.toNat d = y) ∧ xs.drop (i + 1).toNat = ys ∧ xs.take (i + 1).toNat = xs.take i.toNat ++ [y] := by
  have hl : i.toNat < xs.length := by
    rcases Nat.lt_or_ge i.toNat xs.length with hl | hl
    · exact hl
    · rw [List.drop_eq_nil_iff.2 hl] at h; cases h
  have e := List.drop_eq_getElem_cons hl
  rw [h] at e
  injection e with e1 e2
  have h1 : (i + 1).toNat = i.toNat + 1 := by omega
  refine ⟨by omega, fun d => ?_, ?_, ?_⟩
  · rw [List.getD_eq_getElem?_getD, List.getElem?_eq_getElem hl, e1]; rfl
  · rw [h1]; exact e2.symm
  · rw [h1, List.take_add_one, List.getElem?_eq_getElem hl, e1]; rfl
theorem drop_cons {xs : List Int} {i : Int} {y : Int} {ys : List Int} (h0 : 0 ≤ i) (h : xs.drop i.toNat = y :: ys) : i < (xs.length : Int) ∧ rd xs i = y ∧ xs.drop (i + 1).toNat = ys ∧ xs.take (i + 1).toNat = xs.take i.toNat ++ [y] := by
  obtain ⟨h1, h2, h3⟩ := drop_get h0 h
  exact ⟨h1, h2 0, h3⟩

/-! ### Texts as lists of bytes -/
def mkB (l : List UInt8) : ByteArray := ⟨l.toArray⟩
theorem mkB_data (l : List UInt8) : (mkB l).data.toList = l := by simp [mkB]
theorem mkB_size (l : List UInt8) : (mkB l).size = l.length := by simp [mkB, ByteArray.size]
theorem mkB_eq (s : ByteArray) : mkB s.data.toList = s := by cases s; simp [mkB]
theorem mkB_append (a b : List UInt8) : mkB a ++ mkB b = mkB (a ++ b) := by
  apply ByteArray.ext
  simp [mkB, ByteArray.data_append]
theorem mkB_drop (l : List UInt8) (i : Nat) : (mkB l).extract i (mkB l).size = mkB (l.drop i) := by
  apply ByteArray.ext
  apply Array.toList_inj.1
  rw [mkB_size]
  simp only [mkB, ByteArray.data_extract, List.extract_toArray, List.extract_eq_take_drop]
  rw [List.take_of_length_le (by rw [List.length_drop]; exact Nat.le_refl _)]
theorem mkB_slice (l : List UInt8) (i j : Nat) : (mkB l).extract i j = mkB ((l.take j).drop i) := by
  apply ByteArray.ext
  apply Array.toList_inj.1
  simp [mkB, ByteArray.data_extract, List.drop_take]
theorem mkB_nums (xs : List Int) : strOfNums xs = mkB (xs.map fun n => UInt8.ofNat n.toNat) := rfl
theorem mkB_inj {a b : List UInt8} (h : mkB a = mkB b) : a = b := by
  have := congrArg (fun s => s.data.toList) h
  simpa [mkB] using this
theorem bt_mkB {l : List UInt8} {i : Nat} {x : UInt8} {xs : List UInt8} (h : l.drop i = x :: xs) : bt (mkB l) (i : Int) = (x.toNat : Int) := by
  have hl : i < l.length := by
    rcases Nat.lt_or_ge i l.length with g | g
    · exact g
    · rw [List.drop_eq_nil_iff.2 g] at h; cases h
  have e : l[i] = x := by
    have := List.drop_eq_getElem_cons hl
    rw [h] at this
    injection this with h1 _
    exact h1.symm
  have hs : (i : Int).toNat < (mkB l).size := by rw [Int.toNat_natCast, mkB_size]; exact hl
  rw [← bt_at _ _ hs, ← e]
  rfl
theorem drop_step {α : Type} {l : List α} {i : Nat} {x : α} {xs : List α} (h : l.drop i = x :: xs) : i < l.length ∧ l.drop (i + 1) = xs := by
  have hl : i < l.length := by
    rcases Nat.lt_or_ge i l.length with g | g
    · exact g
    · rw [List.drop_eq_nil_iff.2 g] at h; cases h
  have := List.drop_eq_getElem_cons hl
  rw [h] at this
  injection this with _ h2
  exact ⟨hl, h2.symm⟩

theorem repeat_eq (o : List UInt8) (d : Nat) (ho : o.length ≤ 1048576) (hd : d ≤ 1048576) : strings_Repeat.f (mkB o) (d : Int) = some (mkB (Lib.repeatL o d)) := by
  unfold strings_Repeat.f
  rw [if_pos (by omega), if_pos (by omega), if_pos (by rw [mkB_size]; exact ho), Int.toNat_natCast, mkB_data]
  rfl
theorem repeatL_len (o : List UInt8) (c : Nat) : (Lib.repeatL o c).length = c * o.length := Lib.repeatL_length o c

def partM (d : Nat) (o f t : List UInt8) : List UInt8 :=
  if d = 9 then o ++ t else if 5 ≤ d then f ++ Lib.repeatL o (d - 5) else if d = 4 then o ++ f else Lib.repeatL o d
theorem partM_len (d : Nat) (hd : d ≤ 9) (o f t : List UInt8) (ho : o.length ≤ 1) (hf : f.length ≤ 1) (ht : t.length ≤ 1) : (partM d o f t).length ≤ 20 := by
  have e1 := repeatL_len o (d - 5)
  have e2 := repeatL_len o d
  have m1 : (d - 5) * o.length ≤ 9 * 1 := Nat.mul_le_mul (by omega) ho
  have m2 : d * o.length ≤ 9 * 1 := Nat.mul_le_mul hd ho
  unfold partM
  split
  · rw [List.length_append]; omega
  · split
    · rw [List.length_append]; omega
    · split
      · rw [List.length_append]; omega
      · omega
theorem caPart_l (o : List UInt8) (ho : o.length ≤ 1) : ∀ (d : Nat) (acc : List UInt8), acc.length + d ≤ 1000 →
    Ev (fun k => spec_caPart.l0 k (d : Int) (mkB o) (mkB acc)) (mkB (acc ++ Lib.repeatL o d)) := by
  intro d
  induction d with
  | zero =>
    intro acc _
    refine Ev.step (fun k => spec_caPart.l0.eq_2 ..) ?_
    exact ev_neg (by omega) (ev_now (by simp [Lib.repeatL]))
  | succ d ih =>
    intro acc ha
    refine Ev.step (fun k => spec_caPart.l0.eq_2 ..) ?_
    rw [w64 (x := ((d + 1 : Nat) : Int) - 1) (by omega) (by omega), show ((d + 1 : Nat) : Int) - 1 = (d : Int) from by omega, mkB_append, mkB_size, mkB_size]
    exact ev_pos (by omega) (ev_pos (by omega) (ev_val (ih (acc ++ o) (by rw [List.length_append]; omega)) (by rw [Lib.repeatL, List.append_assoc])))
theorem specPart_ev (d : Nat) (hd : d ≤ 9) (o f t : List UInt8) (ho : o.length ≤ 1) (hf : f.length ≤ 1) (ht : t.length ≤ 1) : Ev (fun k => spec_caPart.f k (d : Int) (mkB o) (mkB f) (mkB t)) (mkB (partM d o f t)) := by
  have e0 : (⟨#[]⟩ : ByteArray) = mkB [] := rfl
  unfold spec_caPart.f partM
  rw [mkB_append, mkB_append, mkB_size, mkB_size, mkB_size, e0]
  by_cases h4 : d = 4
  · refine ev_pos (by omega) (ev_pos (by omega) (ev_now ?_))
    rw [if_neg (by omega), if_neg (by omega), if_pos h4]
  refine ev_neg (by omega) ?_
  by_cases h9 : d = 9
  · exact ev_pos (by omega) (ev_pos (by omega) (ev_now (by rw [if_pos h9])))
  refine ev_neg (by omega) ?_
  rw [if_neg h9]
  by_cases h5 : 5 ≤ d
  · rw [if_pos h5, w64 (x := (d : Int) - 5) (by omega) (by omega), show (d : Int) - 5 = ((d - 5 : Nat) : Int) from by omega]
    exact ev_pos (by omega) (Ev.step (fun k => spec_caPart.j0.eq_2 ..) (caPart_l o ho (d - 5) f (by omega)))
  · rw [if_neg h5, if_neg h4]
    refine ev_neg (by omega) (Ev.step (fun k => spec_caPart.j0.eq_2 ..) ?_)
    exact ev_val (caPart_l o ho d [] (by simp; omega)) (by rw [List.nil_append])
theorem implDigit_eq (d : Nat) (hd : d ≤ 9) (o f t : List UInt8) (ho : o.length ≤ 1) (hf : f.length ≤ 1) (ht : t.length ≤ 1) : impl_digitOf.f (d : Int) (mkB o) (mkB f) (mkB t) = some (mkB (partM d o f t)) := by
  unfold impl_digitOf.f partM
  rw [mkB_append, mkB_append, mkB_size, mkB_size, mkB_size]
  by_cases h9 : d = 9
  · rw [if_pos (by omega), if_pos (by omega), if_pos h9]
  rw [if_neg (by omega), if_neg h9]
  by_cases h5 : 5 ≤ d
  · rw [if_pos (by omega), if_pos h5, w64 (x := (d : Int) - 5) (by omega) (by omega), show (d : Int) - 5 = ((d - 5 : Nat) : Int) from by omega, repeat_eq o (d - 5) (by omega) (by omega)]
    simp only [Option.bind_some]
    have e := repeatL_len o (d - 5)
    have m : (d - 5) * o.length ≤ 9 * 1 := Nat.mul_le_mul (by omega) ho
    rw [mkB_size, mkB_append, if_pos (by omega)]
  · rw [if_neg (by omega), if_neg h5]
    by_cases h4 : d = 4
    · rw [if_pos (by omega), if_pos (by omega), if_pos h4]
    · rw [if_neg (by omega), if_neg h4, repeat_eq o d (by omega) (by omega)]
      rfl
def romanL (n : Nat) : List UInt8 := (Lib.repeatL [99] (n / 100) ++ partM (n / 10 % 10) [120] [108] [99]) ++ partM (n % 10) [105] [118] [120]
theorem specRoman_ev (n : Nat) (hn : n ≤ 399) : Ev (fun k => spec_caRoman.f k (n : Int)) (mkB (romanL n)) := by
  unfold spec_caRoman.f
  have e1 : Int.tdiv (n : Int) 100 = ((n / 100 : Nat) : Int) := by rw [Int.tdiv_eq_ediv_of_nonneg (by omega)]; omega
  have e2 : Int.tdiv (n : Int) 10 = ((n / 10 : Nat) : Int) := by rw [Int.tdiv_eq_ediv_of_nonneg (by omega)]; omega
  rw [e1, e2, w64 (x := ((n / 100 : Nat) : Int)) (by omega) (by omega), w64 (x := ((n / 10 : Nat) : Int)) (by omega) (by omega)]
  have e3 : Int.tmod ((n / 10 : Nat) : Int) 10 = ((n / 10 % 10 : Nat) : Int) := by rw [Int.tmod_eq_emod_of_nonneg (by omega)]; omega
  have e4 : Int.tmod (n : Int) 10 = ((n % 10 : Nat) : Int) := by rw [Int.tmod_eq_emod_of_nonneg (by omega)]; omega
  rw [e3, e4]
  have p1 := specPart_ev (n / 100) (by omega) [99] [100] [] (by simp) (by simp) (by simp)
  have p2 := specPart_ev (n / 10 % 10) (by omega) [120] [108] [99] (by simp) (by simp) (by simp)
  have p3 := specPart_ev (n % 10) (by omega) [105] [118] [120] (by simp) (by simp) (by simp)
  have l1 := partM_len (n / 100) (by omega) [99] [100] [] (by simp) (by simp) (by simp)
  have l2 := partM_len (n / 10 % 10) (by omega) [120] [108] [99] (by simp) (by simp) (by simp)
  have l3 := partM_len (n % 10) (by omega) [105] [118] [120] (by simp) (by simp) (by simp)
  have q : partM (n / 100) [99] [100] [] = Lib.repeatL [99] (n / 100) := by unfold partM; rw [if_neg (by omega), if_neg (by omega), if_neg (by omega)]
  rw [q] at p1 l1
  refine Ev.bind p1 (Ev.bind p2 ?_)
  rw [mkB_size, mkB_size, mkB_append]
  refine ev_pos (by omega) (Ev.bind p3 ?_)
  rw [mkB_size, mkB_size, mkB_append]
  refine ev_pos (by rw [List.length_append]; omega) (ev_now ?_)
  unfold romanL
  rfl
theorem implRoman_eq (n : Nat) (hn : n ≤ 399) : impl_roman.f (n : Int) = some (mkB (romanL n)) := by
  unfold impl_roman.f
  have e1 : Int.tdiv (n : Int) 100 = ((n / 100 : Nat) : Int) := by rw [Int.tdiv_eq_ediv_of_nonneg (by omega)]; omega
  have e2 : Int.tdiv (n : Int) 10 = ((n / 10 : Nat) : Int) := by rw [Int.tdiv_eq_ediv_of_nonneg (by omega)]; omega
  rw [e1, e2, w64 (x := ((n / 100 : Nat) : Int)) (by omega) (by omega), w64 (x := ((n / 10 : Nat) : Int)) (by omega) (by omega)]
  have e3 : Int.tmod ((n / 10 : Nat) : Int) 10 = ((n / 10 % 10 : Nat) : Int) := by rw [Int.tmod_eq_emod_of_nonneg (by omega)]; omega
  have e4 : Int.tmod (n : Int) 10 = ((n % 10 : Nat) : Int) := by rw [Int.tmod_eq_emod_of_nonneg (by omega)]; omega
  rw [e3, e4]
  have p1 : strings_Repeat.f (⟨#[99]⟩ : ByteArray) ((n / 100 : Nat) : Int) = some (mkB (Lib.repeatL [99] (n / 100))) := repeat_eq [99] (n / 100) (by simp) (by omega)
  have p2 : impl_digitOf.f ((n / 10 % 10 : Nat) : Int) (⟨#[120]⟩ : ByteArray) (⟨#[108]⟩ : ByteArray) (⟨#[99]⟩ : ByteArray) = _ := implDigit_eq (n / 10 % 10) (by omega) [120] [108] [99] (by simp) (by simp) (by simp)
  have p3 : impl_digitOf.f ((n % 10 : Nat) : Int) (⟨#[105]⟩ : ByteArray) (⟨#[118]⟩ : ByteArray) (⟨#[120]⟩ : ByteArray) = _ := implDigit_eq (n % 10) (by omega) [105] [118] [120] (by simp) (by simp) (by simp)
  have l1 := repeatL_len [99] (n / 100)
  have l2 := partM_len (n / 10 % 10) (by omega) [120] [108] [99] (by simp) (by simp) (by simp)
  have l3 := partM_len (n % 10) (by omega) [105] [118] [120] (by simp) (by simp) (by simp)
  simp only [List.length_cons, List.length_nil] at l1
  rw [p1]
  simp only [Option.bind_some]
  rw [p2]
  simp only [Option.bind_some]
  rw [mkB_size, mkB_size, mkB_append, if_pos (by omega), p3]
  simp only [Option.bind_some]
  rw [mkB_size, mkB_size, mkB_append, if_pos (by rw [List.length_append]; omega)]
  unfold romanL
  rfl

theorem within_eq (a lo hi : Int) : impl_within.f a lo hi = some (decide (lo ≤ a ∧ a ≤ hi)) := by
  unfold impl_within.f
  by_cases h : a ≥ lo
  · rw [if_pos h]; congr 1; simp [show lo ≤ a from h]
  · rw [if_neg h]; congr 1; simp; omega

theorem l1In_eq (a lo hi : Int) : spec_l1In.f a lo hi = some (decide (lo ≤ a ∧ a ≤ hi)) := by
  unfold spec_l1In.f
  by_cases h : a ≥ lo
  · rw [if_pos h]; congr 1; simp [show lo ≤ a from h]
  · rw [if_neg h]; congr 1; simp; omega

theorem long_l (n : Nat) (hn : n ≤ 399) : ∀ (d : Nat) (i : Nat) (a b : Int), i + d = n + 1 → ∃ r, Ev (fun k => spec_LongestRoman.l0 k (n : Int) a b (i : Int)) r ∧ Ev (fun k => impl_LongestRoman.l0 k (n : Int) a b (i : Int)) r := by
  intro d
  induction d with
  | zero =>
    intro i a b h
    exact ⟨(a, b, true), Ev.step (fun k => spec_LongestRoman.l0.eq_2 ..) (ev_neg (by omega) (ev_now rfl)), Ev.step (fun k => impl_LongestRoman.l0.eq_2 ..) (ev_neg (by omega) (ev_now rfl))⟩
  | succ d ih =>
    intro i a b h
    have hs := specRoman_ev i (by omega)
    have hi := implRoman_eq i (by omega)
    have e : wrap64 ((i : Int) + 1) = ((i + 1 : Nat) : Int) := by rw [w64 (by omega) (by omega)]; omega
    by_cases c : ((mkB (romanL i)).size : Int) > b
    · obtain ⟨r, h1, h2⟩ := ih (i + 1) (i : Int) ((mkB (romanL i)).size : Int) (by omega)
      refine ⟨r, Ev.step (fun k => spec_LongestRoman.l0.eq_2 ..) (ev_pos (by omega) (Ev.bind hs (ev_pos c ?_))), Ev.step (fun k => impl_LongestRoman.l0.eq_2 ..) (ev_pos (by omega) (ev_some hi (ev_pos c ?_)))⟩
      · rw [e]; exact h1
      · rw [e]; exact h2
    · obtain ⟨r, h1, h2⟩ := ih (i + 1) a b (by omega)
      refine ⟨r, Ev.step (fun k => spec_LongestRoman.l0.eq_2 ..) (ev_pos (by omega) (Ev.bind hs (ev_neg c ?_))), Ev.step (fun k => impl_LongestRoman.l0.eq_2 ..) (ev_pos (by omega) (ev_some hi (ev_neg c ?_)))⟩
      · rw [e]; exact h1
      · rw [e]; exact h2
theorem FnExactLongestRoman (a : Int) : ∃ k, laws_FnExactLongestRoman.f k a = some true := by
  refine Ev.rounds ?_
  unfold laws_FnExactLongestRoman.f spec_LongestRoman.f impl_LongestRoman.f spec_caNumber.f impl_isRoman.f
  have e1 : ((spec_l1In.f a 1 399).bind fun t101 => (some t101)) = some (decide (1 ≤ a ∧ a ≤ 399)) := by rw [l1In_eq]; rfl
  have e2 : ((impl_within.f a 1 399).bind fun t101 => (some t101)) = some (decide (1 ≤ a ∧ a ≤ 399)) := by rw [within_eq]; rfl
  by_cases h : 1 ≤ a ∧ a ≤ 399
  · obtain ⟨r, h1, h2⟩ := long_l a.toNat (by omega) a.toNat 1 0 0 (by omega)
    rw [Int.toNat_of_nonneg (by omega)] at h1 h2
    rw [decide_eq_true h] at e1 e2
    exact Ev.bind (ev_some e1 (ev_pos rfl h1)) (Ev.bind (ev_some e2 (ev_pos rfl h2)) (ev_pos rfl (ev_pos rfl (ev_neg (by simp) (ev_now rfl)))))
  · rw [decide_eq_false h] at e1 e2
    exact Ev.bind (ev_some e1 (ev_neg (by simp) (ev_now rfl))) (Ev.bind (ev_some e2 (ev_neg (by simp) (ev_now rfl))) (ev_pos rfl (ev_pos rfl (ev_neg (by simp) (ev_now rfl)))))

end Go.Proofs.Ytngaimhnajeidaa.Pure
