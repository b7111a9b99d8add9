/- The law FnExactContentsLine holds for every title, page and width: program and reference tell the same line. No condition but what the card lists. -/
import Derived.Test.YtngaimhnajeidaaDoorPFnExactContentsLinex2
namespace Go.Proofs.YtngaimhnajeidaaDoor.Pure
open Go.RowKit Go.Proofs.YtngaimhnajeidaaDoor.PFnExactContentsLine Go.Proofs.YtngaimhnajeidaaDoorW.PrintWords Go.Proofs.YtngaimhnajeidaaDoorW.PrintLast

theorem w64 {x : Int} (h1 : -9223372036854775808 ≤ x) (h2 : x ≤ 9223372036854775807) : wrap64 x = x := by
  unfold wrap64; omega
theorem ev_pos {α : Type} {c : Prop} [Decidable c] {f g : Nat → Option α} {r : α} (hc : c) (h : Ev f r) : Ev (fun k => if c then f k else g k) r := by
  simpa only [if_pos hc] using h
theorem ev_neg {α : Type} {c : Prop} [Decidable c] {f g : Nat → Option α} {r : α} (hc : ¬ c) (h : Ev g r) : Ev (fun k => if c then f k else g k) r := by
  simpa only [if_neg hc] using h
theorem ev_now {α : Type} {r s : α} (h : r = s) : Ev (fun _ => some r) s := h ▸ Ev.now r
theorem ev_some {α β : Type} {x : Option α} {f : Nat → α → Option β} {a : α} {r : β} (h : x = some a) (k : Ev (fun n => f n a) r) : Ev (fun n => x.bind (f n)) r := by
  subst h; exact k
theorem ev_val {α : Type} {g : Nat → Option α} {a b : α} (h : Ev g a) (e : a = b) : Ev g b := e ▸ h
theorem ev_suc {α : Type} {g : Nat → Option α} {r : α} (h : Ev (fun k => g (k + 1)) r) : Ev g r := Ev.step (fun _ => rfl) h
theorem drop_nil {α : Type} {xs : List α} {i : Int} (h0 : 0 ≤ i) (h : xs.drop i.toNat = []) : (xs.length : Int) ≤ i := by
  have := List.drop_eq_nil_iff.1 h
  omega
theorem drop_get {α : Type} {xs : List α} {i : Int} {y : α} {ys : List α} (h0 : 0 ≤ i) (h : xs.drop i.toNat = y :: ys) : i < (xs.length : Int) ∧ (∀ d, xs.getD i.toNat d = y) ∧ xs.drop (i + 1).toNat = ys ∧ xs.take (i + 1).toNat = xs.take i.toNat ++ [y] := by
  have hl : i.toNat < xs.length := by
    rcases Nat.lt_or_ge i.toNat xs.length with hl | hl
    · exact hl
    · rw [List.drop_eq_nil_iff.2 hl] at h; cases h
  have e := List.drop_eq_getElem_cons hl
  rw [h] at e
  injection e with e1 e2
  have h1 : (i + 1).toNat = i.toNat + 1 := by omega
  refine ⟨by omega, fun d => ?_, ?_, ?_⟩
  · rw [List.getD_eq_getElem?_getD, List.getElem?_eq_getElem hl, e1]; rfl
  · rw [h1]; exact e2.symm
  · rw [h1, List.take_add_one, List.getElem?_eq_getElem hl, e1]; rfl
theorem drop_cons {xs : List Int} {i : Int} {y : Int} {ys : List Int} (h0 : 0 ≤ i) (h : xs.drop i.toNat = y :: ys) : i < (xs.length : Int) ∧ rd xs i = y ∧ xs.drop (i + 1).toNat = ys ∧ xs.take (i + 1).toNat = xs.take i.toNat ++ [y] := by
  obtain ⟨h1, h2, h3⟩ := drop_get h0 h
  exact ⟨h1, h2 0, h3⟩

/-! ### Texts as lists of bytes -/
def mkB (l : List UInt8) : ByteArray := ⟨l.toArray⟩
theorem mkB_data (l : List UInt8) : (mkB l).data.toList = l := by simp [mkB]
theorem mkB_size (l : List UInt8) : (mkB l).size = l.length := by simp [mkB, ByteArray.size]
theorem mkB_eq (s : ByteArray) : mkB s.data.toList = s := by cases s; simp [mkB]
theorem mkB_append (a b : List UInt8) : mkB a ++ mkB b = mkB (a ++ b) := by
  apply ByteArray.ext
  simp [mkB, ByteArray.data_append]
theorem mkB_drop (l : List UInt8) (i : Nat) : (mkB l).extract i (mkB l).size = mkB (l.drop i) := by
  apply ByteArray.ext
  apply Array.toList_inj.1
  rw [mkB_size]
  simp only [mkB, ByteArray.data_extract, List.extract_toArray, List.extract_eq_take_drop]
  rw [List.take_of_length_le (by rw [List.length_drop]; exact Nat.le_refl _)]
theorem mkB_slice (l : List UInt8) (i j : Nat) : (mkB l).extract i j = mkB ((l.take j).drop i) := by
  apply ByteArray.ext
  apply Array.toList_inj.1
  simp [mkB, ByteArray.data_extract, List.drop_take]
theorem mkB_nums (xs : List Int) : strOfNums xs = mkB (xs.map fun n => UInt8.ofNat n.toNat) := rfl
theorem mkB_inj {a b : List UInt8} (h : mkB a = mkB b) : a = b := by
  have := congrArg (fun s => s.data.toList) h
  simpa [mkB] using this
theorem bt_mkB {l : List UInt8} {i : Nat} {x : UInt8} {xs : List UInt8} (h : l.drop i = x :: xs) : bt (mkB l) (i : Int) = (x.toNat : Int) := by
  have hl : i < l.length := by
    rcases Nat.lt_or_ge i l.length with g | g
    · exact g
    · rw [List.drop_eq_nil_iff.2 g] at h; cases h
  have e : l[i] = x := by
    have := List.drop_eq_getElem_cons hl
    rw [h] at this
    injection this with h1 _
    exact h1.symm
  have hs : (i : Int).toNat < (mkB l).size := by rw [Int.toNat_natCast, mkB_size]; exact hl
  rw [← bt_at _ _ hs, ← e]
  rfl
theorem drop_step {α : Type} {l : List α} {i : Nat} {x : α} {xs : List α} (h : l.drop i = x :: xs) : i < l.length ∧ l.drop (i + 1) = xs := by
  have hl : i < l.length := by
    rcases Nat.lt_or_ge i l.length with g | g
    · exact g
    · rw [List.drop_eq_nil_iff.2 g] at h; cases h
  have := List.drop_eq_getElem_cons hl
  rw [h] at this
  injection this with _ h2
  exact ⟨hl, h2.symm⟩

theorem within_eq (a lo hi : Int) : impl_within.f a lo hi = some (decide (lo ≤ a ∧ a ≤ hi)) := by
  unfold impl_within.f
  by_cases h : a ≥ lo
  · rw [if_pos h]; congr 1; simp [show lo ≤ a from h]
  · rw [if_neg h]; congr 1; simp; omega

theorem l1In_eq (a lo hi : Int) : spec_l1In.f a lo hi = some (decide (lo ≤ a ∧ a ≤ hi)) := by
  unfold spec_l1In.f
  by_cases h : a ≥ lo
  · rw [if_pos h]; congr 1; simp [show lo ≤ a from h]
  · rw [if_neg h]; congr 1; simp; omega

def plainB (b : UInt8) : Bool := decide (32 ≤ b.toNat ∧ b.toNat ≤ 126)
def okT (l : List UInt8) : Bool := decide (1 ≤ l.length ∧ l.length ≤ 40) && l.all plainB
theorem plain_lt {x : UInt8} (h : ¬ ((x.toNat : Int) < 32)) (h2 : ¬ ((x.toNat : Int) > 126)) : plainB x = true := by
  unfold plainB; rw [decide_eq_true_eq]; omega
theorem plain_not1 {x : UInt8} (h : (x.toNat : Int) < 32) : plainB x = false := by
  unfold plainB; rw [decide_eq_false_iff_not]; omega
theorem plain_not2 {x : UInt8} (h : (x.toNat : Int) > 126) : plainB x = false := by
  unfold plainB; rw [decide_eq_false_iff_not]; omega
theorem caTitle_l (l : List UInt8) (hl : l.length ≤ 1048576) : ∀ (ys : List UInt8) (i : Nat), l.drop i = ys →
    Ev (fun k => spec_caTitle.l0 k (mkB l) (i : Int)) (ys.all plainB) := by
  intro ys
  induction ys with
  | nil =>
    intro i h
    have := List.drop_eq_nil_iff.1 h
    refine Ev.step (fun k => spec_caTitle.l0.eq_2 ..) ?_
    exact ev_neg (by rw [mkB_size]; omega) (ev_now rfl)
  | cons y ys ih =>
    intro i h
    obtain ⟨g1, g2⟩ := drop_step h
    refine Ev.step (fun k => spec_caTitle.l0.eq_2 ..) ?_
    rw [bt_mkB h, mkB_size, w64 (x := (i : Int) + 1) (by omega) (by omega)]
    refine ev_pos (by omega) (ev_pos (by omega) ?_)
    by_cases c1 : (y.toNat : Int) < 32
    · exact ev_pos c1 (ev_now (by rw [List.all_cons, plain_not1 c1, Bool.false_and]))
    by_cases c2 : (y.toNat : Int) > 126
    · exact ev_neg c1 (ev_pos c2 (ev_now (by rw [List.all_cons, plain_not2 c2, Bool.false_and])))
    have := ih (i + 1) g2
    rw [show ((i + 1 : Nat) : Int) = (i : Int) + 1 from by omega] at this
    exact ev_neg c1 (ev_neg c2 (ev_val this (by rw [List.all_cons, plain_lt c1 c2, Bool.true_and])))
theorem caTitle_ev (l : List UInt8) (hl : l.length ≤ 1048576) : Ev (fun k => spec_caTitle.f k (mkB l)) (okT l) := by
  unfold spec_caTitle.f okT
  rw [mkB_size]
  refine ev_some (l1In_eq ..) ?_
  by_cases h : 1 ≤ (l.length : Int) ∧ (l.length : Int) ≤ 40
  · have e : (1 ≤ l.length ∧ l.length ≤ 40) := by omega
    refine ev_pos (decide_eq_true h) (ev_val (caTitle_l l hl l 0 rfl) ?_)
    rw [decide_eq_true e, Bool.true_and]
  · have e : ¬ (1 ≤ l.length ∧ l.length ≤ 40) := by omega
    refine ev_neg (by rw [decide_eq_false h]; simp) (ev_now ?_)
    rw [decide_eq_false e, Bool.false_and]
theorem isTitle_l (l : List UInt8) (hl : l.length ≤ 1048576) : ∀ (ys : List UInt8) (i : Nat), l.drop i = ys →
    Ev (fun k => impl_isTitle.l0 k (mkB l) (l.length : Int) (i : Int)) (decide (1 ≤ l.length ∧ l.length ≤ 40) && ys.all plainB) := by
  intro ys
  induction ys with
  | nil =>
    intro i h
    have := List.drop_eq_nil_iff.1 h
    refine Ev.step (fun k => impl_isTitle.l0.eq_2 ..) ?_
    refine ev_neg (by omega) ?_
    rw [mkB_size]
    refine ev_some (within_eq ..) (ev_now ?_)
    rw [List.all_nil, Bool.and_true]
    exact decide_eq_decide.2 (by omega)
  | cons y ys ih =>
    intro i h
    obtain ⟨g1, g2⟩ := drop_step h
    refine Ev.step (fun k => impl_isTitle.l0.eq_2 ..) ?_
    rw [bt_mkB h, mkB_size, w64 (x := (i : Int) + 1) (by omega) (by omega)]
    refine ev_pos (by omega) (ev_pos (by omega) (ev_pos (by omega) ?_))
    by_cases c1 : (y.toNat : Int) < 32
    · exact ev_pos c1 (ev_now (by rw [List.all_cons, plain_not1 c1, Bool.false_and, Bool.and_false]))
    by_cases c2 : (y.toNat : Int) > 126
    · exact ev_neg c1 (ev_pos c2 (ev_now (by rw [List.all_cons, plain_not2 c2, Bool.false_and, Bool.and_false])))
    have := ih (i + 1) g2
    rw [show ((i + 1 : Nat) : Int) = (i : Int) + 1 from by omega] at this
    exact ev_neg c1 (ev_neg c2 (ev_val this (by rw [List.all_cons, plain_lt c1 c2, Bool.true_and])))
theorem isTitle_ev (l : List UInt8) (hl : l.length ≤ 1048576) : Ev (fun k => impl_isTitle.f k (mkB l)) (okT l) := by
  unfold impl_isTitle.f okT
  rw [mkB_size]
  exact isTitle_l l hl l 0 rfl

theorem dd_len (n : Nat) : (Lib.decDigits n).length ≤ n + 1 := by
  induction n using Nat.strongRecOn with
  | _ n ih =>
    rw [Lib.decDigits]
    split
    · simp
    · rename_i h
      have := ih (n / 10) (by omega)
      rw [List.length_append]
      simp only [List.length_cons, List.length_nil]
      omega
theorem dd_pos (n : Nat) : 1 ≤ (Lib.decDigits n).length := by
  rw [Lib.decDigits]
  split <;> simp
def decV (l : List UInt8) : Nat := l.foldl (fun a b => a * 10 + (b.toNat - 48)) 0
theorem decV_dd (n : Nat) : decV (Lib.decDigits n) = n := by
  induction n using Nat.strongRecOn with
  | _ n ih =>
    rw [Lib.decDigits]
    split
    · rename_i h
      simp [decV]
      omega
    · rename_i h
      have := ih (n / 10) (by omega)
      unfold decV at this ⊢
      rw [List.foldl_append, this]
      simp
      omega
theorem dd_inj {a b : Nat} (h : Lib.decDigits a = Lib.decDigits b) : a = b := by
  rw [← decV_dd a, ← decV_dd b, h]
theorem dig_eq (x : Nat) (h : x < 200) : UInt8.ofNat ((((x : Nat) : Int) % 256).toNat) = UInt8.ofNat x := by
  congr 1
  omega
theorem l1Num_ev (n : Nat) (hn : n ≤ 1000000000000) : Ev (fun k => spec_l1Num.f k (n : Int)) (mkB (Lib.decDigits n)) := by
  induction n using Nat.strongRecOn with
  | _ n ih =>
    refine Ev.step (fun k => spec_l1Num.f.eq_2 ..) ?_
    by_cases h : n < 10
    · refine ev_pos (by omega) (ev_now ?_)
      rw [w64 (by omega) (by omega), mkB_nums, Lib.decDigits, dif_pos h]
      have := dig_eq (48 + n) (by omega)
      rw [show (((48 + n : Nat) : Nat) : Int) = 48 + (n : Int) from by omega] at this
      show mkB [UInt8.ofNat (((48 + (n : Int)) % 256).toNat)] = _
      rw [this]
    · refine ev_neg (by omega) ?_
      have e1 : Int.tdiv (n : Int) 10 = ((n / 10 : Nat) : Int) := by rw [Int.tdiv_eq_ediv_of_nonneg (by omega)]; omega
      have e2 : Int.tmod (n : Int) 10 = ((n % 10 : Nat) : Int) := by rw [Int.tmod_eq_emod_of_nonneg (by omega)]; omega
      rw [e1, e2, w64 (x := ((n / 10 : Nat) : Int)) (by omega) (by omega), w64 (x := 48 + ((n % 10 : Nat) : Int)) (by omega) (by omega)]
      have hl := dd_len (n / 10)
      have hs : strOfNums [(48 + ((n % 10 : Nat) : Int)) % 256] = mkB [UInt8.ofNat (48 + n % 10)] := by
        rw [mkB_nums]
        have := dig_eq (48 + n % 10) (by omega)
        rw [show (((48 + n % 10 : Nat) : Nat) : Int) = 48 + ((n % 10 : Nat) : Int) from by omega] at this
        show mkB [UInt8.ofNat (((48 + ((n % 10 : Nat) : Int)) % 256).toNat)] = _
        rw [this]
      refine Ev.bind (ih (n / 10) (by omega) (by omega)) (ev_some rfl ?_)
      rw [hs, mkB_size, mkB_size]
      refine ev_pos (by simp only [List.length_cons, List.length_nil]; omega) (ev_now ?_)
      rw [mkB_append, Lib.decDigits.eq_1 n, dif_neg h]
theorem itoa_eq (n : Nat) (hn : n ≤ 1000000000000) : strconv_Itoa.f (n : Int) = some (mkB (Lib.decDigits n)) := by
  unfold strconv_Itoa.f
  rw [if_pos (by omega), if_pos (by omega)]
  unfold Lib.itoa
  rw [if_neg (by omega), Int.toNat_natCast]
  rfl

def ndd (n : Int) : List UInt8 := Lib.decDigits n.toNat
theorem ndd_len {n : Int} (h1 : n ≤ 1000000) : (ndd n).length ≤ 1000001 := by
  have := dd_len n.toNat
  unfold ndd; omega
theorem l1NumI_ev (n : Int) (h0 : 0 ≤ n) (h1 : n ≤ 1000000) : Ev (fun k => spec_l1Num.f k n) (mkB (ndd n)) := by
  have := l1Num_ev n.toNat (by omega)
  rw [Int.toNat_of_nonneg h0] at this
  exact this
theorem itoaI_eq (n : Int) (h0 : 0 ≤ n) (h1 : n ≤ 1000000) : strconv_Itoa.f n = some (mkB (ndd n)) := by
  have := itoa_eq n.toNat (by omega)
  rw [Int.toNat_of_nonneg h0] at this
  exact this

theorem repeat_eq (o : List UInt8) (d : Nat) (ho : o.length ≤ 1048576) (hd : d ≤ 1048576) : strings_Repeat.f (mkB o) (d : Int) = some (mkB (Lib.repeatL o d)) := by
  unfold strings_Repeat.f
  rw [if_pos (by omega), if_pos (by omega), if_pos (by rw [mkB_size]; exact ho), Int.toNat_natCast, mkB_data]
  rfl
theorem repeatL_len (o : List UInt8) (c : Nat) : (Lib.repeatL o c).length = c * o.length := Lib.repeatL_length o c

def dotsZ (l : List UInt8) (p w : Int) : Int := w - l.length - (ndd p).length - 2
def okL (l : List UInt8) (p w : Int) : Bool := okT l && (decide (1 ≤ p ∧ p ≤ 2000) && decide (1 ≤ w ∧ w ≤ 60))
def lineL (l : List UInt8) (p w : Int) : List UInt8 := l ++ 32 :: (Lib.repeatL [46] (dotsZ l p w).toNat ++ 32 :: ndd p)
def lineM (l : List UInt8) (p w : Int) : ByteArray × Bool := if okL l p w = true then (if dotsZ l p w < 1 then (⟨#[]⟩, false) else (mkB (lineL l p w), true)) else (⟨#[]⟩, false)
theorem okL_true {l : List UInt8} {p w : Int} (h : okL l p w = true) : l.length ≤ 40 ∧ 1 ≤ p ∧ p ≤ 2000 ∧ 1 ≤ w ∧ w ≤ 60 := by
  simp only [okL, okT, Bool.and_eq_true, decide_eq_true_eq] at h
  omega
theorem e32_ : (⟨#[32]⟩ : ByteArray) = mkB [32] := rfl
theorem e46_ : (⟨#[46]⟩ : ByteArray) = mkB [46] := rfl
theorem specLine_l (p : Int) (hp : 0 ≤ p ∧ p ≤ 2000) : ∀ (d : Nat) (acc : List UInt8), acc.length + d ≤ 100000 →
    Ev (fun k => spec_ContentsLine.l0 k p (d : Int) (mkB acc)) (mkB (acc ++ (Lib.repeatL [46] d ++ 32 :: ndd p)), true) := by
  have hnp : (ndd p).length ≤ 2001 := by have := dd_len p.toNat; unfold ndd; omega
  intro d
  induction d with
  | zero =>
    intro acc ha
    refine Ev.step (fun k => spec_ContentsLine.l0.eq_2 ..) ?_
    rw [mkB_size, e32_, mkB_append, mkB_size]
    refine ev_neg (by omega) (ev_pos (by omega) (Ev.bind (l1NumI_ev p hp.1 (by omega)) ?_))
    rw [mkB_size, mkB_append]
    refine ev_pos (by simp only [List.length_append, List.length_cons, List.length_nil]; omega) (ev_now ?_)
    simp only [Lib.repeatL, List.append_assoc, List.cons_append, List.nil_append]
  | succ d ih =>
    intro acc ha
    refine Ev.step (fun k => spec_ContentsLine.l0.eq_2 ..) ?_
    rw [w64 (x := ((d + 1 : Nat) : Int) - 1) (by omega) (by omega), show ((d + 1 : Nat) : Int) - 1 = (d : Int) from by omega, e46_, mkB_append, mkB_size]
    refine ev_pos (by omega) (ev_pos (by omega) (ev_val (ih (acc ++ [46]) (by simp only [List.length_append, List.length_cons, List.length_nil]; omega)) ?_))
    simp only [Lib.repeatL, List.append_assoc, List.cons_append, List.nil_append]
theorem specLine_ev (l : List UInt8) (p w : Int) (hl : l.length ≤ 1048576) : Ev (fun k => spec_ContentsLine.f k (mkB l) p w) (lineM l p w) := by
  have fall : ∀ b : Bool, b = true → okL l p w = false → Ev (fun k => spec_ContentsLine.j0 k (mkB l) p w b) (lineM l p w) := fun b hb hf => by
    refine Ev.step (fun k => spec_ContentsLine.j0.eq_2 ..) (ev_pos hb (ev_now ?_))
    unfold lineM; rw [hf]; rfl
  have ebk : spec_bpBook.f p = some (decide (1 ≤ p ∧ p ≤ 2000)) := by unfold spec_bpBook.f; rw [l1In_eq]; rfl
  unfold spec_ContentsLine.f
  refine Ev.bind (caTitle_ev l hl) ?_
  by_cases h1 : okT l = true
  · refine ev_pos h1 (ev_some ebk ?_)
    by_cases h2 : 1 ≤ p ∧ p ≤ 2000
    · refine ev_pos (decide_eq_true h2) (ev_some (l1In_eq ..) ?_)
      by_cases h3 : 1 ≤ w ∧ w ≤ 60
      · have hok : okL l p w = true := by unfold okL; rw [h1, decide_eq_true h2, decide_eq_true h3]; rfl
        have hh := okL_true hok
        have hnp : (ndd p).length ≤ 2001 := by have := dd_len p.toNat; unfold ndd; omega
        refine Ev.step (fun k => spec_ContentsLine.j0.eq_2 ..) (ev_neg (by rw [decide_eq_true h3]; simp) (Ev.bind (l1NumI_ev p (by omega) (by omega)) ?_))
        rw [mkB_size, mkB_size, w64 (x := w - (l.length : Int)) (by omega) (by omega), w64 (x := w - (l.length : Int) - ((ndd p).length : Int)) (by omega) (by omega), w64 (x := w - (l.length : Int) - ((ndd p).length : Int) - 2) (by omega) (by omega)]
        by_cases c : dotsZ l p w < 1
        · refine ev_pos c (ev_now ?_)
          unfold lineM; rw [if_pos hok, if_pos c]
        · have c' := c
          unfold dotsZ at c'
          refine ev_neg c (ev_pos (by omega) ?_)
          rw [e32_, mkB_append]
          have hd : w - (l.length : Int) - ((ndd p).length : Int) - 2 = (((dotsZ l p w).toNat : Nat) : Int) := by unfold dotsZ; omega
          rw [hd]
          refine ev_val (specLine_l p (by omega) (dotsZ l p w).toNat (l ++ [32]) (by simp only [List.length_append, List.length_cons, List.length_nil]; unfold dotsZ; omega)) ?_
          unfold lineM lineL; rw [if_pos hok, if_neg c]; simp only [List.append_assoc, List.cons_append, List.nil_append]
      · exact fall _ (by rw [decide_eq_false h3]; rfl) (by unfold okL; rw [decide_eq_false h3, Bool.and_false, Bool.and_false])
    · exact ev_neg (by rw [decide_eq_false h2]; simp) (fall _ rfl (by unfold okL; rw [decide_eq_false h2, Bool.false_and, Bool.and_false]))
  · exact ev_neg h1 (fall _ rfl (by unfold okL; rw [Bool.eq_false_iff.2 h1, Bool.false_and]))
theorem implLine_ev (l : List UInt8) (p w : Int) (hl : l.length ≤ 1048576) : Ev (fun k => impl_ContentsLine.f k (mkB l) p w) (lineM l p w) := by
  have fall : ∀ b : Bool, b = true → okL l p w = false → Ev (fun k => impl_ContentsLine.j0 k (mkB l) p w b) (lineM l p w) := fun b hb hf => by
    refine Ev.step (fun k => impl_ContentsLine.j0.eq_2 ..) (ev_pos hb (ev_now ?_))
    unfold lineM; rw [hf]; rfl
  have ebk : impl_isBook.f p = some (decide (1 ≤ p ∧ p ≤ 2000)) := by unfold impl_isBook.f; rw [within_eq]; rfl
  unfold impl_ContentsLine.f
  refine Ev.bind (isTitle_ev l hl) ?_
  by_cases h1 : okT l = true
  · refine ev_pos h1 (ev_some ebk ?_)
    by_cases h2 : 1 ≤ p ∧ p ≤ 2000
    · refine ev_pos (decide_eq_true h2) (ev_some (within_eq ..) ?_)
      by_cases h3 : 1 ≤ w ∧ w ≤ 60
      · have hok : okL l p w = true := by unfold okL; rw [h1, decide_eq_true h2, decide_eq_true h3]; rfl
        have hh := okL_true hok
        have hnp : (ndd p).length ≤ 2001 := by have := dd_len p.toNat; unfold ndd; omega
        refine Ev.step (fun k => impl_ContentsLine.j0.eq_2 ..) (ev_neg (by rw [decide_eq_true h3]; simp) (ev_some (itoaI_eq p (by omega) (by omega)) ?_))
        rw [mkB_size, mkB_size, w64 (x := w - (l.length : Int)) (by omega) (by omega), w64 (x := w - (l.length : Int) - ((ndd p).length : Int)) (by omega) (by omega), w64 (x := w - (l.length : Int) - ((ndd p).length : Int) - 2) (by omega) (by omega)]
        by_cases c : dotsZ l p w < 1
        · refine ev_pos c (ev_now ?_)
          unfold lineM; rw [if_pos hok, if_pos c]
        · have c' := c
          unfold dotsZ at c'
          have hd : w - (l.length : Int) - ((ndd p).length : Int) - 2 = (((dotsZ l p w).toNat : Nat) : Int) := by unfold dotsZ; omega
          have hdd : (dotsZ l p w).toNat ≤ 60 := by unfold dotsZ; omega
          have hrl := repeatL_len [46] (dotsZ l p w).toNat
          simp only [List.length_cons, List.length_nil] at hrl
          refine ev_neg c (ev_pos (by omega) ?_)
          rw [hd, e46_]
          refine ev_some (repeat_eq [46] (dotsZ l p w).toNat (by simp) (by omega)) ?_
          rw [e32_, mkB_append, mkB_append, mkB_append, mkB_append, mkB_size, mkB_size, mkB_size, mkB_size]
          refine ev_pos (by simp only [List.length_append, List.length_cons, List.length_nil]; omega) (ev_pos (by simp only [List.length_append, List.length_cons, List.length_nil]; omega) (ev_pos (by simp only [List.length_append, List.length_cons, List.length_nil]; omega) (ev_now ?_)))
          unfold lineM lineL; rw [if_pos hok, if_neg c]; simp only [List.append_assoc, List.cons_append, List.nil_append]
      · exact fall _ (by rw [decide_eq_false h3]; rfl) (by unfold okL; rw [decide_eq_false h3, Bool.and_false, Bool.and_false])
    · exact ev_neg (by rw [decide_eq_false h2]; simp) (fall _ rfl (by unfold okL; rw [decide_eq_false h2, Bool.false_and, Bool.and_false]))
  · exact ev_neg h1 (fall _ rfl (by unfold okL; rw [Bool.eq_false_iff.2 h1, Bool.false_and]))

theorem FnExactContentsLine (a : ByteArray) (p w : Int) (_ha : a.size ≤ 140737488351232) : ∃ k, laws_FnExactContentsLine.f k a p w = some true := by
  refine Ev.rounds ?_
  unfold laws_FnExactContentsLine.f
  by_cases h : (a.size : Int) > 1048576
  · exact ev_pos h (ev_now rfl)
  · refine ev_neg h ?_
    have hs : a.data.toList.length = a.size := by rw [Array.length_toList]; rfl
    have hl : a.data.toList.length ≤ 1048576 := by omega
    have e := mkB_eq a
    have h1 := specLine_ev a.data.toList p w hl
    have h2 := implLine_ev a.data.toList p w hl
    rw [e] at h1 h2
    exact Ev.bind h1 (Ev.bind h2 (ev_pos rfl (ev_neg (by simp) (ev_now rfl))))

end Go.Proofs.YtngaimhnajeidaaDoor.Pure
