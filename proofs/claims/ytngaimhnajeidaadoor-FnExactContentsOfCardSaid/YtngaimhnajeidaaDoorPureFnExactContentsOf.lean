/- The law FnExactContentsOf holds for all titles, chapters and widths: program and reference tell the same lines. No condition but what the card lists. -/
import Derived.Test.YtngaimhnajeidaaDoorPFnExactContentsOfx7
namespace Go.Proofs.YtngaimhnajeidaaDoor.Pure
open Go.RowKit Go.Proofs.YtngaimhnajeidaaDoor.PFnExactContentsOf Go.Proofs.YtngaimhnajeidaaDoorW.PrintWords Go.Proofs.YtngaimhnajeidaaDoorW.PrintLast

theorem w64 {x : Int} (h1 : -9223372036854775808 ≤ x) (h2 : x ≤ 9223372036854775807) : wrap64 x = x := by
  unfold wrap64; omega
theorem ev_pos {α : Type} {c : Prop} [Decidable c] {f g : Nat → Option α} {r : α} (hc : c) (h : Ev f r) : Ev (fun k => if c then f k else g k) r := by
  simpa only [if_pos hc] using h
theorem ev_neg {α : Type} {c : Prop} [Decidable c] {f g : Nat → Option α} {r : α} (hc : ¬ c) (h : Ev g r) : Ev (fun k => if c then f k else g k) r := by
  simpa only [if_neg hc] using h
theorem ev_now {α : Type} {r s : α} (h : r = s) : Ev (fun _ => some r) s := h ▸ Ev.now r
theorem ev_some {α β : Type} {x : Option α} {f : Nat → α → Option β} {a : α} {r : β} (h : x = some a) (k : Ev (fun n => f n a) r) : Ev (fun n => x.bind (f n)) r := by
  subst h; exact k
theorem ev_val {α : Type} {g : Nat → Option α} {a b : α} (h : Ev g a) (e : a = b) : Ev g b := e ▸ h
theorem ev_suc {α : Type} {g : Nat → Option α} {r : α} (h : Ev (fun k => g (k + 1)) r) : Ev g r := Ev.step (fun _ => rfl) h
theorem drop_nil {α : Type} {xs : List α} {i : Int} (h0 : 0 ≤ i) (h : xs.drop i.toNat = []) : (xs.length : Int) ≤ i := by
  have := List.drop_eq_nil_iff.1 h
  omega
theorem drop_get {α : Type} {xs : List α} {i : Int} {y : α} {ys : List α} (h0 : 0 ≤ i) (h : xs.drop i.toNat = y :: ys) : i < (xs.length : Int) ∧ (∀ d, xs.getD i.toNat d = y) ∧ xs.drop (i + 1).toNat = ys ∧ xs.take (i + 1).toNat = xs.take i.toNat ++ [y] := by
  have hl : i.toNat < xs.length := by
    rcases Nat.lt_or_ge i.toNat xs.length with hl | hl
    · exact hl
    · rw [List.drop_eq_nil_iff.2 hl] at h; cases h
  have e := List.drop_eq_getElem_cons hl
  rw [h] at e
  injection e with e1 e2
  have h1 : (i + 1).toNat = i.toNat + 1 := by omega
  refine ⟨by omega, fun d => ?_, ?_, ?_⟩
  · rw [List.getD_eq_getElem?_getD, List.getElem?_eq_getElem hl, e1]; rfl
  · rw [h1]; exact e2.symm
  · rw [h1, List.take_add_one, List.getElem?_eq_getElem hl, e1]; rfl
theorem drop_cons {xs : List Int} {i : Int} {y : Int} {ys : List Int} (h0 : 0 ≤ i) (h : xs.drop i.toNat = y :: ys) : i < (xs.length : Int) ∧ rd xs i = y ∧ xs.drop (i + 1).toNat = ys ∧ xs.take (i + 1).toNat = xs.take i.toNat ++ [y] := by
  obtain ⟨h1, h2, h3⟩ := drop_get h0 h
  exact ⟨h1, h2 0, h3⟩

theorem within_eq (a lo hi : Int) : impl_within.f a lo hi = some (decide (lo ≤ a ∧ a ≤ hi)) := by
  unfold impl_within.f
  by_cases h : a ≥ lo
  · rw [if_pos h]; congr 1; simp [show lo ≤ a from h]
  · rw [if_neg h]; congr 1; simp; omega

theorem allWithin_l (lo hi : Int) (xs : List Int) (hn : xs.length < 4611686018427387904) : ∀ (ys : List Int) (i : Int), 0 ≤ i → xs.drop i.toNat = ys →
    Ev (fun k => impl_allWithin.l0 k lo hi xs (xs.length : Int) i) (decide (∀ n ∈ ys, lo ≤ n ∧ n ≤ hi)) := by
  intro ys
  induction ys with
  | nil =>
    intro i h0 h
    have := drop_nil h0 h
    refine Ev.step (fun k => impl_allWithin.l0.eq_2 ..) ?_
    exact ev_neg (by omega) (ev_now (by simp))
  | cons y ys ih =>
    intro i h0 h
    obtain ⟨h1, h2, h3, _⟩ := drop_cons h0 h
    refine Ev.step (fun k => impl_allWithin.l0.eq_2 ..) ?_
    refine ev_pos h1 (ev_pos h0 (ev_pos h1 ?_))
    rw [h2, w64 (by omega) (by omega)]
    refine ev_some (within_eq ..) ?_
    by_cases hy : lo ≤ y ∧ y ≤ hi
    · exact ev_pos (by simpa using hy) (ev_val (ih _ (by omega) h3) (by simp [hy]))
    · exact ev_neg (by simpa using hy) (ev_now (by simp [hy]))
theorem allWithin_ev (xs : List Int) (lo hi : Int) (hn : xs.length < 4611686018427387904) :
    Ev (fun k => impl_allWithin.f k xs lo hi) (decide (∀ n ∈ xs, lo ≤ n ∧ n ≤ hi)) := allWithin_l lo hi xs hn xs 0 (by omega) rfl

theorem l1In_eq (a lo hi : Int) : spec_l1In.f a lo hi = some (decide (lo ≤ a ∧ a ≤ hi)) := by
  unfold spec_l1In.f
  by_cases h : a ≥ lo
  · rw [if_pos h]; congr 1; simp [show lo ≤ a from h]
  · rw [if_neg h]; congr 1; simp; omega

theorem l1All_l (lo hi : Int) (xs : List Int) (hn : xs.length < 4611686018427387904) : ∀ (ys : List Int) (i : Int), 0 ≤ i → xs.drop i.toNat = ys →
    Ev (fun k => spec_l1All.l0 k lo hi xs (xs.length : Int) i) (decide (∀ n ∈ ys, lo ≤ n ∧ n ≤ hi)) := by
  intro ys
  induction ys with
  | nil =>
    intro i h0 h
    have := drop_nil h0 h
    refine Ev.step (fun k => spec_l1All.l0.eq_2 ..) ?_
    exact ev_neg (by omega) (ev_now (by simp))
  | cons y ys ih =>
    intro i h0 h
    obtain ⟨h1, h2, h3, _⟩ := drop_cons h0 h
    refine Ev.step (fun k => spec_l1All.l0.eq_2 ..) ?_
    refine ev_pos h1 (ev_pos h0 (ev_pos h1 ?_))
    rw [h2, w64 (by omega) (by omega)]
    refine ev_some (l1In_eq ..) ?_
    by_cases hy : lo ≤ y ∧ y ≤ hi
    · exact ev_pos (by simpa using hy) (ev_val (ih _ (by omega) h3) (by simp [hy]))
    · exact ev_neg (by simpa using hy) (ev_now (by simp [hy]))
theorem l1All_ev (xs : List Int) (lo hi : Int) (hn : xs.length < 4611686018427387904) :
    Ev (fun k => spec_l1All.f k xs lo hi) (decide (∀ n ∈ xs, lo ≤ n ∧ n ≤ hi)) := l1All_l lo hi xs hn xs 0 (by omega) rfl

def goodC (xs : List Int) : Bool := decide (1 ≤ xs.length ∧ xs.length ≤ 12) && decide (∀ n ∈ xs, 1 ≤ n ∧ n ≤ 120)
theorem goodC_true {xs : List Int} (h : goodC xs = true) : 1 ≤ xs.length ∧ xs.length ≤ 12 ∧ ∀ n ∈ xs, 1 ≤ n ∧ n ≤ 120 := by
  simp only [goodC, Bool.and_eq_true, decide_eq_true_eq] at h
  exact ⟨h.1.1, h.1.2, h.2⟩
theorem caGood_ev (xs : List Int) (hn : xs.length ≤ 1048576) : Ev (fun k => spec_caGood.f k xs) (goodC xs) := by
  unfold spec_caGood.f goodC
  refine ev_some (l1In_eq ..) ?_
  by_cases h : 1 ≤ (xs.length : Int) ∧ (xs.length : Int) ≤ 12
  · have e : (1 ≤ xs.length ∧ xs.length ≤ 12) := by omega
    refine ev_pos (decide_eq_true h) (Ev.bind (l1All_ev xs 1 120 (by omega)) (ev_now ?_))
    rw [decide_eq_true e, Bool.true_and]
  · have e : ¬ (1 ≤ xs.length ∧ xs.length ≤ 12) := by omega
    refine ev_neg (by rw [decide_eq_false h]; simp) (ev_now ?_)
    rw [decide_eq_false e, Bool.false_and]
theorem areCh_ev (xs : List Int) (hn : xs.length ≤ 1048576) : Ev (fun k => impl_AreChapters.f k xs) (goodC xs) := by
  unfold impl_AreChapters.f goodC
  refine ev_some (within_eq ..) ?_
  by_cases h : 1 ≤ (xs.length : Int) ∧ (xs.length : Int) ≤ 12
  · have e : (1 ≤ xs.length ∧ xs.length ≤ 12) := by omega
    refine ev_pos (decide_eq_true h) (Ev.bind (allWithin_ev xs 1 120 (by omega)) (ev_now ?_))
    rw [decide_eq_true e, Bool.true_and]
  · have e : ¬ (1 ≤ xs.length ∧ xs.length ≤ 12) := by omega
    refine ev_neg (by rw [decide_eq_false h]; simp) (ev_now ?_)
    rw [decide_eq_false e, Bool.false_and]

def begP (right : Bool) (p : Int) : Int := if right = true ∧ p % 2 = 0 then p + 1 else p
def begL (right : Bool) : List Int → Int → List Int
  | [], _ => []
  | n :: ns, p => begP right p :: begL right ns (begP right p + n)
def begEnd (right : Bool) : List Int → Int → Int
  | [], p => p
  | n :: ns, p => begEnd right ns (begP right p + n)
theorem begL_length (right : Bool) : ∀ (ns : List Int) (p : Int), (begL right ns p).length = ns.length
  | [], _ => rfl
  | n :: ns, p => by rw [begL, List.length_cons, begL_length right ns, List.length_cons]
theorem begP_bd (right : Bool) (p : Int) : p ≤ begP right p ∧ begP right p ≤ p + 1 := by unfold begP; split <;> omega
theorem tmod2 (p : Int) (h : 0 ≤ p) : Int.tmod p 2 = p % 2 := Int.tmod_eq_emod_of_nonneg h
theorem caBegin_l (right : Bool) (xs : List Int) (hn : xs.length ≤ 1000) (hb : ∀ n ∈ xs, 1 ≤ n ∧ n ≤ 120) : ∀ (ys : List Int) (i p : Int) (out : List Int), 0 ≤ i → xs.drop i.toNat = ys → 1 ≤ p → p + 121 * ys.length ≤ 1000000 → out.length + ys.length ≤ 1000 →
    Ev (fun k => spec_caBegin.l0 k right out p xs (xs.length : Int) i) (out ++ begL right ys p ++ [begEnd right ys p]) := by
  intro ys
  induction ys with
  | nil =>
    intro i p out h0 h _ _ ho
    have := drop_nil h0 h
    refine Ev.step (fun k => spec_caBegin.l0.eq_2 ..) ?_
    exact ev_neg (by omega) (ev_pos (by omega) (ev_now (by simp [begL, begEnd])))
  | cons y ys ih =>
    intro i p out h0 h hp hpb ho
    obtain ⟨h1, h2, h3, _⟩ := drop_cons h0 h
    have hy := hb y (List.mem_of_mem_drop (by rw [h]; exact List.mem_cons_self))
    have hq := begP_bd right p
    simp only [List.length_cons] at hpb ho
    have hr := ih (i + 1) (begP right p + y) (out ++ [begP right p]) (by omega) h3 (by omega) (by omega) (by simp only [List.length_append, List.length_cons, List.length_nil]; omega)
    have fin : out ++ [begP right p] ++ begL right ys (begP right p + y) ++ [begEnd right ys (begP right p + y)] = out ++ begL right (y :: ys) p ++ [begEnd right (y :: ys) p] := by simp [begL, begEnd]
    rw [fin] at hr
    refine Ev.step (fun k => spec_caBegin.l0.eq_2 ..) ?_
    rw [h2, tmod2 p (by omega), w64 (x := i + 1) (by omega) (by omega), w64 (x := p + 1) (by omega) (by omega), w64 (x := p + 1 + y) (by omega) (by omega), w64 (x := p + y) (by omega) (by omega)]
    refine ev_pos h1 (ev_pos h0 (ev_pos h1 ?_))
    by_cases c1 : right = true
    · by_cases c2 : p % 2 = 0
      · have e : begP right p = p + 1 := by unfold begP; rw [if_pos ⟨c1, c2⟩]
        rw [e] at hr
        exact ev_pos c1 (ev_pos c2 (ev_pos (by omega) hr))
      · have e : begP right p = p := by unfold begP; rw [if_neg (fun z => c2 z.2)]
        rw [e] at hr
        exact ev_pos c1 (ev_neg c2 (ev_pos (by omega) hr))
    · have e : begP right p = p := by unfold begP; rw [if_neg (fun z => c1 z.1)]
      rw [e] at hr
      exact ev_neg c1 (ev_pos (by omega) hr)
theorem laid_l (right : Bool) (xs : List Int) (hn : xs.length ≤ 1000) (hb : ∀ n ∈ xs, 1 ≤ n ∧ n ≤ 120) : ∀ (ys : List Int) (i p : Int) (out bl : List Int), 0 ≤ i → xs.drop i.toNat = ys → 1 ≤ p → p + 121 * ys.length ≤ 1000000 → out.length + ys.length ≤ 1000 → bl.length + ys.length ≤ 1000 →
    ∃ b c, Ev (fun k => impl_laid.l0 k right out bl p xs (xs.length : Int) i) (out ++ begL right ys p, b, c) := by
  intro ys
  induction ys with
  | nil =>
    intro i p out bl h0 h _ _ ho _
    have := drop_nil h0 h
    refine ⟨bl, wrap64 (p - 1), Ev.step (fun k => impl_laid.l0.eq_2 ..) ?_⟩
    exact ev_neg (by omega) (ev_now (by simp [begL]))
  | cons y ys ih =>
    intro i p out bl h0 h hp hpb ho hbl
    obtain ⟨h1, h2, h3, _⟩ := drop_cons h0 h
    have hy := hb y (List.mem_of_mem_drop (by rw [h]; exact List.mem_cons_self))
    have hq := begP_bd right p
    simp only [List.length_cons] at hpb ho hbl
    have fin : out ++ [begP right p] ++ begL right ys (begP right p + y) = out ++ begL right (y :: ys) p := by simp [begL]
    by_cases c1 : right = true
    · by_cases c2 : p % 2 = 0
      · have e : begP right p = p + 1 := by unfold begP; rw [if_pos ⟨c1, c2⟩]
        obtain ⟨b, c, hr⟩ := ih (i + 1) (begP right p + y) (out ++ [begP right p]) (bl ++ [p]) (by omega) h3 (by omega) (by omega) (by simp only [List.length_append, List.length_cons, List.length_nil]; omega) (by simp only [List.length_append, List.length_cons, List.length_nil]; omega)
        rw [fin, e] at hr
        refine ⟨b, c, Ev.step (fun k => impl_laid.l0.eq_2 ..) ?_⟩
        rw [h2, tmod2 p (by omega), w64 (x := i + 1) (by omega) (by omega), w64 (x := p + 1) (by omega) (by omega), w64 (x := p + 1 + y) (by omega) (by omega), w64 (x := p + y) (by omega) (by omega)]
        exact ev_pos h1 (ev_pos h0 (ev_pos h1 (ev_pos c1 (ev_pos c2 (ev_pos (by omega) (ev_pos (by omega) hr))))))
      · have e : begP right p = p := by unfold begP; rw [if_neg (fun z => c2 z.2)]
        obtain ⟨b, c, hr⟩ := ih (i + 1) (begP right p + y) (out ++ [begP right p]) bl (by omega) h3 (by omega) (by omega) (by simp only [List.length_append, List.length_cons, List.length_nil]; omega) (by omega)
        rw [fin, e] at hr
        refine ⟨b, c, Ev.step (fun k => impl_laid.l0.eq_2 ..) ?_⟩
        rw [h2, tmod2 p (by omega), w64 (x := i + 1) (by omega) (by omega), w64 (x := p + 1) (by omega) (by omega), w64 (x := p + 1 + y) (by omega) (by omega), w64 (x := p + y) (by omega) (by omega)]
        exact ev_pos h1 (ev_pos h0 (ev_pos h1 (ev_pos c1 (ev_neg c2 (ev_pos (by omega) hr)))))
    · have e : begP right p = p := by unfold begP; rw [if_neg (fun z => c1 z.1)]
      obtain ⟨b, c, hr⟩ := ih (i + 1) (begP right p + y) (out ++ [begP right p]) bl (by omega) h3 (by omega) (by omega) (by simp only [List.length_append, List.length_cons, List.length_nil]; omega) (by omega)
      rw [fin, e] at hr
      refine ⟨b, c, Ev.step (fun k => impl_laid.l0.eq_2 ..) ?_⟩
      rw [h2, tmod2 p (by omega), w64 (x := i + 1) (by omega) (by omega), w64 (x := p + 1) (by omega) (by omega), w64 (x := p + 1 + y) (by omega) (by omega), w64 (x := p + y) (by omega) (by omega)]
      exact ev_pos h1 (ev_pos h0 (ev_pos h1 (ev_neg c1 (ev_pos (by omega) hr))))
theorem begs_ev (xs : List Int) (right : Bool) (hn : xs.length ≤ 1048576) : Ev (fun k => impl_BeginningsOf.f k xs right) (if goodC xs = true then (begL right xs 1, true) else ([], false)) := by
  unfold impl_BeginningsOf.f
  refine Ev.bind (areCh_ev xs hn) ?_
  by_cases h : goodC xs = true
  · obtain ⟨g1, g2, g3⟩ := goodC_true h
    obtain ⟨b, c, hr⟩ := laid_l right xs (by omega) g3 xs 0 1 [] [] (by omega) rfl (by omega) (by omega) (by simp only [List.length_nil]; omega) (by simp only [List.length_nil]; omega)
    refine ev_pos h (Ev.bind (show Ev (fun k => impl_laid.f k xs right) _ from hr) (ev_now ?_))
    rw [if_pos h]; rfl
  · exact ev_neg h (ev_now (by rw [if_neg h]))
theorem caBegin_ev (xs : List Int) (right : Bool) (h : goodC xs = true) : Ev (fun k => spec_caBegin.f k xs right) (begL right xs 1 ++ [begEnd right xs 1]) := by
  obtain ⟨g1, g2, g3⟩ := goodC_true h
  exact caBegin_l right xs (by omega) g3 xs 0 1 [] (by omega) rfl (by omega) (by omega) (by simp only [List.length_nil]; omega)

/-! ### Texts as lists of bytes -/
def mkB (l : List UInt8) : ByteArray := ⟨l.toArray⟩
theorem mkB_data (l : List UInt8) : (mkB l).data.toList = l := by simp [mkB]
theorem mkB_size (l : List UInt8) : (mkB l).size = l.length := by simp [mkB, ByteArray.size]
theorem mkB_eq (s : ByteArray) : mkB s.data.toList = s := by cases s; simp [mkB]
theorem mkB_append (a b : List UInt8) : mkB a ++ mkB b = mkB (a ++ b) := by
  apply ByteArray.ext
  simp [mkB, ByteArray.data_append]
theorem mkB_drop (l : List UInt8) (i : Nat) : (mkB l).extract i (mkB l).size = mkB (l.drop i) := by
  apply ByteArray.ext
  apply Array.toList_inj.1
  rw [mkB_size]
  simp only [mkB, ByteArray.data_extract, List.extract_toArray, List.extract_eq_take_drop]
  rw [List.take_of_length_le (by rw [List.length_drop]; exact Nat.le_refl _)]
theorem mkB_slice (l : List UInt8) (i j : Nat) : (mkB l).extract i j = mkB ((l.take j).drop i) := by
  apply ByteArray.ext
  apply Array.toList_inj.1
  simp [mkB, ByteArray.data_extract, List.drop_take]
theorem mkB_nums (xs : List Int) : strOfNums xs = mkB (xs.map fun n => UInt8.ofNat n.toNat) := rfl
theorem mkB_inj {a b : List UInt8} (h : mkB a = mkB b) : a = b := by
  have := congrArg (fun s => s.data.toList) h
  simpa [mkB] using this
theorem bt_mkB {l : List UInt8} {i : Nat} {x : UInt8} {xs : List UInt8} (h : l.drop i = x :: xs) : bt (mkB l) (i : Int) = (x.toNat : Int) := by
  have hl : i < l.length := by
    rcases Nat.lt_or_ge i l.length with g | g
    · exact g
    · rw [List.drop_eq_nil_iff.2 g] at h; cases h
  have e : l[i] = x := by
    have := List.drop_eq_getElem_cons hl
    rw [h] at this
    injection this with h1 _
    exact h1.symm
  have hs : (i : Int).toNat < (mkB l).size := by rw [Int.toNat_natCast, mkB_size]; exact hl
  rw [← bt_at _ _ hs, ← e]
  rfl
theorem drop_step {α : Type} {l : List α} {i : Nat} {x : α} {xs : List α} (h : l.drop i = x :: xs) : i < l.length ∧ l.drop (i + 1) = xs := by
  have hl : i < l.length := by
    rcases Nat.lt_or_ge i l.length with g | g
    · exact g
    · rw [List.drop_eq_nil_iff.2 g] at h; cases h
  have := List.drop_eq_getElem_cons hl
  rw [h] at this
  injection this with _ h2
  exact ⟨hl, h2.symm⟩

def plainB (b : UInt8) : Bool := decide (32 ≤ b.toNat ∧ b.toNat ≤ 126)
def okT (l : List UInt8) : Bool := decide (1 ≤ l.length ∧ l.length ≤ 40) && l.all plainB
theorem plain_lt {x : UInt8} (h : ¬ ((x.toNat : Int) < 32)) (h2 : ¬ ((x.toNat : Int) > 126)) : plainB x = true := by
  unfold plainB; rw [decide_eq_true_eq]; omega
theorem plain_not1 {x : UInt8} (h : (x.toNat : Int) < 32) : plainB x = false := by
  unfold plainB; rw [decide_eq_false_iff_not]; omega
theorem plain_not2 {x : UInt8} (h : (x.toNat : Int) > 126) : plainB x = false := by
  unfold plainB; rw [decide_eq_false_iff_not]; omega
theorem caTitle_l (l : List UInt8) (hl : l.length ≤ 1048576) : ∀ (ys : List UInt8) (i : Nat), l.drop i = ys →
    Ev (fun k => spec_caTitle.l0 k (mkB l) (i : Int)) (ys.all plainB) := by
  intro ys
  induction ys with
  | nil =>
    intro i h
    have := List.drop_eq_nil_iff.1 h
    refine Ev.step (fun k => spec_caTitle.l0.eq_2 ..) ?_
    exact ev_neg (by rw [mkB_size]; omega) (ev_now rfl)
  | cons y ys ih =>
    intro i h
    obtain ⟨g1, g2⟩ := drop_step h
    refine Ev.step (fun k => spec_caTitle.l0.eq_2 ..) ?_
    rw [bt_mkB h, mkB_size, w64 (x := (i : Int) + 1) (by omega) (by omega)]
    refine ev_pos (by omega) (ev_pos (by omega) ?_)
    by_cases c1 : (y.toNat : Int) < 32
    · exact ev_pos c1 (ev_now (by rw [List.all_cons, plain_not1 c1, Bool.false_and]))
    by_cases c2 : (y.toNat : Int) > 126
    · exact ev_neg c1 (ev_pos c2 (ev_now (by rw [List.all_cons, plain_not2 c2, Bool.false_and])))
    have := ih (i + 1) g2
    rw [show ((i + 1 : Nat) : Int) = (i : Int) + 1 from by omega] at this
    exact ev_neg c1 (ev_neg c2 (ev_val this (by rw [List.all_cons, plain_lt c1 c2, Bool.true_and])))
theorem caTitle_ev (l : List UInt8) (hl : l.length ≤ 1048576) : Ev (fun k => spec_caTitle.f k (mkB l)) (okT l) := by
  unfold spec_caTitle.f okT
  rw [mkB_size]
  refine ev_some (l1In_eq ..) ?_
  by_cases h : 1 ≤ (l.length : Int) ∧ (l.length : Int) ≤ 40
  · have e : (1 ≤ l.length ∧ l.length ≤ 40) := by omega
    refine ev_pos (decide_eq_true h) (ev_val (caTitle_l l hl l 0 rfl) ?_)
    rw [decide_eq_true e, Bool.true_and]
  · have e : ¬ (1 ≤ l.length ∧ l.length ≤ 40) := by omega
    refine ev_neg (by rw [decide_eq_false h]; simp) (ev_now ?_)
    rw [decide_eq_false e, Bool.false_and]
theorem isTitle_l (l : List UInt8) (hl : l.length ≤ 1048576) : ∀ (ys : List UInt8) (i : Nat), l.drop i = ys →
    Ev (fun k => impl_isTitle.l0 k (mkB l) (l.length : Int) (i : Int)) (decide (1 ≤ l.length ∧ l.length ≤ 40) && ys.all plainB) := by
  intro ys
  induction ys with
  | nil =>
    intro i h
    have := List.drop_eq_nil_iff.1 h
    refine Ev.step (fun k => impl_isTitle.l0.eq_2 ..) ?_
    refine ev_neg (by omega) ?_
    rw [mkB_size]
    refine ev_some (within_eq ..) (ev_now ?_)
    rw [List.all_nil, Bool.and_true]
    exact decide_eq_decide.2 (by omega)
  | cons y ys ih =>
    intro i h
    obtain ⟨g1, g2⟩ := drop_step h
    refine Ev.step (fun k => impl_isTitle.l0.eq_2 ..) ?_
    rw [bt_mkB h, mkB_size, w64 (x := (i : Int) + 1) (by omega) (by omega)]
    refine ev_pos (by omega) (ev_pos (by omega) (ev_pos (by omega) ?_))
    by_cases c1 : (y.toNat : Int) < 32
    · exact ev_pos c1 (ev_now (by rw [List.all_cons, plain_not1 c1, Bool.false_and, Bool.and_false]))
    by_cases c2 : (y.toNat : Int) > 126
    · exact ev_neg c1 (ev_pos c2 (ev_now (by rw [List.all_cons, plain_not2 c2, Bool.false_and, Bool.and_false])))
    have := ih (i + 1) g2
    rw [show ((i + 1 : Nat) : Int) = (i : Int) + 1 from by omega] at this
    exact ev_neg c1 (ev_neg c2 (ev_val this (by rw [List.all_cons, plain_lt c1 c2, Bool.true_and])))
theorem isTitle_ev (l : List UInt8) (hl : l.length ≤ 1048576) : Ev (fun k => impl_isTitle.f k (mkB l)) (okT l) := by
  unfold impl_isTitle.f okT
  rw [mkB_size]
  exact isTitle_l l hl l 0 rfl

theorem dd_len (n : Nat) : (Lib.decDigits n).length ≤ n + 1 := by
  induction n using Nat.strongRecOn with
  | _ n ih =>
    rw [Lib.decDigits]
    split
    · simp
    · rename_i h
      have := ih (n / 10) (by omega)
      rw [List.length_append]
      simp only [List.length_cons, List.length_nil]
      omega
theorem dd_pos (n : Nat) : 1 ≤ (Lib.decDigits n).length := by
  rw [Lib.decDigits]
  split <;> simp
def decV (l : List UInt8) : Nat := l.foldl (fun a b => a * 10 + (b.toNat - 48)) 0
theorem decV_dd (n : Nat) : decV (Lib.decDigits n) = n := by
  induction n using Nat.strongRecOn with
  | _ n ih =>
    rw [Lib.decDigits]
    split
    · rename_i h
      simp [decV]
      omega
    · rename_i h
      have := ih (n / 10) (by omega)
      unfold decV at this ⊢
      rw [List.foldl_append, this]
      simp
      omega
theorem dd_inj {a b : Nat} (h : Lib.decDigits a = Lib.decDigits b) : a = b := by
  rw [← decV_dd a, ← decV_dd b, h]
theorem dig_eq (x : Nat) (h : x < 200) : UInt8.ofNat ((((x : Nat) : Int) % 256).toNat) = UInt8.ofNat x := by
  congr 1
  omega
theorem l1Num_ev (n : Nat) (hn : n ≤ 1000000000000) : Ev (fun k => spec_l1Num.f k (n : Int)) (mkB (Lib.decDigits n)) := by
  induction n using Nat.strongRecOn with
  | _ n ih =>
    refine Ev.step (fun k => spec_l1Num.f.eq_2 ..) ?_
    by_cases h : n < 10
    · refine ev_pos (by omega) (ev_now ?_)
      rw [w64 (by omega) (by omega), mkB_nums, Lib.decDigits, dif_pos h]
      have := dig_eq (48 + n) (by omega)
      rw [show (((48 + n : Nat) : Nat) : Int) = 48 + (n : Int) from by omega] at this
      show mkB [UInt8.ofNat (((48 + (n : Int)) % 256).toNat)] = _
      rw [this]
    · refine ev_neg (by omega) ?_
      have e1 : Int.tdiv (n : Int) 10 = ((n / 10 : Nat) : Int) := by rw [Int.tdiv_eq_ediv_of_nonneg (by omega)]; omega
      have e2 : Int.tmod (n : Int) 10 = ((n % 10 : Nat) : Int) := by rw [Int.tmod_eq_emod_of_nonneg (by omega)]; omega
      rw [e1, e2, w64 (x := ((n / 10 : Nat) : Int)) (by omega) (by omega), w64 (x := 48 + ((n % 10 : Nat) : Int)) (by omega) (by omega)]
      have hl := dd_len (n / 10)
      have hs : strOfNums [(48 + ((n % 10 : Nat) : Int)) % 256] = mkB [UInt8.ofNat (48 + n % 10)] := by
        rw [mkB_nums]
        have := dig_eq (48 + n % 10) (by omega)
        rw [show (((48 + n % 10 : Nat) : Nat) : Int) = 48 + ((n % 10 : Nat) : Int) from by omega] at this
        show mkB [UInt8.ofNat (((48 + ((n % 10 : Nat) : Int)) % 256).toNat)] = _
        rw [this]
      refine Ev.bind (ih (n / 10) (by omega) (by omega)) (ev_some rfl ?_)
      rw [hs, mkB_size, mkB_size]
      refine ev_pos (by simp only [List.length_cons, List.length_nil]; omega) (ev_now ?_)
      rw [mkB_append, Lib.decDigits.eq_1 n, dif_neg h]
theorem itoa_eq (n : Nat) (hn : n ≤ 1000000000000) : strconv_Itoa.f (n : Int) = some (mkB (Lib.decDigits n)) := by
  unfold strconv_Itoa.f
  rw [if_pos (by omega), if_pos (by omega)]
  unfold Lib.itoa
  rw [if_neg (by omega), Int.toNat_natCast]
  rfl

def ndd (n : Int) : List UInt8 := Lib.decDigits n.toNat
theorem ndd_len {n : Int} (h1 : n ≤ 1000000) : (ndd n).length ≤ 1000001 := by
  have := dd_len n.toNat
  unfold ndd; omega
theorem l1NumI_ev (n : Int) (h0 : 0 ≤ n) (h1 : n ≤ 1000000) : Ev (fun k => spec_l1Num.f k n) (mkB (ndd n)) := by
  have := l1Num_ev n.toNat (by omega)
  rw [Int.toNat_of_nonneg h0] at this
  exact this
theorem itoaI_eq (n : Int) (h0 : 0 ≤ n) (h1 : n ≤ 1000000) : strconv_Itoa.f n = some (mkB (ndd n)) := by
  have := itoa_eq n.toNat (by omega)
  rw [Int.toNat_of_nonneg h0] at this
  exact this

theorem repeat_eq (o : List UInt8) (d : Nat) (ho : o.length ≤ 1048576) (hd : d ≤ 1048576) : strings_Repeat.f (mkB o) (d : Int) = some (mkB (Lib.repeatL o d)) := by
  unfold strings_Repeat.f
  rw [if_pos (by omega), if_pos (by omega), if_pos (by rw [mkB_size]; exact ho), Int.toNat_natCast, mkB_data]
  rfl
theorem repeatL_len (o : List UInt8) (c : Nat) : (Lib.repeatL o c).length = c * o.length := Lib.repeatL_length o c

def dotsZ (l : List UInt8) (p w : Int) : Int := w - l.length - (ndd p).length - 2
def okL (l : List UInt8) (p w : Int) : Bool := okT l && (decide (1 ≤ p ∧ p ≤ 2000) && decide (1 ≤ w ∧ w ≤ 60))
def lineL (l : List UInt8) (p w : Int) : List UInt8 := l ++ 32 :: (Lib.repeatL [46] (dotsZ l p w).toNat ++ 32 :: ndd p)
def lineM (l : List UInt8) (p w : Int) : ByteArray × Bool := if okL l p w = true then (if dotsZ l p w < 1 then (⟨#[]⟩, false) else (mkB (lineL l p w), true)) else (⟨#[]⟩, false)
theorem okL_true {l : List UInt8} {p w : Int} (h : okL l p w = true) : l.length ≤ 40 ∧ 1 ≤ p ∧ p ≤ 2000 ∧ 1 ≤ w ∧ w ≤ 60 := by
  simp only [okL, okT, Bool.and_eq_true, decide_eq_true_eq] at h
  omega
theorem e32_ : (⟨#[32]⟩ : ByteArray) = mkB [32] := rfl
theorem e46_ : (⟨#[46]⟩ : ByteArray) = mkB [46] := rfl
theorem specLine_l (p : Int) (hp : 0 ≤ p ∧ p ≤ 2000) : ∀ (d : Nat) (acc : List UInt8), acc.length + d ≤ 100000 →
    Ev (fun k => spec_ContentsLine.l0 k p (d : Int) (mkB acc)) (mkB (acc ++ (Lib.repeatL [46] d ++ 32 :: ndd p)), true) := by
  have hnp : (ndd p).length ≤ 2001 := by have := dd_len p.toNat; unfold ndd; omega
  intro d
  induction d with
  | zero =>
    intro acc ha
    refine Ev.step (fun k => spec_ContentsLine.l0.eq_2 ..) ?_
    rw [mkB_size, e32_, mkB_append, mkB_size]
    refine ev_neg (by omega) (ev_pos (by omega) (Ev.bind (l1NumI_ev p hp.1 (by omega)) ?_))
    rw [mkB_size, mkB_append]
    refine ev_pos (by simp only [List.length_append, List.length_cons, List.length_nil]; omega) (ev_now ?_)
    simp only [Lib.repeatL, List.append_assoc, List.cons_append, List.nil_append]
  | succ d ih =>
    intro acc ha
    refine Ev.step (fun k => spec_ContentsLine.l0.eq_2 ..) ?_
    rw [w64 (x := ((d + 1 : Nat) : Int) - 1) (by omega) (by omega), show ((d + 1 : Nat) : Int) - 1 = (d : Int) from by omega, e46_, mkB_append, mkB_size]
    refine ev_pos (by omega) (ev_pos (by omega) (ev_val (ih (acc ++ [46]) (by simp only [List.length_append, List.length_cons, List.length_nil]; omega)) ?_))
    simp only [Lib.repeatL, List.append_assoc, List.cons_append, List.nil_append]
theorem specLine_ev (l : List UInt8) (p w : Int) (hl : l.length ≤ 1048576) : Ev (fun k => spec_ContentsLine.f k (mkB l) p w) (lineM l p w) := by
  have fall : ∀ b : Bool, b = true → okL l p w = false → Ev (fun k => spec_ContentsLine.j0 k (mkB l) p w b) (lineM l p w) := fun b hb hf => by
    refine Ev.step (fun k => spec_ContentsLine.j0.eq_2 ..) (ev_pos hb (ev_now ?_))
    unfold lineM; rw [hf]; rfl
  have ebk : spec_bpBook.f p = some (decide (1 ≤ p ∧ p ≤ 2000)) := by unfold spec_bpBook.f; rw [l1In_eq]; rfl
  unfold spec_ContentsLine.f
  refine Ev.bind (caTitle_ev l hl) ?_
  by_cases h1 : okT l = true
  · refine ev_pos h1 (ev_some ebk ?_)
    by_cases h2 : 1 ≤ p ∧ p ≤ 2000
    · refine ev_pos (decide_eq_true h2) (ev_some (l1In_eq ..) ?_)
      by_cases h3 : 1 ≤ w ∧ w ≤ 60
      · have hok : okL l p w = true := by unfold okL; rw [h1, decide_eq_true h2, decide_eq_true h3]; rfl
        have hh := okL_true hok
        have hnp : (ndd p).length ≤ 2001 := by have := dd_len p.toNat; unfold ndd; omega
        refine Ev.step (fun k => spec_ContentsLine.j0.eq_2 ..) (ev_neg (by rw [decide_eq_true h3]; simp) (Ev.bind (l1NumI_ev p (by omega) (by omega)) ?_))
        rw [mkB_size, mkB_size, w64 (x := w - (l.length : Int)) (by omega) (by omega), w64 (x := w - (l.length : Int) - ((ndd p).length : Int)) (by omega) (by omega), w64 (x := w - (l.length : Int) - ((ndd p).length : Int) - 2) (by omega) (by omega)]
        by_cases c : dotsZ l p w < 1
        · refine ev_pos c (ev_now ?_)
          unfold lineM; rw [if_pos hok, if_pos c]
        · have c' := c
          unfold dotsZ at c'
          refine ev_neg c (ev_pos (by omega) ?_)
          rw [e32_, mkB_append]
          have hd : w - (l.length : Int) - ((ndd p).length : Int) - 2 = (((dotsZ l p w).toNat : Nat) : Int) := by unfold dotsZ; omega
          rw [hd]
          refine ev_val (specLine_l p (by omega) (dotsZ l p w).toNat (l ++ [32]) (by simp only [List.length_append, List.length_cons, List.length_nil]; unfold dotsZ; omega)) ?_
          unfold lineM lineL; rw [if_pos hok, if_neg c]; simp only [List.append_assoc, List.cons_append, List.nil_append]
      · exact fall _ (by rw [decide_eq_false h3]; rfl) (by unfold okL; rw [decide_eq_false h3, Bool.and_false, Bool.and_false])
    · exact ev_neg (by rw [decide_eq_false h2]; simp) (fall _ rfl (by unfold okL; rw [decide_eq_false h2, Bool.false_and, Bool.and_false]))
  · exact ev_neg h1 (fall _ rfl (by unfold okL; rw [Bool.eq_false_iff.2 h1, Bool.false_and]))
theorem implLine_ev (l : List UInt8) (p w : Int) (hl : l.length ≤ 1048576) : Ev (fun k => impl_ContentsLine.f k (mkB l) p w) (lineM l p w) := by
  have fall : ∀ b : Bool, b = true → okL l p w = false → Ev (fun k => impl_ContentsLine.j0 k (mkB l) p w b) (lineM l p w) := fun b hb hf => by
    refine Ev.step (fun k => impl_ContentsLine.j0.eq_2 ..) (ev_pos hb (ev_now ?_))
    unfold lineM; rw [hf]; rfl
  have ebk : impl_isBook.f p = some (decide (1 ≤ p ∧ p ≤ 2000)) := by unfold impl_isBook.f; rw [within_eq]; rfl
  unfold impl_ContentsLine.f
  refine Ev.bind (isTitle_ev l hl) ?_
  by_cases h1 : okT l = true
  · refine ev_pos h1 (ev_some ebk ?_)
    by_cases h2 : 1 ≤ p ∧ p ≤ 2000
    · refine ev_pos (decide_eq_true h2) (ev_some (within_eq ..) ?_)
      by_cases h3 : 1 ≤ w ∧ w ≤ 60
      · have hok : okL l p w = true := by unfold okL; rw [h1, decide_eq_true h2, decide_eq_true h3]; rfl
        have hh := okL_true hok
        have hnp : (ndd p).length ≤ 2001 := by have := dd_len p.toNat; unfold ndd; omega
        refine Ev.step (fun k => impl_ContentsLine.j0.eq_2 ..) (ev_neg (by rw [decide_eq_true h3]; simp) (ev_some (itoaI_eq p (by omega) (by omega)) ?_))
        rw [mkB_size, mkB_size, w64 (x := w - (l.length : Int)) (by omega) (by omega), w64 (x := w - (l.length : Int) - ((ndd p).length : Int)) (by omega) (by omega), w64 (x := w - (l.length : Int) - ((ndd p).length : Int) - 2) (by omega) (by omega)]
        by_cases c : dotsZ l p w < 1
        · refine ev_pos c (ev_now ?_)
          unfold lineM; rw [if_pos hok, if_pos c]
        · have c' := c
          unfold dotsZ at c'
          have hd : w - (l.length : Int) - ((ndd p).length : Int) - 2 = (((dotsZ l p w).toNat : Nat) : Int) := by unfold dotsZ; omega
          have hdd : (dotsZ l p w).toNat ≤ 60 := by unfold dotsZ; omega
          have hrl := repeatL_len [46] (dotsZ l p w).toNat
          simp only [List.length_cons, List.length_nil] at hrl
          refine ev_neg c (ev_pos (by omega) ?_)
          rw [hd, e46_]
          refine ev_some (repeat_eq [46] (dotsZ l p w).toNat (by simp) (by omega)) ?_
          rw [e32_, mkB_append, mkB_append, mkB_append, mkB_append, mkB_size, mkB_size, mkB_size, mkB_size]
          refine ev_pos (by simp only [List.length_append, List.length_cons, List.length_nil]; omega) (ev_pos (by simp only [List.length_append, List.length_cons, List.length_nil]; omega) (ev_pos (by simp only [List.length_append, List.length_cons, List.length_nil]; omega) (ev_now ?_)))
          unfold lineM lineL; rw [if_pos hok, if_neg c]; simp only [List.append_assoc, List.cons_append, List.nil_append]
      · exact fall _ (by rw [decide_eq_false h3]; rfl) (by unfold okL; rw [decide_eq_false h3, Bool.and_false, Bool.and_false])
    · exact ev_neg (by rw [decide_eq_false h2]; simp) (fall _ rfl (by unfold okL; rw [decide_eq_false h2, Bool.false_and, Bool.and_false]))
  · exact ev_neg h1 (fall _ rfl (by unfold okL; rw [Bool.eq_false_iff.2 h1, Bool.false_and]))

theorem toIntS_l (xs : List Int) (hn : xs.length < 4611686018427387904) : ∀ (ys : List Int) (i : Int) (zs : List Int), 0 ≤ i → xs.drop i.toNat = ys → zs.length = ys.length →
    Ev (fun k => laws_toIntS.l0 k xs (xs.take i.toNat ++ zs) i) xs := by
  intro ys
  induction ys with
  | nil =>
    intro i zs h0 h hz
    have := drop_nil h0 h
    refine Ev.step (fun k => laws_toIntS.l0.eq_2 ..) ?_
    have hz : zs = [] := List.eq_nil_of_length_eq_zero hz
    refine ev_neg (by omega) (ev_now ?_)
    rw [hz, List.append_nil, List.take_of_length_le (by omega)]
  | cons y ys ih =>
    intro i zs h0 h hz
    obtain ⟨h1, h2, h3, h4⟩ := drop_cons h0 h
    obtain ⟨z, zs, rfl⟩ : ∃ z zs', zs = z :: zs' := List.exists_cons_of_length_eq_add_one hz
    have hl : (xs.take i.toNat).length = i.toNat := by rw [List.length_take]; omega
    refine Ev.step (fun k => laws_toIntS.l0.eq_2 ..) ?_
    refine ev_pos h1 (ev_pos h0 (ev_pos (by rw [List.length_append, hl, List.length_cons]; omega) ?_))
    rw [h2, w64 (by omega) (by omega)]
    have e : (xs.take i.toNat ++ z :: zs).set i.toNat y = xs.take (i + 1).toNat ++ zs := by
      rw [h4, List.set_append_right _ _ (by omega), hl, Nat.sub_self, List.set_cons_zero, List.append_assoc]; rfl
    rw [e]
    exact ih (i + 1) zs (by omega) h3 (by simpa using hz)
theorem toIntS_ev (xs : List Int) (hn : xs.length ≤ 1048576) : Ev (fun k => laws_toIntS.f k xs) xs := by
  unfold laws_toIntS.f
  refine ev_pos (by omega) (ev_pos (by omega) ?_)
  exact toIntS_l xs (by omega) xs 0 _ (by omega) rfl (by simp)

theorem eqIntS_l (xs : List Int) (hn : xs.length < 4611686018427387904) : ∀ (ys : List Int) (i : Int), 0 ≤ i → xs.drop i.toNat = ys →
    Ev (fun k => laws_eqIntS.l0 k xs xs i) true := by
  intro ys
  induction ys with
  | nil =>
    intro i h0 h
    have := drop_nil h0 h
    refine Ev.step (fun k => laws_eqIntS.l0.eq_2 ..) ?_
    exact ev_neg (by omega) (ev_now rfl)
  | cons y ys ih =>
    intro i h0 h
    obtain ⟨h1, h2, h3, _⟩ := drop_cons h0 h
    refine Ev.step (fun k => laws_eqIntS.l0.eq_2 ..) ?_
    refine ev_pos h1 (ev_pos h0 (ev_pos h1 (ev_pos rfl ?_)))
    rw [w64 (by omega) (by omega)]
    exact ih _ (by omega) h3
theorem eqIntS_ev (xs : List Int) (hn : xs.length < 4611686018427387904) : Ev (fun k => laws_eqIntS.f k xs xs) true := by
  unfold laws_eqIntS.f
  exact ev_pos rfl (eqIntS_l xs hn xs 0 (by omega) rfl)

/-- What a list reads as behind the marking. -/
def marks (n : Nat) : List Int := (List.range n).map (fun i : Nat => (1 : Int) + i)
theorem marks_length (n : Nat) : (marks n).length = n := by simp [marks]
theorem marks_succ (n : Nat) : marks (n + 1) = marks n ++ [(1 : Int) + n] := by simp [marks, List.range_succ]
/-- A list whose first x elements are marked. -/
def marked (l : List Int) (x : Nat) : List Int := marks x ++ l.drop x
theorem marked_zero (l : List Int) : marked l 0 = l := by simp [marked, marks]
theorem marked_length (l : List Int) (x : Nat) (h : x ≤ l.length) : (marked l x).length = l.length := by simp [marked, marks_length]; omega
theorem marked_all (l : List Int) (x : Nat) (h : l.length ≤ x) (h2 : x ≤ l.length) : marked l x = marks l.length := by
  have e : x = l.length := by omega
  subst e
  simp [marked]
theorem marked_set (l : List Int) (x : Nat) (h : x < l.length) : (marked l x).set x (1 + (x : Int)) = marked l (x + 1) := by
  unfold marked
  rw [List.set_append_right _ _ (by rw [marks_length]; exact Nat.le_refl _), marks_length, Nat.sub_self, List.drop_eq_getElem_cons h, List.set_cons_zero, marks_succ, List.append_assoc]
  rfl

theorem markIntS_l (n : Nat) (hn : n < 1073741824) : ∀ (ys : List Int) (i : Nat), i + ys.length = n →
    Ev (fun k => laws_markIntS.l0 k (marks i ++ ys) (1 + (i : Int)) (i : Int)) ((1 : Int) + n, marks n) := by
  intro ys
  induction ys with
  | nil =>
    intro i h
    refine Ev.step (fun k => laws_markIntS.l0.eq_2 ..) ?_
    simp at h
    subst h
    exact ev_neg (by simp [marks_length]) (ev_now (by simp))
  | cons y ys ih =>
    intro i h
    simp at h
    refine Ev.step (fun k => laws_markIntS.l0.eq_2 ..) ?_
    refine ev_pos (by simp [marks_length]; omega) (ev_pos (by omega) ?_)
    rw [w64 (by omega) (by omega), w64 (by omega) (by omega)]
    have e : (marks i ++ y :: ys).set (i : Int).toNat (1 + (i : Int)) = marks (i + 1) ++ ys := by
      rw [marks_succ, Int.toNat_natCast, List.set_append_right _ _ (by rw [marks_length]; exact Nat.le_refl _), marks_length, Nat.sub_self, List.set_cons_zero, List.append_assoc]; rfl
    rw [e]
    have h2 := ih (i + 1) (by omega)
    have e2 : (1 : Int) + ((i + 1 : Nat) : Int) = 1 + (i : Int) + 1 := by omega
    have e3 : ((i + 1 : Nat) : Int) = (i : Int) + 1 := by omega
    rw [e2, e3] at h2
    exact h2
theorem markIntS_ev (xs : List Int) (hn : xs.length < 1073741824) : Ev (fun k => laws_markIntS.f k xs 1) ((1 : Int) + xs.length, marks xs.length) := markIntS_l xs.length hn xs 0 (by omega)

theorem markAny_l (n : Nat) (hn : n < 1073741824) : ∀ (m : Nat) (xs : List Int) (a i : Int), xs.length = n → 0 ≤ i → i + m = n → 0 ≤ a → a + m ≤ 1152921504606846976 →
    ∃ ys, Ev (fun k => laws_markIntS.l0 k xs a i) (a + m, ys) := by
  intro m
  induction m with
  | zero =>
    intro xs a i hl h0 h ha hb
    exact ⟨xs, Ev.step (fun k => laws_markIntS.l0.eq_2 ..) (ev_neg (by omega) (ev_now (by simp)))⟩
  | succ m ih =>
    intro xs a i hl h0 h ha hb
    have e1 := w64 (x := a + 1) (by omega) (by omega)
    have e2 := w64 (x := i + 1) (by omega) (by omega)
    obtain ⟨ys, hy⟩ := ih (xs.set i.toNat a) (a + 1) (i + 1) (by simpa using hl) (by omega) (by omega) (by omega) (by omega)
    refine ⟨ys, Ev.step (fun k => laws_markIntS.l0.eq_2 ..) (ev_pos (by omega) (ev_pos h0 ?_))⟩
    rw [e1, e2]
    exact ev_val hy (by congr 1; omega)
theorem markAny_ev (xs : List Int) (a : Int) (hn : xs.length < 1073741824) (ha : 0 ≤ a) (hb : a ≤ 1073741824) : ∃ ys, Ev (fun k => laws_markIntS.f k xs a) (a + xs.length, ys) :=
  markAny_l xs.length hn xs.length xs a 0 rfl (by omega) (by omega) ha (by omega)

theorem toStringS_l (xs : List ByteArray) (hn : xs.length < 4611686018427387904) : ∀ (ys : List ByteArray) (i : Int) (zs : List ByteArray), 0 ≤ i → xs.drop i.toNat = ys → zs.length = ys.length →
    Ev (fun k => laws_toStringS.l0 k xs (xs.take i.toNat ++ zs) i) xs := by
  intro ys
  induction ys with
  | nil =>
    intro i zs h0 h hz
    have := drop_nil h0 h
    refine Ev.step (fun k => laws_toStringS.l0.eq_2 ..) ?_
    have hz : zs = [] := List.eq_nil_of_length_eq_zero hz
    refine ev_neg (by omega) (ev_now ?_)
    rw [hz, List.append_nil, List.take_of_length_le (by omega)]
  | cons y ys ih =>
    intro i zs h0 h hz
    obtain ⟨h1, h2', h3, h4⟩ := drop_get h0 h
    have h2 : rdOf ByteArray.empty xs i = y := h2' _
    obtain ⟨z, zs, rfl⟩ : ∃ z zs', zs = z :: zs' := List.exists_cons_of_length_eq_add_one hz
    have hl : (xs.take i.toNat).length = i.toNat := by rw [List.length_take]; omega
    refine Ev.step (fun k => laws_toStringS.l0.eq_2 ..) ?_
    refine ev_pos h1 (ev_pos h0 (ev_pos (by rw [List.length_append, hl, List.length_cons]; omega) ?_))
    rw [h2, w64 (by omega) (by omega)]
    have e : (xs.take i.toNat ++ z :: zs).set i.toNat y = xs.take (i + 1).toNat ++ zs := by
      rw [h4, List.set_append_right _ _ (by omega), hl, Nat.sub_self, List.set_cons_zero, List.append_assoc]; rfl
    rw [e]
    exact ih (i + 1) zs (by omega) h3 (by simpa using hz)
theorem toStringS_ev (xs : List ByteArray) (hn : xs.length ≤ 1048576) : Ev (fun k => laws_toStringS.f k xs) xs := by
  unfold laws_toStringS.f
  refine ev_pos (by omega) (ev_pos (by omega) ?_)
  exact toStringS_l xs (by omega) xs 0 _ (by omega) rfl (by simp)

def szR : List ByteArray → Int → Int
  | [], a => a
  | x :: xs, a => if a - (x.size : Int) < 0 then -1 else szR xs (a - (x.size : Int))
theorem szR_le : ∀ (xs : List ByteArray) (a : Int), ¬ szR xs a < 0 → 0 ≤ a → ∀ x ∈ xs, (x.size : Int) ≤ a
  | [], _, _, _, x, hx => by simp at hx
  | y :: ys, a, h, ha, x, hx => by
    rw [szR] at h
    split at h
    · omega
    · rename_i c
      rcases List.mem_cons.1 hx with rfl | hx
      · omega
      · have := szR_le ys _ h (by omega) x hx; omega
theorem szStringS_l (xs : List ByteArray) (hn : xs.length ≤ 1048576) (hb : ∀ x ∈ xs, x.size ≤ 9223372036854775807) : ∀ (ys : List ByteArray) (i a : Int), 0 ≤ i → xs.drop i.toNat = ys → 0 ≤ a → a ≤ 1048576 →
    Ev (fun k => laws_szStringS.l0 k xs a i) (szR ys a) := by
  intro ys
  induction ys with
  | nil =>
    intro i a h0 h _ _
    have := drop_nil h0 h
    refine Ev.step (fun k => laws_szStringS.l0.eq_2 ..) ?_
    exact ev_neg (by omega) (ev_now rfl)
  | cons y ys ih =>
    intro i a h0 h ha ha2
    obtain ⟨h1, h2', h3, _⟩ := drop_get h0 h
    have h2 : rdOf ByteArray.empty xs i = y := h2' _
    have hy := hb y (List.mem_of_mem_drop (by rw [h]; exact List.mem_cons_self))
    refine Ev.step (fun k => laws_szStringS.l0.eq_2 ..) ?_
    rw [h2, w64 (x := a - (y.size : Int)) (by omega) (by omega), w64 (x := i + 1) (by omega) (by omega)]
    refine ev_pos h1 (ev_pos h0 ?_)
    by_cases c : a - (y.size : Int) < 0
    · exact ev_pos c (ev_now (by rw [szR, if_pos c]))
    · exact ev_neg c (ev_val (ih (i + 1) _ (by omega) h3 (by omega) (by omega)) (by rw [szR, if_neg c]))

theorem eqStringS_l (xs : List ByteArray) (hn : xs.length < 4611686018427387904) : ∀ (ys : List ByteArray) (i : Int), 0 ≤ i → xs.drop i.toNat = ys →
    Ev (fun k => laws_eqStringS.l0 k xs xs i) true := by
  intro ys
  induction ys with
  | nil =>
    intro i h0 h
    have := drop_nil h0 h
    refine Ev.step (fun k => laws_eqStringS.l0.eq_2 ..) ?_
    exact ev_neg (by omega) (ev_now rfl)
  | cons y ys ih =>
    intro i h0 h
    obtain ⟨h1, _, h3, _⟩ := drop_get h0 h
    refine Ev.step (fun k => laws_eqStringS.l0.eq_2 ..) ?_
    refine ev_pos h1 (ev_pos h0 (ev_pos h1 (ev_pos rfl ?_)))
    rw [w64 (by omega) (by omega)]
    exact ih _ (by omega) h3
theorem eqStringS_ev (xs : List ByteArray) (hn : xs.length < 4611686018427387904) : Ev (fun k => laws_eqStringS.f k xs xs) true := by
  unfold laws_eqStringS.f
  exact ev_pos rfl (eqStringS_l xs hn xs 0 (by omega) rfl)

def digsM (n : Nat) : List UInt8 := if n = 0 then [] else Lib.decDigits n
theorem digsM_len (n : Nat) : (digsM n).length ≤ n + 1 := by
  unfold digsM
  split
  · simp
  · induction n using Nat.strongRecOn with
    | _ n ih =>
      rw [Lib.decDigits]
      split
      · simp
      · rename_i h1 h
        have := ih (n / 10) (by omega) (by omega)
        rw [List.length_append]
        simp only [List.length_cons, List.length_nil]
        omega
theorem digsM_step (n : Nat) (h : n ≠ 0) : digsM n = digsM (n / 10) ++ [UInt8.ofNat (48 + n % 10)] := by
  unfold digsM
  rw [if_neg h, Lib.decDigits]
  by_cases c : n < 10
  · rw [dif_pos c, if_pos (by omega), show n % 10 = n from by omega]; rfl
  · rw [dif_neg c, if_neg (by omega)]
theorem markText_l : ∀ (n : Nat) (acc : List UInt8), acc.length + 2 * n ≤ 1000000000 → Ev (fun k => laws_markText.l0 k (n : Int) (mkB acc)) (mkB (109 :: (digsM n ++ acc))) := by
  intro n
  induction n using Nat.strongRecOn with
  | _ n ih =>
    intro acc ha
    refine Ev.step (fun k => laws_markText.l0.eq_2 ..) ?_
    by_cases h : n = 0
    · subst h
      rw [mkB_size]
      have e109 : (⟨#[109]⟩ : ByteArray) = mkB [109] := rfl
      rw [e109, mkB_append]
      exact ev_neg (by omega) (ev_pos (by omega) (ev_now rfl))
    · have e1 : Int.tdiv (n : Int) 10 = ((n / 10 : Nat) : Int) := by rw [Int.tdiv_eq_ediv_of_nonneg (by omega)]; omega
      have e2 : Int.tmod (n : Int) 10 = ((n % 10 : Nat) : Int) := by rw [Int.tmod_eq_emod_of_nonneg (by omega)]; omega
      rw [e1, e2, w64 (x := ((n / 10 : Nat) : Int)) (by omega) (by omega), w64 (x := 48 + ((n % 10 : Nat) : Int)) (by omega) (by omega)]
      have hs : strOfNums [(48 + ((n % 10 : Nat) : Int)) % 256] = mkB [UInt8.ofNat (48 + n % 10)] := by
        rw [mkB_nums]
        have : UInt8.ofNat ((((48 + n % 10 : Nat) : Int) % 256).toNat) = UInt8.ofNat (48 + n % 10) := by congr 1; omega
        rw [show (((48 + n % 10 : Nat) : Nat) : Int) = 48 + ((n % 10 : Nat) : Int) from by omega] at this
        show mkB [UInt8.ofNat (((48 + ((n % 10 : Nat) : Int)) % 256).toNat)] = _
        rw [this]
      refine ev_pos (by omega) (ev_some rfl ?_)
      rw [hs, mkB_size, mkB_size, mkB_append]
      refine ev_pos (by simp only [List.length_cons, List.length_nil]; omega) ?_
      refine ev_val (ih (n / 10) (by omega) _ (by simp only [List.length_append, List.length_cons, List.length_nil]; omega)) ?_
      rw [digsM_step n h, List.append_assoc]
def markT (n : Nat) : ByteArray := mkB (109 :: (digsM n ++ []))
theorem markText_ev (n : Nat) (h : 1 ≤ n) (h2 : n ≤ 100000000) : Ev (fun k => laws_markText.f k (n : Int)) (markT n) := by
  unfold laws_markText.f
  have e0 : (⟨#[]⟩ : ByteArray) = mkB [] := rfl
  rw [e0]
  exact ev_neg (by omega) (markText_l n [] (by simp only [List.length_nil]; omega))
/-- What a list of texts reads as behind the marking. -/
def marksT (n : Nat) : List ByteArray := (List.range n).map (fun i => markT (1 + i))
theorem marksT_length (n : Nat) : (marksT n).length = n := by simp [marksT]
theorem marksT_succ (n : Nat) : marksT (n + 1) = marksT n ++ [markT (1 + n)] := by simp [marksT, List.range_succ]

theorem markStringS_l (n : Nat) (hn : n ≤ 10000000) : ∀ (ys : List ByteArray) (i : Nat), i + ys.length = n →
    Ev (fun k => laws_markStringS.l0 k (marksT i ++ ys) (1 + (i : Int)) (i : Int)) ((1 : Int) + n, marksT n) := by
  intro ys
  induction ys with
  | nil =>
    intro i h
    refine Ev.step (fun k => laws_markStringS.l0.eq_2 ..) ?_
    simp at h
    subst h
    exact ev_neg (by simp [marksT_length]) (ev_now (by simp))
  | cons y ys ih =>
    intro i h
    simp at h
    refine Ev.step (fun k => laws_markStringS.l0.eq_2 ..) ?_
    have hm := markText_ev (1 + i) (by omega) (by omega)
    rw [show ((1 + i : Nat) : Int) = 1 + (i : Int) from by omega] at hm
    refine ev_pos (by simp [marksT_length]; omega) (Ev.bind hm (ev_pos (by omega) ?_))
    rw [w64 (by omega) (by omega), w64 (by omega) (by omega)]
    have e : (marksT i ++ y :: ys).set (i : Int).toNat (markT (1 + i)) = marksT (i + 1) ++ ys := by
      rw [marksT_succ, Int.toNat_natCast, List.set_append_right _ _ (by rw [marksT_length]; exact Nat.le_refl _), marksT_length, Nat.sub_self, List.set_cons_zero, List.append_assoc]; rfl
    rw [e]
    have h2 := ih (i + 1) (by omega)
    have e2 : (1 : Int) + ((i + 1 : Nat) : Int) = 1 + (i : Int) + 1 := by omega
    have e3 : ((i + 1 : Nat) : Int) = (i : Int) + 1 := by omega
    rw [e2, e3] at h2
    exact h2
theorem markStringS_ev (xs : List ByteArray) (hn : xs.length ≤ 10000000) : Ev (fun k => laws_markStringS.f k xs 1) ((1 : Int) + xs.length, marksT xs.length) := markStringS_l xs.length hn xs 0 (by omega)

theorem heldStringS_l (n : Nat) (hn : n ≤ 10000000) : ∀ (m i : Nat), i + m = n →
    Ev (fun k => laws_heldStringS.l0 k (marksT n) (1 + (i : Int)) (i : Int)) ((1 : Int) + n) := by
  intro m
  induction m with
  | zero =>
    intro i h
    refine Ev.step (fun k => laws_heldStringS.l0.eq_2 ..) ?_
    exact ev_neg (by rw [marksT_length]; omega) (ev_now (by omega))
  | succ m ih =>
    intro i h
    refine Ev.step (fun k => laws_heldStringS.l0.eq_2 ..) ?_
    have hr : rdOf ByteArray.empty (marksT n) (i : Int) = markT (1 + i) := by
      simp [rdOf, marksT, List.getD_eq_getElem?_getD, List.getElem?_range (show i < n by omega)]
    have hm := markText_ev (1 + i) (by omega) (by omega)
    rw [show ((1 + i : Nat) : Int) = 1 + (i : Int) from by omega] at hm
    rw [hr, w64 (by omega) (by omega), w64 (by omega) (by omega)]
    refine ev_pos (by rw [marksT_length]; omega) (ev_pos (by omega) (Ev.bind hm (ev_pos rfl ?_)))
    have h2 := ih (i + 1) (by omega)
    have e2 : (1 : Int) + ((i + 1 : Nat) : Int) = 1 + (i : Int) + 1 := by omega
    have e3 : ((i + 1 : Nat) : Int) = (i : Int) + 1 := by omega
    rw [e2, e3] at h2
    exact h2
theorem heldStringS_ev (n : Nat) (hn : n ≤ 10000000) : Ev (fun k => laws_heldStringS.f k (marksT n) 1) ((1 : Int) + n) := heldStringS_l n hn n 0 (by omega)

def linesC (w : Int) : List ByteArray → List Int → List ByteArray → List ByteArray × Bool
  | [], _, out => (out, true)
  | _ :: _, [], _ => ([], false)
  | t :: ts, p :: ps, out => if (lineM t.data.toList p w).2 = true then linesC w ts ps (out ++ [(lineM t.data.toList p w).1]) else ([], false)
theorem linesC_more (w e : Int) : ∀ (ts : List ByteArray) (ps : List Int) (out : List ByteArray), ts.length ≤ ps.length → linesC w ts (ps ++ [e]) out = linesC w ts ps out
  | [], ps, out, _ => by simp [linesC]
  | t :: ts, [], out, h => by simp at h
  | t :: ts, p :: ps, out, h => by
    rw [List.cons_append, linesC, linesC, linesC_more w e ts ps _ (by simpa using h)]
theorem linesC_small (w : Int) : ∀ (ts : List ByteArray) (ps : List Int) (out : List ByteArray), (linesC w ts ps out).1.length ≤ out.length + ts.length
  | [], ps, out => by simp [linesC]
  | t :: ts, [], out => by simp [linesC]
  | t :: ts, p :: ps, out => by
    rw [linesC]
    split
    · have := linesC_small w ts ps (out ++ [(lineM t.data.toList p w).1])
      simp only [List.length_append, List.length_cons, List.length_nil] at this ⊢; omega
    · simp
theorem specCont_l (w : Int) (bs : List Int) (ts : List ByteArray) (hn : ts.length ≤ 1048576) (hlen : ts.length ≤ bs.length) (hb : ∀ t ∈ ts, t.size ≤ 1048576) : ∀ (ys : List ByteArray) (i : Int) (out : List ByteArray), 0 ≤ i → ts.drop i.toNat = ys → out.length + ys.length ≤ 10000000 →
    Ev (fun k => spec_ContentsOf.l0 k w bs out ts (ts.length : Int) i) (linesC w ys (bs.drop i.toNat) out) := by
  intro ys
  induction ys with
  | nil =>
    intro i out h0 h _
    have := drop_nil h0 h
    refine Ev.step (fun k => spec_ContentsOf.l0.eq_2 ..) ?_
    exact ev_neg (by omega) (ev_now (by simp [linesC]))
  | cons y ys ih =>
    intro i out h0 h ho
    obtain ⟨h1, h2', h3, _⟩ := drop_get h0 h
    have h2 : rdOf ByteArray.empty ts i = y := h2' _
    have hy := hb y (List.mem_of_mem_drop (by rw [h]; exact List.mem_cons_self))
    simp only [List.length_cons] at ho
    obtain ⟨p, ps, hp⟩ : ∃ p ps, bs.drop i.toNat = p :: ps := by
      rcases hd : bs.drop i.toNat with _ | ⟨p, ps⟩
      · have := List.drop_eq_nil_iff.1 hd; omega
      · exact ⟨p, ps, rfl⟩
    obtain ⟨g1, g2, g3, _⟩ := drop_cons h0 hp
    have hz : y.data.toList.length = y.size := by rw [Array.length_toList]; rfl
    have hline := specLine_ev y.data.toList p w (by omega)
    rw [mkB_eq] at hline
    refine Ev.step (fun k => spec_ContentsOf.l0.eq_2 ..) ?_
    rw [h2, g2, w64 (x := i + 1) (by omega) (by omega), hp]
    refine ev_pos h1 (ev_pos h0 (ev_pos h1 (ev_pos g1 (Ev.bind hline ?_))))
    by_cases c : (lineM y.data.toList p w).2 = true
    · refine ev_pos c (ev_pos (by omega) (ev_val (ih (i + 1) _ (by omega) h3 (by simp only [List.length_append, List.length_cons, List.length_nil]; omega)) ?_))
      rw [linesC, if_pos c, g3]
    · exact ev_neg c (ev_now (by rw [linesC, if_neg c]))
theorem implCont_l (w : Int) (bs : List Int) (ts : List ByteArray) (hn : ts.length ≤ 1048576) (hlen : ts.length ≤ bs.length) (hb : ∀ t ∈ ts, t.size ≤ 1048576) : ∀ (ys : List ByteArray) (i : Int) (out : List ByteArray), 0 ≤ i → ts.drop i.toNat = ys → out.length + ys.length ≤ 10000000 →
    Ev (fun k => impl_ContentsOf.l0 k w bs out ts (ts.length : Int) i) (linesC w ys (bs.drop i.toNat) out) := by
  intro ys
  induction ys with
  | nil =>
    intro i out h0 h _
    have := drop_nil h0 h
    refine Ev.step (fun k => impl_ContentsOf.l0.eq_2 ..) ?_
    exact ev_neg (by omega) (ev_now (by simp [linesC]))
  | cons y ys ih =>
    intro i out h0 h ho
    obtain ⟨h1, h2', h3, _⟩ := drop_get h0 h
    have h2 : rdOf ByteArray.empty ts i = y := h2' _
    have hy := hb y (List.mem_of_mem_drop (by rw [h]; exact List.mem_cons_self))
    simp only [List.length_cons] at ho
    obtain ⟨p, ps, hp⟩ : ∃ p ps, bs.drop i.toNat = p :: ps := by
      rcases hd : bs.drop i.toNat with _ | ⟨p, ps⟩
      · have := List.drop_eq_nil_iff.1 hd; omega
      · exact ⟨p, ps, rfl⟩
    obtain ⟨g1, g2, g3, _⟩ := drop_cons h0 hp
    have hz : y.data.toList.length = y.size := by rw [Array.length_toList]; rfl
    have hline := implLine_ev y.data.toList p w (by omega)
    rw [mkB_eq] at hline
    refine Ev.step (fun k => impl_ContentsOf.l0.eq_2 ..) ?_
    rw [h2, g2, w64 (x := i + 1) (by omega) (by omega), hp]
    refine ev_pos h1 (ev_pos h0 (ev_pos h1 (ev_pos g1 (Ev.bind hline ?_))))
    by_cases c : (lineM y.data.toList p w).2 = true
    · refine ev_pos c (ev_pos (by omega) (ev_val (ih (i + 1) _ (by omega) h3 (by simp only [List.length_append, List.length_cons, List.length_nil]; omega)) ?_))
      rw [linesC, if_pos c, g3]
    · exact ev_neg c (ev_now (by rw [linesC, if_neg c]))
def contOk (ts : List ByteArray) (cs : List Int) : Bool := goodC cs && decide (ts.length = cs.length)
def contM (ts : List ByteArray) (cs : List Int) (right : Bool) (w : Int) : List ByteArray × Bool := if contOk ts cs = true then linesC w ts (begL right cs 1) [] else ([], false)
theorem contM_small (ts : List ByteArray) (cs : List Int) (right : Bool) (w : Int) : (contM ts cs right w).1.length ≤ 1000 := by
  unfold contM
  split
  · rename_i h
    simp only [contOk, Bool.and_eq_true, decide_eq_true_eq] at h
    have := linesC_small w ts (begL right cs 1) []
    have := (goodC_true h.1).2.1
    simp only [List.length_nil] at *
    omega
  · simp
theorem specCont_ev (ts : List ByteArray) (cs : List Int) (right : Bool) (w : Int) (hn : ts.length ≤ 1048576) (hc : cs.length ≤ 1048576) (hb : ∀ t ∈ ts, t.size ≤ 1048576) : Ev (fun k => spec_ContentsOf.f k ts cs right w) (contM ts cs right w) := by
  have fall : ∀ b : Bool, b = true → contOk ts cs = false → Ev (fun k => spec_ContentsOf.j0 k ts cs right w b) (contM ts cs right w) := fun b hb hf => by
    refine Ev.step (fun k => spec_ContentsOf.j0.eq_2 ..) (ev_pos hb (ev_now ?_))
    unfold contM; rw [hf]; rfl
  unfold spec_ContentsOf.f
  refine Ev.bind (caGood_ev cs hc) ?_
  by_cases h1 : goodC cs = true
  · by_cases h2 : ts.length = cs.length
    · have hok : contOk ts cs = true := by unfold contOk; rw [h1, decide_eq_true h2]; rfl
      refine ev_pos h1 (Ev.step (fun k => spec_ContentsOf.j0.eq_2 ..) (ev_neg (by simp [h2]) (Ev.bind (caBegin_ev cs right h1) ?_)))
      have hl := begL_length right cs 1
      refine ev_val (specCont_l w _ ts hn (by rw [List.length_append]; omega) hb ts 0 [] (by omega) rfl (by simp only [List.length_nil]; omega)) ?_
      unfold contM
      rw [if_pos hok, Int.toNat_zero, List.drop_zero, linesC_more w _ ts _ [] (by omega)]
    · exact ev_pos h1 (fall _ (by simp; omega) (by unfold contOk; rw [decide_eq_false h2, Bool.and_false]))
  · exact ev_neg h1 (fall _ rfl (by unfold contOk; rw [Bool.eq_false_iff.2 h1, Bool.false_and]))
theorem implCont_ev (ts : List ByteArray) (cs : List Int) (right : Bool) (w : Int) (hn : ts.length ≤ 1048576) (hc : cs.length ≤ 1048576) (hb : ∀ t ∈ ts, t.size ≤ 1048576) : Ev (fun k => impl_ContentsOf.f k ts cs right w) (contM ts cs right w) := by
  have fall : ∀ (x : List Int) (b : Bool), b = true → contOk ts cs = false → Ev (fun k => impl_ContentsOf.j0 k ts w x b) (contM ts cs right w) := fun x b hb hf => by
    refine Ev.step (fun k => impl_ContentsOf.j0.eq_2 ..) (ev_pos hb (ev_now ?_))
    unfold contM; rw [hf]; rfl
  unfold impl_ContentsOf.f
  refine Ev.bind (begs_ev cs right hc) ?_
  by_cases h1 : goodC cs = true
  · rw [if_pos h1]
    by_cases h2 : ts.length = cs.length
    · have hok : contOk ts cs = true := by unfold contOk; rw [h1, decide_eq_true h2]; rfl
      refine ev_pos rfl (Ev.step (fun k => impl_ContentsOf.j0.eq_2 ..) (ev_neg (by simp [h2]) ?_))
      have hl := begL_length right cs 1
      refine ev_val (implCont_l w (begL right cs 1) ts hn (by omega) hb ts 0 [] (by omega) rfl (by simp only [List.length_nil]; omega)) ?_
      unfold contM
      rw [if_pos hok, Int.toNat_zero, List.drop_zero]
    · exact ev_pos rfl (fall _ _ (by simp; omega) (by unfold contOk; rw [decide_eq_false h2, Bool.and_false]))
  · rw [if_neg h1]
    exact ev_neg (by simp) (fall _ _ rfl (by unfold contOk; rw [Bool.eq_false_iff.2 h1, Bool.false_and]))
theorem FnExactContentsOf (ts : List ByteArray) (cs : List Int) (right : Bool) (w : Int) (hx : ts.length ≤ 9223372036854775807) (hz : ∀ s ∈ ts, s.size ≤ maxLen) (_hc : cs.length ≤ 9223372036854775807) : ∃ k, laws_FnExactContentsOf.f k ts cs right w = some true := by
  have hml : maxLen = 9223372036854775807 := by decide
  refine Ev.rounds ?_
  unfold laws_FnExactContentsOf.f
  by_cases h : (cs.length : Int) > 1048576
  · exact ev_pos h (ev_now rfl)
  refine ev_neg h ?_
  unfold laws_szStringS.f
  rw [w64 (x := 1048576 - (ts.length : Int)) (by omega) (by omega)]
  by_cases h2 : 1048576 - (ts.length : Int) < 0
  · exact Ev.bind (ev_pos h2 (ev_now rfl)) (ev_pos (by omega) (ev_now rfl))
  have hsz := szStringS_l ts (by omega) (fun x hx => by have := hz x hx; omega) ts 0 (1048576 - (ts.length : Int)) (by omega) rfl (by omega) (by omega)
  refine Ev.bind (ev_neg h2 hsz) ?_
  by_cases h3 : szR ts (1048576 - (ts.length : Int)) < 0
  · exact ev_pos h3 (ev_now rfl)
  refine ev_neg h3 ?_
  have hb : ∀ t ∈ ts, t.size ≤ 1048576 := fun t ht => by have := szR_le ts _ h3 (by omega) t ht; omega
  have hn : ts.length ≤ 1048576 := by omega
  have hcn : cs.length ≤ 1048576 := by omega
  have hs := specCont_ev ts cs right w hn hcn hb
  have hi := implCont_ev ts cs right w hn hcn hb
  have hW := contM_small ts cs right w
  generalize contM ts cs right w = r at hs hi hW
  obtain ⟨ys, hm⟩ := markAny_ev cs (1 + (ts.length : Int)) (by omega) (by omega) (by omega)
  refine Ev.bind (toStringS_ev ts hn) (Ev.bind (toIntS_ev cs hcn) (Ev.bind hs (Ev.bind (toStringS_ev ts hn) (Ev.bind (toIntS_ev cs hcn) (Ev.bind hi (Ev.bind (eqStringS_ev r.1 (by omega)) (ev_pos rfl ?_)))))))
  refine Ev.step (fun k => laws_FnExactContentsOf.j0.eq_2 ..) ?_
  refine ev_neg (by simp) (Ev.bind (toStringS_ev ts hn) (Ev.bind (eqStringS_ev ts (by omega)) (ev_pos rfl (Ev.bind (toIntS_ev cs hcn) (Ev.bind (eqIntS_ev cs (by omega)) (ev_pos rfl ?_))))))
  refine Ev.bind (markStringS_ev ts (by omega)) (Ev.bind hm (ev_neg (by simp only; omega) (Ev.bind (eqStringS_ev r.1 (by omega)) (ev_pos rfl ?_))))
  refine Ev.step (fun k => laws_FnExactContentsOf.j1.eq_2 ..) ?_
  refine ev_neg (by simp) (Ev.bind (markStringS_ev r.1 (by omega)) (Ev.bind (heldStringS_ev r.1.length (by omega)) (ev_neg (by omega) (ev_pos rfl ?_))))
  refine Ev.bind (toStringS_ev ts hn) (Ev.bind (toIntS_ev cs hcn) (Ev.bind hi (Ev.bind (eqStringS_ev r.1 (by omega)) (ev_pos rfl ?_))))
  refine Ev.step (fun k => laws_FnExactContentsOf.j2.eq_2 ..) ?_
  exact ev_neg (by simp) (Ev.bind (heldStringS_ev r.1.length (by omega)) (ev_neg (by omega) (ev_pos rfl (ev_now rfl))))

end Go.Proofs.YtngaimhnajeidaaDoor.Pure
