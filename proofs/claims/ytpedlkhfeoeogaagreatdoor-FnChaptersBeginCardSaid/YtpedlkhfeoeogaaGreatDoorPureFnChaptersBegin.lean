/- The law FnChaptersBegin holds for every two byte slices: chapters begin behind each other, on right pages with blanks alone where they are needed, the fewest blanks are those of an order, pages belong to chapters, and texts are read back. No condition but what the card lists. -/
import Derived.Test.YtpedlkhfeoeogaaGreatDoorPFnChaptersBeginx22
import Derived.Laws.Bits64b
namespace Go.Proofs.YtpedlkhfeoeogaaGreatDoor.Pure
open Go.RowKit Go.Proofs.YtpedlkhfeoeogaaGreatDoor.PFnChaptersBegin Go.Proofs.YtpedlkhfeoeogaaGreatDoorW.PrintWords Go.Proofs.YtpedlkhfeoeogaaGreatDoorW.PrintLast Go.Proofs.YtpedlkhfeoeogaaGreatDoorW.PrintMore

theorem w64 {x : Int} (h1 : -9223372036854775808 ≤ x) (h2 : x ≤ 9223372036854775807) : wrap64 x = x := by
  unfold wrap64; omega
theorem ev_pos {α : Type} {c : Prop} [Decidable c] {f g : Nat → Option α} {r : α} (hc : c) (h : Ev f r) : Ev (fun k => if c then f k else g k) r := by
  simpa only [if_pos hc] using h
theorem ev_neg {α : Type} {c : Prop} [Decidable c] {f g : Nat → Option α} {r : α} (hc : ¬ c) (h : Ev g r) : Ev (fun k => if c then f k else g k) r := by
  simpa only [if_neg hc] using h
theorem ev_now {α : Type} {r s : α} (h : r = s) : Ev (fun _ => some r) s := h ▸ Ev.now r
theorem ev_some {α β : Type} {x : Option α} {f : Nat → α → Option β} {a : α} {r : β} (h : x = some a) (k : Ev (fun n => f n a) r) : Ev (fun n => x.bind (f n)) r := by
  subst h; exact k
theorem ev_val {α : Type} {g : Nat → Option α} {a b : α} (h : Ev g a) (e : a = b) : Ev g b := e ▸ h
theorem ev_suc {α : Type} {g : Nat → Option α} {r : α} (h : Ev (fun k => g (k + 1)) r) : Ev g r := Ev.step (fun _ => rfl) h
theorem drop_nil {α : Type} {xs : List α} {i : Int} (h0 : 0 ≤ i) (h : xs.drop i.toNat = []) : (xs.length : Int) ≤ i := by
  have := List.drop_eq_nil_iff.1 h
  omega
theorem drop_get {α : Type} {xs : List α} {i : Int} {y : α} {ys : List α} (h0 : 0 ≤ i) (h : xs.drop i.toNat = y :: ys) : i < (xs.length : Int) ∧ (∀ d, xs.getD i.toNat d = y) ∧ xs.drop (i + 1).toNat = ys ∧ xs.take (i + 1).toNat = xs.take i.toNat ++ [y] := by
  have hl : i.toNat < xs.length := by
    rcases Nat.lt_or_ge i.toNat xs.length with hl | hl
    · exact hl
    · rw [List.drop_eq_nil_iff.2 hl] at h; cases h
  have e := List.drop_eq_getElem_cons hl
  rw [h] at e
  injection e with e1 e2
  have h1 : (i + 1).toNat = i.toNat + 1 := by omega
  refine ⟨by omega, fun d => ?_, ?_, ?_⟩
  · rw [List.getD_eq_getElem?_getD, List.getElem?_eq_getElem hl, e1]; rfl
  · rw [h1]; exact e2.symm
  · rw [h1, List.take_add_one, List.getElem?_eq_getElem hl, e1]; rfl
theorem drop_cons {xs : List Int} {i : Int} {y : Int} {ys : List Int} (h0 : 0 ≤ i) (h : xs.drop i.toNat = y :: ys) : i < (xs.length : Int) ∧ rd xs i = y ∧ xs.drop (i + 1).toNat = ys ∧ xs.take (i + 1).toNat = xs.take i.toNat ++ [y] := by
  obtain ⟨h1, h2, h3⟩ := drop_get h0 h
  exact ⟨h1, h2 0, h3⟩

theorem within_eq (a lo hi : Int) : impl_within.f a lo hi = some (decide (lo ≤ a ∧ a ≤ hi)) := by
  unfold impl_within.f
  by_cases h : a ≥ lo
  · rw [if_pos h]; congr 1; simp [show lo ≤ a from h]
  · rw [if_neg h]; congr 1; simp; omega

theorem allWithin_l (lo hi : Int) (xs : List Int) (hn : xs.length < 4611686018427387904) : ∀ (ys : List Int) (i : Int), 0 ≤ i → xs.drop i.toNat = ys →
    Ev (fun k => impl_allWithin.l0 k lo hi xs (xs.length : Int) i) (decide (∀ n ∈ ys, lo ≤ n ∧ n ≤ hi)) := by
  intro ys
  induction ys with
  | nil =>
    intro i h0 h
    have := drop_nil h0 h
    refine Ev.step (fun k => impl_allWithin.l0.eq_2 ..) ?_
    exact ev_neg (by omega) (ev_now (by simp))
  | cons y ys ih =>
    intro i h0 h
    obtain ⟨h1, h2, h3, _⟩ := drop_cons h0 h
    refine Ev.step (fun k => impl_allWithin.l0.eq_2 ..) ?_
    refine ev_pos h1 (ev_pos h0 (ev_pos h1 ?_))
    rw [h2, w64 (by omega) (by omega)]
    refine ev_some (within_eq ..) ?_
    by_cases hy : lo ≤ y ∧ y ≤ hi
    · exact ev_pos (by simpa using hy) (ev_val (ih _ (by omega) h3) (by simp [hy]))
    · exact ev_neg (by simpa using hy) (ev_now (by simp [hy]))
theorem allWithin_ev (xs : List Int) (lo hi : Int) (hn : xs.length < 4611686018427387904) :
    Ev (fun k => impl_allWithin.f k xs lo hi) (decide (∀ n ∈ xs, lo ≤ n ∧ n ≤ hi)) := allWithin_l lo hi xs hn xs 0 (by omega) rfl

theorem l1In_eq (a lo hi : Int) : spec_l1In.f a lo hi = some (decide (lo ≤ a ∧ a ≤ hi)) := by
  unfold spec_l1In.f
  by_cases h : a ≥ lo
  · rw [if_pos h]; congr 1; simp [show lo ≤ a from h]
  · rw [if_neg h]; congr 1; simp; omega

theorem l1All_l (lo hi : Int) (xs : List Int) (hn : xs.length < 4611686018427387904) : ∀ (ys : List Int) (i : Int), 0 ≤ i → xs.drop i.toNat = ys →
    Ev (fun k => spec_l1All.l0 k lo hi xs (xs.length : Int) i) (decide (∀ n ∈ ys, lo ≤ n ∧ n ≤ hi)) := by
  intro ys
  induction ys with
  | nil =>
    intro i h0 h
    have := drop_nil h0 h
    refine Ev.step (fun k => spec_l1All.l0.eq_2 ..) ?_
    exact ev_neg (by omega) (ev_now (by simp))
  | cons y ys ih =>
    intro i h0 h
    obtain ⟨h1, h2, h3, _⟩ := drop_cons h0 h
    refine Ev.step (fun k => spec_l1All.l0.eq_2 ..) ?_
    refine ev_pos h1 (ev_pos h0 (ev_pos h1 ?_))
    rw [h2, w64 (by omega) (by omega)]
    refine ev_some (l1In_eq ..) ?_
    by_cases hy : lo ≤ y ∧ y ≤ hi
    · exact ev_pos (by simpa using hy) (ev_val (ih _ (by omega) h3) (by simp [hy]))
    · exact ev_neg (by simpa using hy) (ev_now (by simp [hy]))
theorem l1All_ev (xs : List Int) (lo hi : Int) (hn : xs.length < 4611686018427387904) :
    Ev (fun k => spec_l1All.f k xs lo hi) (decide (∀ n ∈ xs, lo ≤ n ∧ n ≤ hi)) := l1All_l lo hi xs hn xs 0 (by omega) rfl

def goodC (xs : List Int) : Bool := decide (1 ≤ xs.length ∧ xs.length ≤ 12) && decide (∀ n ∈ xs, 1 ≤ n ∧ n ≤ 120)
theorem goodC_true {xs : List Int} (h : goodC xs = true) : 1 ≤ xs.length ∧ xs.length ≤ 12 ∧ ∀ n ∈ xs, 1 ≤ n ∧ n ≤ 120 := by
  simp only [goodC, Bool.and_eq_true, decide_eq_true_eq] at h
  exact ⟨h.1.1, h.1.2, h.2⟩
theorem caGood_ev (xs : List Int) (hn : xs.length ≤ 1048576) : Ev (fun k => spec_caGood.f k xs) (goodC xs) := by
  unfold spec_caGood.f goodC
  refine ev_some (l1In_eq ..) ?_
  by_cases h : 1 ≤ (xs.length : Int) ∧ (xs.length : Int) ≤ 12
  · have e : (1 ≤ xs.length ∧ xs.length ≤ 12) := by omega
    refine ev_pos (decide_eq_true h) (Ev.bind (l1All_ev xs 1 120 (by omega)) (ev_now ?_))
    rw [decide_eq_true e, Bool.true_and]
  · have e : ¬ (1 ≤ xs.length ∧ xs.length ≤ 12) := by omega
    refine ev_neg (by rw [decide_eq_false h]; simp) (ev_now ?_)
    rw [decide_eq_false e, Bool.false_and]
theorem areCh_ev (xs : List Int) (hn : xs.length ≤ 1048576) : Ev (fun k => impl_AreChapters.f k xs) (goodC xs) := by
  unfold impl_AreChapters.f goodC
  refine ev_some (within_eq ..) ?_
  by_cases h : 1 ≤ (xs.length : Int) ∧ (xs.length : Int) ≤ 12
  · have e : (1 ≤ xs.length ∧ xs.length ≤ 12) := by omega
    refine ev_pos (decide_eq_true h) (Ev.bind (allWithin_ev xs 1 120 (by omega)) (ev_now ?_))
    rw [decide_eq_true e, Bool.true_and]
  · have e : ¬ (1 ≤ xs.length ∧ xs.length ≤ 12) := by omega
    refine ev_neg (by rw [decide_eq_false h]; simp) (ev_now ?_)
    rw [decide_eq_false e, Bool.false_and]

def begP (right : Bool) (p : Int) : Int := if right = true ∧ p % 2 = 0 then p + 1 else p
def begL (right : Bool) : List Int → Int → List Int
  | [], _ => []
  | n :: ns, p => begP right p :: begL right ns (begP right p + n)
def begEnd (right : Bool) : List Int → Int → Int
  | [], p => p
  | n :: ns, p => begEnd right ns (begP right p + n)
theorem begL_length (right : Bool) : ∀ (ns : List Int) (p : Int), (begL right ns p).length = ns.length
  | [], _ => rfl
  | n :: ns, p => by rw [begL, List.length_cons, begL_length right ns, List.length_cons]
theorem begP_bd (right : Bool) (p : Int) : p ≤ begP right p ∧ begP right p ≤ p + 1 := by unfold begP; split <;> omega
theorem tmod2 (p : Int) (h : 0 ≤ p) : Int.tmod p 2 = p % 2 := Int.tmod_eq_emod_of_nonneg h
theorem caBegin_l (right : Bool) (xs : List Int) (hn : xs.length ≤ 1000) (hb : ∀ n ∈ xs, 1 ≤ n ∧ n ≤ 120) : ∀ (ys : List Int) (i p : Int) (out : List Int), 0 ≤ i → xs.drop i.toNat = ys → 1 ≤ p → p + 121 * ys.length ≤ 1000000 → out.length + ys.length ≤ 1000 →
    Ev (fun k => spec_caBegin.l0 k right out p xs (xs.length : Int) i) (out ++ begL right ys p ++ [begEnd right ys p]) := by
  intro ys
  induction ys with
  | nil =>
    intro i p out h0 h _ _ ho
    have := drop_nil h0 h
    refine Ev.step (fun k => spec_caBegin.l0.eq_2 ..) ?_
    exact ev_neg (by omega) (ev_pos (by omega) (ev_now (by simp [begL, begEnd])))
  | cons y ys ih =>
    intro i p out h0 h hp hpb ho
    obtain ⟨h1, h2, h3, _⟩ := drop_cons h0 h
    have hy := hb y (List.mem_of_mem_drop (by rw [h]; exact List.mem_cons_self))
    have hq := begP_bd right p
    simp only [List.length_cons] at hpb ho
    have hr := ih (i + 1) (begP right p + y) (out ++ [begP right p]) (by omega) h3 (by omega) (by omega) (by simp only [List.length_append, List.length_cons, List.length_nil]; omega)
    have fin : out ++ [begP right p] ++ begL right ys (begP right p + y) ++ [begEnd right ys (begP right p + y)] = out ++ begL right (y :: ys) p ++ [begEnd right (y :: ys) p] := by simp [begL, begEnd]
    rw [fin] at hr
    refine Ev.step (fun k => spec_caBegin.l0.eq_2 ..) ?_
    rw [h2, tmod2 p (by omega), w64 (x := i + 1) (by omega) (by omega), w64 (x := p + 1) (by omega) (by omega), w64 (x := p + 1 + y) (by omega) (by omega), w64 (x := p + y) (by omega) (by omega)]
    refine ev_pos h1 (ev_pos h0 (ev_pos h1 ?_))
    by_cases c1 : right = true
    · by_cases c2 : p % 2 = 0
      · have e : begP right p = p + 1 := by unfold begP; rw [if_pos ⟨c1, c2⟩]
        rw [e] at hr
        exact ev_pos c1 (ev_pos c2 (ev_pos (by omega) hr))
      · have e : begP right p = p := by unfold begP; rw [if_neg (fun z => c2 z.2)]
        rw [e] at hr
        exact ev_pos c1 (ev_neg c2 (ev_pos (by omega) hr))
    · have e : begP right p = p := by unfold begP; rw [if_neg (fun z => c1 z.1)]
      rw [e] at hr
      exact ev_neg c1 (ev_pos (by omega) hr)
theorem laid_l (right : Bool) (xs : List Int) (hn : xs.length ≤ 1000) (hb : ∀ n ∈ xs, 1 ≤ n ∧ n ≤ 120) : ∀ (ys : List Int) (i p : Int) (out bl : List Int), 0 ≤ i → xs.drop i.toNat = ys → 1 ≤ p → p + 121 * ys.length ≤ 1000000 → out.length + ys.length ≤ 1000 → bl.length + ys.length ≤ 1000 →
    ∃ b c, Ev (fun k => impl_laid.l0 k right out bl p xs (xs.length : Int) i) (out ++ begL right ys p, b, c) := by
  intro ys
  induction ys with
  | nil =>
    intro i p out bl h0 h _ _ ho _
    have := drop_nil h0 h
    refine ⟨bl, wrap64 (p - 1), Ev.step (fun k => impl_laid.l0.eq_2 ..) ?_⟩
    exact ev_neg (by omega) (ev_now (by simp [begL]))
  | cons y ys ih =>
    intro i p out bl h0 h hp hpb ho hbl
    obtain ⟨h1, h2, h3, _⟩ := drop_cons h0 h
    have hy := hb y (List.mem_of_mem_drop (by rw [h]; exact List.mem_cons_self))
    have hq := begP_bd right p
    simp only [List.length_cons] at hpb ho hbl
    have fin : out ++ [begP right p] ++ begL right ys (begP right p + y) = out ++ begL right (y :: ys) p := by simp [begL]
    by_cases c1 : right = true
    · by_cases c2 : p % 2 = 0
      · have e : begP right p = p + 1 := by unfold begP; rw [if_pos ⟨c1, c2⟩]
        obtain ⟨b, c, hr⟩ := ih (i + 1) (begP right p + y) (out ++ [begP right p]) (bl ++ [p]) (by omega) h3 (by omega) (by omega) (by simp only [List.length_append, List.length_cons, List.length_nil]; omega) (by simp only [List.length_append, List.length_cons, List.length_nil]; omega)
        rw [fin, e] at hr
        refine ⟨b, c, Ev.step (fun k => impl_laid.l0.eq_2 ..) ?_⟩
        rw [h2, tmod2 p (by omega), w64 (x := i + 1) (by omega) (by omega), w64 (x := p + 1) (by omega) (by omega), w64 (x := p + 1 + y) (by omega) (by omega), w64 (x := p + y) (by omega) (by omega)]
        exact ev_pos h1 (ev_pos h0 (ev_pos h1 (ev_pos c1 (ev_pos c2 (ev_pos (by omega) (ev_pos (by omega) hr))))))
      · have e : begP right p = p := by unfold begP; rw [if_neg (fun z => c2 z.2)]
        obtain ⟨b, c, hr⟩ := ih (i + 1) (begP right p + y) (out ++ [begP right p]) bl (by omega) h3 (by omega) (by omega) (by simp only [List.length_append, List.length_cons, List.length_nil]; omega) (by omega)
        rw [fin, e] at hr
        refine ⟨b, c, Ev.step (fun k => impl_laid.l0.eq_2 ..) ?_⟩
        rw [h2, tmod2 p (by omega), w64 (x := i + 1) (by omega) (by omega), w64 (x := p + 1) (by omega) (by omega), w64 (x := p + 1 + y) (by omega) (by omega), w64 (x := p + y) (by omega) (by omega)]
        exact ev_pos h1 (ev_pos h0 (ev_pos h1 (ev_pos c1 (ev_neg c2 (ev_pos (by omega) hr)))))
    · have e : begP right p = p := by unfold begP; rw [if_neg (fun z => c1 z.1)]
      obtain ⟨b, c, hr⟩ := ih (i + 1) (begP right p + y) (out ++ [begP right p]) bl (by omega) h3 (by omega) (by omega) (by simp only [List.length_append, List.length_cons, List.length_nil]; omega) (by omega)
      rw [fin, e] at hr
      refine ⟨b, c, Ev.step (fun k => impl_laid.l0.eq_2 ..) ?_⟩
      rw [h2, tmod2 p (by omega), w64 (x := i + 1) (by omega) (by omega), w64 (x := p + 1) (by omega) (by omega), w64 (x := p + 1 + y) (by omega) (by omega), w64 (x := p + y) (by omega) (by omega)]
      exact ev_pos h1 (ev_pos h0 (ev_pos h1 (ev_neg c1 (ev_pos (by omega) hr))))
theorem begs_ev (xs : List Int) (right : Bool) (hn : xs.length ≤ 1048576) : Ev (fun k => impl_BeginningsOf.f k xs right) (if goodC xs = true then (begL right xs 1, true) else ([], false)) := by
  unfold impl_BeginningsOf.f
  refine Ev.bind (areCh_ev xs hn) ?_
  by_cases h : goodC xs = true
  · obtain ⟨g1, g2, g3⟩ := goodC_true h
    obtain ⟨b, c, hr⟩ := laid_l right xs (by omega) g3 xs 0 1 [] [] (by omega) rfl (by omega) (by omega) (by simp only [List.length_nil]; omega) (by simp only [List.length_nil]; omega)
    refine ev_pos h (Ev.bind (show Ev (fun k => impl_laid.f k xs right) _ from hr) (ev_now ?_))
    rw [if_pos h]; rfl
  · exact ev_neg h (ev_now (by rw [if_neg h]))
theorem caBegin_ev (xs : List Int) (right : Bool) (h : goodC xs = true) : Ev (fun k => spec_caBegin.f k xs right) (begL right xs 1 ++ [begEnd right xs 1]) := by
  obtain ⟨g1, g2, g3⟩ := goodC_true h
  exact caBegin_l right xs (by omega) g3 xs 0 1 [] (by omega) rfl (by omega) (by omega) (by simp only [List.length_nil]; omega)

def blL (right : Bool) : List Int → Int → List Int
  | [], _ => []
  | n :: ns, p => (if right = true ∧ p % 2 = 0 then [p] else []) ++ blL right ns (begP right p + n)
theorem blL_len (right : Bool) : ∀ (ns : List Int) (p : Int), (blL right ns p).length ≤ ns.length
  | [], _ => by simp [blL]
  | n :: ns, p => by
    have := blL_len right ns (begP right p + n)
    rw [blL, List.length_append, List.length_cons]
    split <;> simp <;> omega
theorem laid2_l (right : Bool) (xs : List Int) (hn : xs.length ≤ 1000) (hb : ∀ n ∈ xs, 1 ≤ n ∧ n ≤ 120) : ∀ (ys : List Int) (i p : Int) (out bl : List Int), 0 ≤ i → xs.drop i.toNat = ys → 1 ≤ p → p + 121 * ys.length ≤ 1000000 → out.length + ys.length ≤ 100000 → bl.length + ys.length ≤ 100000 →
    Ev (fun k => impl_laid.l0 k right out bl p xs (xs.length : Int) i) (out ++ begL right ys p, bl ++ blL right ys p, begEnd right ys p - 1) := by
  intro ys
  induction ys with
  | nil =>
    intro i p out bl h0 h hp hpb ho _
    have := drop_nil h0 h
    simp only [List.length_nil] at hpb
    refine Ev.step (fun k => impl_laid.l0.eq_2 ..) (ev_neg (by omega) ?_)
    rw [w64 (x := p - 1) (by omega) (by omega)]
    exact ev_now (by simp [begL, blL, begEnd])
  | cons y ys ih =>
    intro i p out bl h0 h hp hpb ho hbl
    obtain ⟨h1, h2, h3, _⟩ := drop_cons h0 h
    have hy := hb y (List.mem_of_mem_drop (by rw [h]; exact List.mem_cons_self))
    have hq := begP_bd right p
    simp only [List.length_cons] at hpb ho hbl
    have fin : out ++ [begP right p] ++ begL right ys (begP right p + y) = out ++ begL right (y :: ys) p := by simp [begL]
    refine Ev.step (fun k => impl_laid.l0.eq_2 ..) ?_
    rw [h2, tmod2 p (by omega), w64 (x := i + 1) (by omega) (by omega), w64 (x := p + 1) (by omega) (by omega), w64 (x := p + 1 + y) (by omega) (by omega), w64 (x := p + y) (by omega) (by omega)]
    by_cases c1 : right = true
    · by_cases c2 : p % 2 = 0
      · have e : begP right p = p + 1 := by unfold begP; rw [if_pos ⟨c1, c2⟩]
        have hr := ih (i + 1) (begP right p + y) (out ++ [begP right p]) (bl ++ [p]) (by omega) h3 (by omega) (by omega) (by simp only [List.length_append, List.length_cons, List.length_nil]; omega) (by simp only [List.length_append, List.length_cons, List.length_nil]; omega)
        have fb : bl ++ [p] ++ blL right ys (begP right p + y) = bl ++ blL right (y :: ys) p := by rw [blL, if_pos ⟨c1, c2⟩, List.append_assoc]
        rw [fin, fb, e] at hr
        rw [show begEnd right (y :: ys) p = begEnd right ys (p + 1 + y) from by rw [begEnd, e]]
        exact ev_pos h1 (ev_pos h0 (ev_pos h1 (ev_pos c1 (ev_pos c2 (ev_pos (by omega) (ev_pos (by omega) hr))))))
      · have e : begP right p = p := by unfold begP; rw [if_neg (fun z => c2 z.2)]
        have hr := ih (i + 1) (begP right p + y) (out ++ [begP right p]) bl (by omega) h3 (by omega) (by omega) (by simp only [List.length_append, List.length_cons, List.length_nil]; omega) (by omega)
        have fb : bl ++ blL right ys (begP right p + y) = bl ++ blL right (y :: ys) p := by rw [blL, if_neg (fun z => c2 z.2), List.nil_append]
        rw [fin, fb, e] at hr
        rw [show begEnd right (y :: ys) p = begEnd right ys (p + y) from by rw [begEnd, e]]
        exact ev_pos h1 (ev_pos h0 (ev_pos h1 (ev_pos c1 (ev_neg c2 (ev_pos (by omega) hr)))))
    · have e : begP right p = p := by unfold begP; rw [if_neg (fun z => c1 z.1)]
      have hr := ih (i + 1) (begP right p + y) (out ++ [begP right p]) bl (by omega) h3 (by omega) (by omega) (by simp only [List.length_append, List.length_cons, List.length_nil]; omega) (by omega)
      have fb : bl ++ blL right ys (begP right p + y) = bl ++ blL right (y :: ys) p := by rw [blL, if_neg (fun z => c1 z.1), List.nil_append]
      rw [fin, fb, e] at hr
      rw [show begEnd right (y :: ys) p = begEnd right ys (p + y) from by rw [begEnd, e]]
      exact ev_pos h1 (ev_pos h0 (ev_pos h1 (ev_neg c1 (ev_pos (by omega) hr))))
theorem laid_ev (xs : List Int) (right : Bool) (h : goodC xs = true) : Ev (fun k => impl_laid.f k xs right) (begL right xs 1, blL right xs 1, begEnd right xs 1 - 1) := by
  obtain ⟨g1, g2, g3⟩ := goodC_true h
  exact laid2_l right xs (by omega) g3 xs 0 1 [] [] (by omega) rfl (by omega) (by omega) (by simp only [List.length_nil]; omega) (by simp only [List.length_nil]; omega)
theorem begEnd_bd (right : Bool) : ∀ (ns : List Int) (p : Int), (∀ n ∈ ns, 1 ≤ n ∧ n ≤ 120) → p + ns.length ≤ begEnd right ns p ∧ begEnd right ns p ≤ p + 121 * ns.length
  | [], p, _ => by simp [begEnd]
  | n :: ns, p, h => by
    have h1 := h n List.mem_cons_self
    have ih := begEnd_bd right ns (begP right p + n) (fun x hx => h x (List.mem_cons_of_mem _ hx))
    have hq := begP_bd right p
    rw [begEnd, List.length_cons]; omega
def blanksM (xs : List Int) (right : Bool) : List Int × Bool := if goodC xs = true then (blL right xs 1, true) else ([], false)
def pagesM (xs : List Int) (right : Bool) : Int × Bool := if goodC xs = true then (begEnd right xs 1 - 1, true) else (0, false)
def begM (xs : List Int) (right : Bool) : List Int × Bool := if goodC xs = true then (begL right xs 1, true) else ([], false)
theorem implBlanks_ev (xs : List Int) (right : Bool) (hn : xs.length ≤ 1048576) : Ev (fun k => impl_BlanksOf.f k xs right) (blanksM xs right) := by
  unfold impl_BlanksOf.f blanksM
  refine Ev.bind (areCh_ev xs hn) ?_
  by_cases h : goodC xs = true
  · exact ev_pos h (Ev.bind (laid_ev xs right h) (ev_now (by rw [if_pos h])))
  · exact ev_neg h (ev_now (by rw [if_neg h]))
theorem implPages_ev (xs : List Int) (right : Bool) (hn : xs.length ≤ 1048576) : Ev (fun k => impl_PagesOfChapters.f k xs right) (pagesM xs right) := by
  unfold impl_PagesOfChapters.f pagesM
  refine Ev.bind (areCh_ev xs hn) ?_
  by_cases h : goodC xs = true
  · exact ev_pos h (Ev.bind (laid_ev xs right h) (ev_now (by rw [if_pos h])))
  · exact ev_neg h (ev_now (by rw [if_neg h]))
theorem specPages_ev (xs : List Int) (right : Bool) (hn : xs.length ≤ 1048576) : Ev (fun k => spec_PagesOfChapters.f k xs right) (pagesM xs right) := by
  unfold spec_PagesOfChapters.f pagesM
  refine Ev.bind (caGood_ev xs hn) ?_
  by_cases h : goodC xs = true
  · obtain ⟨g1, g2, g3⟩ := goodC_true h
    have hl := begL_length right xs 1
    have hb := begEnd_bd right xs 1 g3
    have hr : rd (begL right xs 1 ++ [begEnd right xs 1]) (xs.length : Int) = begEnd right xs 1 := by
      unfold rd
      rw [Int.toNat_natCast, List.getD_eq_getElem?_getD, List.getElem?_append_right (by omega), hl, Nat.sub_self]; rfl
    refine ev_pos h (Ev.bind (caBegin_ev xs right h) (ev_pos (by omega) (ev_pos (by rw [List.length_append]; simp; omega) ?_)))
    rw [hr, w64 (by omega) (by omega)]
    exact ev_now (by rw [if_pos h])
  · exact ev_neg h (ev_now (by rw [if_neg h]))
theorem specBeg_ev (xs : List Int) (right : Bool) (hn : xs.length ≤ 1048576) (hd : ∀ k, spec_BeginningsOf.f k xs right = (spec_caGood.f k xs).bind fun t => (if t = true then ((spec_caBegin.f k xs right).bind fun q => (if 0 ≤ (xs.length : Int) then (if (xs.length : Int) ≤ (q.length : Int) then (some ((q.take ((xs.length : Int) : Int).toNat), true)) else (none)) else (none))) else (some (([] : List Int), false)))) : Ev (fun k => spec_BeginningsOf.f k xs right) (begM xs right) := by
  refine Ev.congr hd ?_
  unfold begM
  refine Ev.bind (caGood_ev xs hn) ?_
  by_cases h : goodC xs = true
  · have hl := begL_length right xs 1
    refine ev_pos h (Ev.bind (caBegin_ev xs right h) (ev_pos (by omega) (ev_pos (by rw [List.length_append]; simp; omega) (ev_now ?_))))
    rw [if_pos h, Int.toNat_natCast, List.take_left' hl]
  · exact ev_neg h (ev_now (by rw [if_neg h]))
theorem caBlanks_l (right : Bool) (xs : List Int) (hn : xs.length ≤ 1000) (hb : ∀ n ∈ xs, 1 ≤ n ∧ n ≤ 120) (B : List Int) (hB : B.length = xs.length + 1) : ∀ (ys : List Int) (i p : Int) (out : List Int), 1 ≤ i → xs.drop i.toNat = ys → B.drop i.toNat = begL right ys p ++ [begEnd right ys p] → rd B (i - 1) + rd xs (i - 1) = p → 1 ≤ p → p + 121 * ys.length ≤ 1000000 → out.length + ys.length ≤ 100000 →
    Ev (fun k => spec_caBlanks.l0 k xs out B i) (out ++ blL right ys p) := by
  intro ys
  induction ys with
  | nil =>
    intro i p out h0 h hBd hp hp1 hpb ho
    have := drop_nil (by omega) h
    exact Ev.step (fun k => spec_caBlanks.l0.eq_2 ..) (ev_neg (by omega) (ev_now (by simp [blL])))
  | cons y ys ih =>
    intro i p out h0 h hBd hp hp1 hpb ho
    obtain ⟨h1, h2, h3, _⟩ := drop_cons (by omega) h
    have hy := hb y (List.mem_of_mem_drop (by rw [h]; exact List.mem_cons_self))
    have hq := begP_bd right p
    simp only [List.length_cons] at hpb ho
    rw [begL, List.cons_append] at hBd
    obtain ⟨b1, b2, b3, _⟩ := drop_cons (by omega) hBd
    rw [begEnd] at b3
    have nx := ih (i + 1) (begP right p + y)
    rw [show i + 1 - 1 = i from by omega, b2, h2] at nx
    refine Ev.step (fun k => spec_caBlanks.l0.eq_2 ..) ?_
    rw [w64 (x := i - 1) (by omega) (by omega), w64 (x := i + 1) (by omega) (by omega), b2, hp, w64 (x := p) (by omega) (by omega), w64 (x := begP right p - 1) (by omega) (by omega)]
    refine ev_pos h1 (ev_pos (by omega) (ev_pos (by omega) (ev_pos (by omega) (ev_pos (by omega) (ev_pos b1 ?_)))))
    by_cases c : right = true ∧ p % 2 = 0
    · have e : begP right p = p + 1 := by unfold begP; rw [if_pos c]
      refine ev_pos (by omega) (ev_pos (by omega) (ev_val (nx (out ++ [begP right p - 1]) (by omega) h3 b3 rfl (by omega) (by omega) (by simp only [List.length_append, List.length_cons, List.length_nil]; omega)) ?_))
      rw [blL, if_pos c, e, show p + 1 - 1 = p from by omega, List.append_assoc]
    · have e : begP right p = p := by unfold begP; rw [if_neg c]
      refine ev_neg (by omega) (ev_val (nx out (by omega) h3 b3 rfl (by omega) (by omega) (by omega)) ?_)
      rw [blL, if_neg c, List.nil_append]
theorem specBlanks_ev (xs : List Int) (right : Bool) (hn : xs.length ≤ 1048576) : Ev (fun k => spec_BlanksOf.f k xs right) (blanksM xs right) := by
  unfold spec_BlanksOf.f blanksM
  refine Ev.bind (caGood_ev xs hn) ?_
  by_cases h : goodC xs = true
  · obtain ⟨g1, g2, g3⟩ := goodC_true h
    have hl := begL_length right xs 1
    rw [if_pos h]
    refine ev_pos h (Ev.bind (a := blL right xs 1) ?_ (ev_now rfl))
    unfold spec_caBlanks.f
    refine Ev.bind (caBegin_ev xs right h) ?_
    rcases xs with _ | ⟨x, xs⟩
    · simp at g1
    · have hx := g3 x List.mem_cons_self
      have e1 : begP right 1 = 1 := by unfold begP; rw [if_neg (by omega)]
      simp only [List.length_cons] at g2
      have := caBlanks_l right (x :: xs) (by simp only [List.length_cons]; omega) g3 (begL right (x :: xs) 1 ++ [begEnd right (x :: xs) 1]) (by rw [List.length_append, hl]; rfl) xs 1 (begP right 1 + x) [] (by omega) rfl (by rw [begL, begEnd]; rfl) (by rw [begL]; rfl) (by omega) (by omega) (by simp only [List.length_nil]; omega)
      refine ev_val this ?_
      rw [blL, if_neg (by omega)]
  · exact ev_neg h (ev_now (by rw [if_neg h]))

def runL : Nat → Int → List Int
  | 0, _ => []
  | d + 1, p => p :: runL d (p + 1)
theorem runL_length : ∀ (d : Nat) (p : Int), (runL d p).length = d
  | 0, _ => rfl
  | d + 1, p => by rw [runL, List.length_cons, runL_length d]
theorem runL_add : ∀ (a b : Nat) (p : Int), runL (a + b) p = runL a p ++ runL b (p + a)
  | 0, b, p => by simp [runL]
  | a + 1, b, p => by
    rw [show a + 1 + b = (a + b) + 1 from by omega, runL, runL, runL_add a b (p + 1), show p + 1 + (a : Int) = p + ((a + 1 : Nat) : Int) from by omega]; rfl
theorem runL_snoc (a : Nat) (p : Int) : runL (a + 1) p = runL a p ++ [p + a] := by rw [runL_add a 1 p]; rfl
def skipL (l : Int) : Nat → Int → List Int
  | 0, _ => []
  | d + 1, p => if p = l then skipL l d (p + 1) else p :: skipL l d (p + 1)
theorem skipL_past (l : Int) : ∀ (d : Nat) (p : Int), l < p → skipL l d p = runL d p
  | 0, _, _ => rfl
  | d + 1, p, h => by rw [skipL, if_neg (by omega), skipL_past l d (p + 1) (by omega), runL]
theorem skipL_eq (l : Int) : ∀ (a : Nat) (b : Nat) (p : Int), p + a = l → skipL l (a + 1 + b) p = runL a p ++ runL b (l + 1)
  | 0, b, p, h => by
    rw [show 0 + 1 + b = b + 1 from by omega, skipL, if_pos (by omega), skipL_past l b (p + 1) (by omega), runL, List.nil_append, show p + 1 = l + 1 from by omega]
  | a + 1, b, p, h => by
    rw [show a + 1 + 1 + b = (a + 1 + b) + 1 from by omega, skipL, if_neg (by omega), skipL_eq l a b (p + 1) (by omega), runL]; rfl
def oddsL : List Int → Int → List Int
  | [], _ => []
  | y :: ys, i => if Int.tmod y 2 = 1 then i :: oddsL ys (i + 1) else oddsL ys (i + 1)
theorem oddsL_nil : ∀ (ys : List Int) (i : Int), oddsL ys i = [] → ∀ j, j < ys.length → Int.tmod (ys.getD j 0) 2 ≠ 1
  | [], _, _, j, h => by simp at h
  | y :: ys, i, h, j, hj => by
    rw [oddsL] at h
    split at h
    · cases h
    · rename_i c
      cases j with
      | zero => exact c
      | succ j => exact oddsL_nil ys (i + 1) h j (by simpa using hj)
theorem oddsL_last : ∀ (ys : List Int) (i : Int), oddsL ys i ≠ [] → ∃ k : Nat, (oddsL ys i).getLast? = some (i + k) ∧ k < ys.length ∧ Int.tmod (ys.getD k 0) 2 = 1 ∧ ∀ j, k < j → j < ys.length → Int.tmod (ys.getD j 0) 2 ≠ 1
  | [], _, h => absurd rfl h
  | y :: ys, i, h => by
    by_cases e : oddsL ys (i + 1) = []
    · have c : Int.tmod y 2 = 1 := by
        by_cases c : Int.tmod y 2 = 1
        · exact c
        · rw [oddsL, if_neg c] at h; exact absurd e h
      refine ⟨0, by rw [oddsL, if_pos c, e]; simp, by simp, c, fun j h1 h2 => ?_⟩
      obtain ⟨j, rfl⟩ : ∃ m, j = m + 1 := ⟨j - 1, by omega⟩
      exact oddsL_nil ys (i + 1) e j (by simpa using h2)
    · obtain ⟨k, h1, h2, h3, h4⟩ := oddsL_last ys (i + 1) e
      refine ⟨k + 1, ?_, by simpa using h2, h3, fun j g1 g2 => ?_⟩
      · rw [oddsL]
        split
        · rcases hh : oddsL ys (i + 1) with _ | ⟨z, zs⟩
          · exact absurd hh e
          · rw [hh] at h1
            rw [List.getLast?_cons_cons, h1]
            congr 1; omega
        · rw [h1]; congr 1; omega
      · obtain ⟨j, rfl⟩ : ∃ m, j = m + 1 := ⟨j - 1, by omega⟩
        exact h4 j (by omega) (by simpa using g2)
theorem oddsL_length : ∀ (ys : List Int) (i : Int), (oddsL ys i).length ≤ ys.length
  | [], _ => by simp [oddsL]
  | y :: ys, i => by
    have := oddsL_length ys (i + 1)
    rw [oddsL]
    split <;> simp only [List.length_cons] <;> omega
theorem tmodO {y : Int} (h : 1 ≤ y) : Int.tmod y 2 = 0 ∨ Int.tmod y 2 = 1 := by
  rw [Int.tmod_eq_emod_of_nonneg (by omega)]; omega
theorem caOdd_l (xs : List Int) (hn : xs.length ≤ 1000) (hb : ∀ n ∈ xs, 1 ≤ n ∧ n ≤ 120) : ∀ (ys : List Int) (i s : Int), 0 ≤ i → xs.drop i.toNat = ys → 0 ≤ s → s + ys.length ≤ 100000 →
    Ev (fun k => spec_caOdd.l0 k s xs (xs.length : Int) i) (s + (oddsL ys i).length) := by
  intro ys
  induction ys with
  | nil =>
    intro i s h0 h _ _
    have := drop_nil h0 h
    refine Ev.step (fun k => spec_caOdd.l0.eq_2 ..) ?_
    exact ev_neg (by omega) (ev_now (by simp [oddsL]))
  | cons y ys ih =>
    intro i s h0 h hs hl
    obtain ⟨h1, h2, h3, _⟩ := drop_cons h0 h
    have hy := hb y (List.mem_of_mem_drop (by rw [h]; exact List.mem_cons_self))
    simp only [List.length_cons] at hl
    refine Ev.step (fun k => spec_caOdd.l0.eq_2 ..) ?_
    rw [h2, w64 (x := i + 1) (by omega) (by omega)]
    refine ev_pos h1 (ev_pos h0 (ev_pos h1 ?_))
    rcases tmodO hy.1 with e | e
    · rw [e, w64 (by omega) (by omega), Int.add_zero]
      exact ev_val (ih (i + 1) s (by omega) h3 hs (by omega)) (by rw [oddsL, if_neg (by omega)])
    · rw [e, w64 (by omega) (by omega)]
      refine ev_val (ih (i + 1) (s + 1) (by omega) h3 (by omega) (by omega)) ?_
      rw [oddsL, if_pos e, List.length_cons]; omega
theorem caOdd_ev (xs : List Int) (hn : xs.length ≤ 1000) (hb : ∀ n ∈ xs, 1 ≤ n ∧ n ≤ 120) : Ev (fun k => spec_caOdd.f k xs) ((oddsL xs 0).length : Int) := by
  unfold spec_caOdd.f
  exact ev_val (caOdd_l xs hn hb xs 0 0 (by omega) rfl (by omega) (by omega)) (by omega)
theorem odds_l (xs : List Int) (hn : xs.length ≤ 1000) : ∀ (ys : List Int) (i : Int) (out : List Int), 0 ≤ i → xs.drop i.toNat = ys → out.length + ys.length ≤ 100000 →
    Ev (fun k => impl_odds.l0 k out xs (xs.length : Int) i) (out ++ oddsL ys i) := by
  intro ys
  induction ys with
  | nil =>
    intro i out h0 h _
    have := drop_nil h0 h
    refine Ev.step (fun k => impl_odds.l0.eq_2 ..) ?_
    exact ev_neg (by omega) (ev_now (by simp [oddsL]))
  | cons y ys ih =>
    intro i out h0 h hl
    obtain ⟨h1, h2, h3, _⟩ := drop_cons h0 h
    simp only [List.length_cons] at hl
    refine Ev.step (fun k => impl_odds.l0.eq_2 ..) ?_
    rw [h2, w64 (x := i + 1) (by omega) (by omega)]
    refine ev_pos h1 (ev_pos h0 (ev_pos h1 ?_))
    by_cases c : Int.tmod y 2 = 1
    · refine ev_pos c (ev_pos (by omega) (ev_val (ih (i + 1) _ (by omega) h3 (by simp only [List.length_append, List.length_cons, List.length_nil]; omega)) ?_))
      rw [oddsL, if_pos c]; simp
    · refine ev_neg c (ev_val (ih (i + 1) _ (by omega) h3 (by omega)) ?_)
      rw [oddsL, if_neg c]
theorem specJ1 (xs : List Int) (l : Int) (hn : xs.length ≤ 1000) : Ev (fun k => spec_FirstFewestBlanks.j1 k xs l) (skipL l xs.length 0 ++ [l], true) := by
  have key : ∀ (d : Nat) (i : Int) (out : List Int), 0 ≤ i → i + d = (xs.length : Int) → out.length + d ≤ 100000 → Ev (fun k => spec_FirstFewestBlanks.l1 k l out (xs.length : Int) i) (out ++ skipL l d i ++ [l], true) := by
    intro d
    induction d with
    | zero =>
      intro i out h0 h hl
      refine Ev.step (fun k => spec_FirstFewestBlanks.l1.eq_2 ..) ?_
      exact ev_neg (by omega) (ev_pos (by omega) (ev_now (by simp [skipL])))
    | succ d ih =>
      intro i out h0 h hl
      refine Ev.step (fun k => spec_FirstFewestBlanks.l1.eq_2 ..) ?_
      rw [w64 (x := i + 1) (by omega) (by omega)]
      refine ev_pos (by omega) ?_
      by_cases c : i = l
      · exact ev_pos c (ev_val (ih (i + 1) out (by omega) (by omega) (by omega)) (by rw [skipL, if_pos c]))
      · refine ev_neg c (ev_pos (by omega) (ev_val (ih (i + 1) _ (by omega) (by omega) (by simp only [List.length_append, List.length_cons, List.length_nil]; omega)) ?_))
        rw [skipL, if_neg c]; simp
  refine Ev.step (fun k => spec_FirstFewestBlanks.j1.eq_2 ..) ?_
  exact ev_val (key xs.length 0 [] (by omega) (by omega) (by simp only [List.length_nil]; omega)) (by simp)
/-- The chapter that is set last. -/
def lastC (xs : List Int) : Nat := if oddsL xs 0 = [] then xs.length - 1 else ((oddsL xs 0).getLastD 0).toNat
theorem lastC_odd (xs : List Int) (h : oddsL xs 0 ≠ []) : (oddsL xs 0).getLast? = some ((lastC xs : Nat) : Int) ∧ lastC xs < xs.length ∧ Int.tmod (xs.getD (lastC xs) 0) 2 = 1 ∧ ∀ j, lastC xs < j → j < xs.length → Int.tmod (xs.getD j 0) 2 ≠ 1 := by
  obtain ⟨k, h1, h2, h3, h4⟩ := oddsL_last xs 0 h
  have e : lastC xs = k := by
    unfold lastC
    rw [if_neg h, List.getLastD_eq_getLast?, h1]
    simp
  rw [e]
  exact ⟨by rw [h1]; congr 1; omega, h2, h3, h4⟩
def orderM (xs : List Int) : List Int × Bool := if goodC xs = true then (skipL (lastC xs : Int) xs.length 0 ++ [((lastC xs : Nat) : Int)], true) else ([], false)
theorem skipL_length (l : Int) : ∀ (d : Nat) (p : Int), (skipL l d p).length ≤ d
  | 0, _ => by simp [skipL]
  | d + 1, p => by
    have := skipL_length l d (p + 1)
    rw [skipL]
    split
    · omega
    · simp only [List.length_cons]; omega
theorem orderM_small (xs : List Int) : (orderM xs).1.length ≤ 1000 := by
  unfold orderM
  split
  · rename_i h
    have := (goodC_true h).2.1
    have := skipL_length (lastC xs : Int) xs.length 0
    simp only [List.length_append, List.length_cons, List.length_nil]; omega
  · simp
theorem specOrder_ev (xs : List Int) (hn : xs.length ≤ 1048576) : Ev (fun k => spec_FirstFewestBlanks.f k xs) (orderM xs) := by
  unfold spec_FirstFewestBlanks.f orderM
  refine Ev.bind (caGood_ev xs hn) ?_
  by_cases h : goodC xs = true
  · have hg := goodC_true h
    rw [if_pos h]
    refine ev_pos h ?_
    rw [w64 (x := (xs.length : Int) - 1) (by omega) (by omega)]
    have hodd := caOdd_ev xs (by omega) hg.2.2
    by_cases e : oddsL xs 0 = []
    · have hl : ((lastC xs : Nat) : Int) = (xs.length : Int) - 1 := by unfold lastC; rw [if_pos e]; omega
      rw [hl]
      refine Ev.step (fun k => spec_FirstFewestBlanks.l0.eq_2 ..) ?_
      by_cases c : (xs.length : Int) - 1 > 0
      · exact ev_pos c (Ev.bind hodd (ev_neg (by rw [e]; simp) (specJ1 xs _ (by omega))))
      · exact ev_neg c (specJ1 xs _ (by omega))
    · obtain ⟨_, o2, o3, o4⟩ := lastC_odd xs e
      have hpos : 0 < (oddsL xs 0).length := List.length_pos_iff.2 e
      have key : ∀ (d : Nat), lastC xs + d < xs.length → Ev (fun k => spec_FirstFewestBlanks.l0 k xs ((lastC xs + d : Nat) : Int)) (skipL (lastC xs : Int) xs.length 0 ++ [((lastC xs : Nat) : Int)], true) := by
        intro d
        induction d with
        | zero =>
          intro hd
          refine Ev.step (fun k => spec_FirstFewestBlanks.l0.eq_2 ..) ?_
          rw [Nat.add_zero]
          by_cases c : ((lastC xs : Nat) : Int) > 0
          · refine ev_pos c (Ev.bind hodd (ev_pos (by omega) (ev_pos (by omega) (ev_pos (by omega) (ev_neg ?_ (specJ1 xs _ (by omega)))))))
            have : rd xs ((lastC xs : Nat) : Int) = xs.getD (lastC xs) 0 := by unfold rd; rw [Int.toNat_natCast]
            rw [this, o3]; omega
          · exact ev_neg c (specJ1 xs _ (by omega))
        | succ d ih =>
          intro hd
          refine Ev.step (fun k => spec_FirstFewestBlanks.l0.eq_2 ..) ?_
          rw [w64 (x := ((lastC xs + (d + 1) : Nat) : Int) - 1) (by omega) (by omega), show ((lastC xs + (d + 1) : Nat) : Int) - 1 = ((lastC xs + d : Nat) : Int) from by omega]
          refine ev_pos (by omega) (Ev.bind hodd (ev_pos (by omega) (ev_pos (by omega) (ev_pos (by omega) (ev_pos ?_ (ih (by omega)))))))
          have e1 : rd xs ((lastC xs + (d + 1) : Nat) : Int) = xs.getD (lastC xs + (d + 1)) 0 := by unfold rd; rw [Int.toNat_natCast]
          have hne := o4 (lastC xs + (d + 1)) (by omega) hd
          have hmem : xs.getD (lastC xs + (d + 1)) 0 ∈ xs := by
            rw [List.getD_eq_getElem?_getD, List.getElem?_eq_getElem hd]; exact List.getElem_mem hd
          rw [e1]
          rcases tmodO (hg.2.2 _ hmem).1 with g | g
          · exact g
          · exact absurd g hne
      have := key (xs.length - 1 - lastC xs) (by omega)
      rw [show ((lastC xs + (xs.length - 1 - lastC xs) : Nat) : Int) = (xs.length : Int) - 1 from by omega] at this
      exact this
  · rw [if_neg h]
    exact ev_neg h (ev_now rfl)
theorem moved_eq (n a : Nat) (h : a < n) (hn : n ≤ 1048576) : impl_moved.f (runL n 0) (a : Int) ((n : Int) - 1) = some (skipL (a : Int) n 0 ++ [(a : Int)]) := by
  obtain ⟨b, rfl⟩ : ∃ b, n = a + 1 + b := ⟨n - a - 1, by omega⟩
  have hr : runL (a + 1 + b) 0 = runL a 0 ++ (a : Int) :: runL b ((a : Int) + 1) := by
    rw [runL_add (a + 1) b 0, runL_snoc a 0, List.append_assoc, show (0 : Int) + (a : Int) = a from by omega, show (0 : Int) + ((a + 1 : Nat) : Int) = (a : Int) + 1 from by omega]; rfl
  have ha := runL_length a 0
  have hb := runL_length b ((a : Int) + 1)
  have hlen : (runL (a + 1 + b) 0).length = a + 1 + b := runL_length _ _
  unfold impl_moved.f
  rw [hlen, if_pos (by omega), if_pos (by omega), if_pos (by omega), if_pos (by omega), if_pos (by omega), Int.toNat_natCast, skipL_eq (a : Int) a b 0 (by omega), hr]
  have e1 : (runL a 0 ++ (a : Int) :: runL b ((a : Int) + 1)).take a = runL a 0 := List.take_left' ha
  have e2 : (runL a 0 ++ (a : Int) :: runL b ((a : Int) + 1)).drop (a + 1) = runL b ((a : Int) + 1) := by
    rw [show runL a 0 ++ (a : Int) :: runL b ((a : Int) + 1) = (runL a 0 ++ [(a : Int)]) ++ runL b ((a : Int) + 1) from by simp, List.drop_left' (by simp [ha])]
  have e3 : rd (runL a 0 ++ (a : Int) :: runL b ((a : Int) + 1)) (a : Int) = a := by
    unfold rd
    rw [Int.toNat_natCast, List.getD_eq_getElem?_getD, List.getElem?_append_right (by omega), ha, Nat.sub_self]; rfl
  have e4 : (runL a 0 ++ runL b (0 + (a : Int) + 1)).take (((a + 1 + b : Nat) : Int) - 1).toNat = runL a 0 ++ runL b (0 + (a : Int) + 1) := List.take_of_length_le (by rw [List.length_append, runL_length, runL_length]; omega)
  have e5 : (runL a 0 ++ runL b (0 + (a : Int) + 1)).drop (((a + 1 + b : Nat) : Int) - 1).toNat = [] := List.drop_eq_nil_of_le (by rw [List.length_append, runL_length, runL_length]; omega)
  rw [e1, e2, e3]
  rw [show (a : Int) + 1 = 0 + (a : Int) + 1 from by omega, e4, e5, List.append_nil]
theorem implOrder_l (xs : List Int) (h : goodC xs = true) : ∀ (d : Nat) (i : Int), 0 ≤ i → i + d = (xs.length : Int) →
    Ev (fun k => impl_FirstFewestBlanks.l0 k (runL i.toNat 0) (oddsL xs 0) (xs.length : Int) i) (skipL (lastC xs : Int) xs.length 0 ++ [((lastC xs : Nat) : Int)], true) := by
  have hg := goodC_true h
  intro d
  induction d with
  | zero =>
    intro i h0 hi
    have hin : i.toNat = xs.length := by omega
    have hol := oddsL_length xs 0
    refine Ev.step (fun k => impl_FirstFewestBlanks.l0.eq_2 ..) (ev_neg (by omega) ?_)
    rw [hin, runL_length]
    by_cases e : oddsL xs 0 = []
    · rw [e]
      refine ev_neg (by simp) (ev_now ?_)
      have hl : lastC xs = xs.length - 1 := by unfold lastC; rw [if_pos e]
      obtain ⟨m, hm⟩ : ∃ m, xs.length = m + 1 := ⟨xs.length - 1, by omega⟩
      rw [hl, hm, Nat.add_sub_cancel, runL_snoc, show skipL (m : Int) (m + 1) 0 = runL m 0 from by
        have := skipL_eq (m : Int) m 0 0 (by omega)
        rw [Nat.add_zero] at this
        rw [this]; simp [runL]]
      rw [show (0 : Int) + (m : Int) = m from by omega]
    · obtain ⟨o1, o2, _, _⟩ := lastC_odd xs e
      have hpos : 0 < (oddsL xs 0).length := List.length_pos_iff.2 e
      have hrd : rd (oddsL xs 0) (((oddsL xs 0).length : Int) - 1) = ((lastC xs : Nat) : Int) := by
        unfold rd
        rw [List.getD_eq_getElem?_getD, show (((oddsL xs 0).length : Int) - 1).toNat = (oddsL xs 0).length - 1 from by omega, ← List.getLast?_eq_getElem?, o1]; rfl
      rw [w64 (x := ((oddsL xs 0).length : Int) - 1) (by omega) (by omega), w64 (x := (xs.length : Int) - 1) (by omega) (by omega), hrd, moved_eq xs.length (lastC xs) o2 (by omega)]
      exact ev_pos (by omega) (ev_pos (by omega) (ev_pos (by omega) (ev_now rfl)))
  | succ d ih =>
    intro i h0 hi
    refine Ev.step (fun k => impl_FirstFewestBlanks.l0.eq_2 ..) ?_
    rw [w64 (x := i + 1) (by omega) (by omega), runL_length]
    have := ih (i + 1) (by omega) (by omega)
    rw [show (i + 1).toNat = i.toNat + 1 from by omega, runL_snoc, show (0 : Int) + (i.toNat : Int) = i from by omega] at this
    exact ev_pos (by omega) (ev_pos (by omega) this)
theorem implOrder_ev (xs : List Int) (hn : xs.length ≤ 1048576) : Ev (fun k => impl_FirstFewestBlanks.f k xs) (orderM xs) := by
  unfold impl_FirstFewestBlanks.f orderM
  refine Ev.bind (areCh_ev xs hn) ?_
  by_cases h : goodC xs = true
  · have hg := goodC_true h
    rw [if_pos h]
    have ho : Ev (fun k => impl_odds.f k xs) (oddsL xs 0) := by
      unfold impl_odds.f
      exact ev_val (odds_l xs (by omega) xs 0 [] (by omega) rfl (by simp only [List.length_nil]; omega)) (List.nil_append _)
    exact ev_pos h (Ev.bind ho (implOrder_l xs h xs.length 0 (by omega) (by omega)))
  · rw [if_neg h]
    exact ev_neg h (ev_now rfl)

def restL (xs : List Int) (f : Nat) : List Int := xs.take f ++ xs.drop (f + 1)
def mvL (xs : List Int) (f t : Nat) : List Int := (restL xs f).take t ++ [xs.getD f 0] ++ (restL xs f).drop t
theorem restL_len (xs : List Int) (f : Nat) (h : f < xs.length) : (restL xs f).length = xs.length - 1 := by
  unfold restL; rw [List.length_append, List.length_take, List.length_drop]; omega
theorem mvL_len (xs : List Int) (f t : Nat) (h : f < xs.length) (ht : t < xs.length) : (mvL xs f t).length = xs.length := by
  have := restL_len xs f h
  unfold mvL
  simp only [List.length_append, List.length_take, List.length_drop, List.length_cons, List.length_nil]; omega
theorem mvL_at (xs : List Int) (f t : Nat) (h : f < xs.length) (ht : t < xs.length) : (mvL xs f t).getD t 0 = xs.getD f 0 := by
  have hr := restL_len xs f h
  have hl : ((restL xs f).take t).length = t := by rw [List.length_take]; omega
  unfold mvL
  rw [List.append_assoc, List.getD_eq_getElem?_getD, List.getElem?_append_right (by omega), hl, Nat.sub_self]; rfl
theorem mvL_rest (xs : List Int) (f t : Nat) (h : f < xs.length) (ht : t < xs.length) : restL (mvL xs f t) t = restL xs f := by
  have hr := restL_len xs f h
  have hl : ((restL xs f).take t).length = t := by rw [List.length_take]; omega
  have e : mvL xs f t = (restL xs f).take t ++ xs.getD f 0 :: (restL xs f).drop t := by unfold mvL; simp
  have e2 : mvL xs f t = ((restL xs f).take t ++ [xs.getD f 0]) ++ (restL xs f).drop t := rfl
  have e3 : ((restL xs f).take t ++ [xs.getD f 0]).length = t + 1 := by simp [hl]
  have h1 : (mvL xs f t).take t = (restL xs f).take t := by rw [e]; exact List.take_left' hl
  have h2 : (mvL xs f t).drop (t + 1) = (restL xs f).drop t := by rw [e2]; exact List.drop_left' e3
  unfold restL at h1 h2 ⊢
  rw [h1, h2]
  exact List.take_append_drop t _
theorem mvL_back (xs : List Int) (f t : Nat) (h : f < xs.length) (ht : t < xs.length) : mvL (mvL xs f t) t f = xs := by
  have h1 := mvL_rest xs f t h ht
  have h2 := mvL_at xs f t h ht
  have e : mvL (mvL xs f t) t f = (restL (mvL xs f t) t).take f ++ [(mvL xs f t).getD t 0] ++ (restL (mvL xs f t) t).drop f := rfl
  rw [e, h1, h2]
  have hl : (xs.take f).length = f := by rw [List.length_take]; omega
  have e1 : (restL xs f).take f = xs.take f := by unfold restL; exact List.take_left' hl
  have e2 : (restL xs f).drop f = xs.drop (f + 1) := by unfold restL; exact List.drop_left' hl
  rw [e1, e2, List.append_assoc, List.singleton_append]
  have e3 : xs.getD f 0 = xs[f] := by rw [List.getD_eq_getElem?_getD, List.getElem?_eq_getElem h]; rfl
  rw [e3, ← List.drop_eq_getElem_cons h, List.take_append_drop]
theorem mvL_good (xs : List Int) (f t : Nat) (h : f < xs.length) (ht : t < xs.length) (hg : goodC xs = true) : goodC (mvL xs f t) = true := by
  obtain ⟨g1, g2, g3⟩ := goodC_true hg
  have hm : ∀ n ∈ mvL xs f t, n ∈ xs := by
    have hrm : ∀ n ∈ restL xs f, n ∈ xs := fun n hn => by
      unfold restL at hn
      rcases List.mem_append.1 hn with q | q
      · exact List.mem_of_mem_take q
      · exact List.mem_of_mem_drop q
    intro n hn
    unfold mvL at hn
    rcases List.mem_append.1 hn with q | q
    · rcases List.mem_append.1 q with q | q
      · exact hrm n (List.mem_of_mem_take q)
      · simp only [List.mem_singleton] at q
        rw [q, List.getD_eq_getElem?_getD, List.getElem?_eq_getElem h]
        exact List.getElem_mem h
    · exact hrm n (List.mem_of_mem_drop q)
  unfold goodC
  rw [mvL_len xs f t h ht, decide_eq_true (⟨g1, g2⟩ : 1 ≤ xs.length ∧ xs.length ≤ 12), decide_eq_true (fun n hn => g3 n (hm n hn))]; rfl
def mvB (xs : List Int) (f t : Int) : Bool := goodC xs && (decide (0 ≤ f ∧ f ≤ (xs.length : Int) - 1) && decide (0 ≤ t ∧ t ≤ (xs.length : Int) - 1))
def mvM (xs : List Int) (f t : Int) : List Int × Bool := if mvB xs f t = true then (mvL xs f.toNat t.toNat, true) else ([], false)
theorem mvB_true {xs : List Int} {f t : Int} (h : mvB xs f t = true) : goodC xs = true ∧ (0 ≤ f ∧ f ≤ (xs.length : Int) - 1) ∧ 0 ≤ t ∧ t ≤ (xs.length : Int) - 1 := by simpa [mvB] using h
theorem implMove_ev (xs : List Int) (f t : Int) (hn : xs.length ≤ 1048576) : Ev (fun k => impl_MoveChapter.f k xs f t) (mvM xs f t) := by
  have no : mvB xs f t = false → (([] : List Int), false) = mvM xs f t := fun h => by unfold mvM; rw [h]; rfl
  unfold impl_MoveChapter.f
  rw [w64 (x := (xs.length : Int) - 1) (by omega) (by omega)]
  refine Ev.bind (areCh_ev xs hn) ?_
  by_cases h : goodC xs = true
  · have hg := goodC_true h
    refine ev_pos h (ev_some (within_eq ..) ?_)
    by_cases c1 : 0 ≤ f ∧ f ≤ (xs.length : Int) - 1
    · refine ev_pos (decide_eq_true c1) (ev_some (within_eq ..) ?_)
      by_cases c2 : 0 ≤ t ∧ t ≤ (xs.length : Int) - 1
      · have hb : mvB xs f t = true := by unfold mvB; rw [h, decide_eq_true c1, decide_eq_true c2]; rfl
        refine ev_pos (decide_eq_true c2) (ev_some (a := mvL xs f.toNat t.toNat) ?_ (ev_now (by unfold mvM; rw [if_pos hb])))
        unfold impl_moved.f
        rw [if_pos c1.1, if_pos (by omega), if_pos c2.1, if_pos (by omega), if_pos (by omega)]; rfl
      · exact ev_neg (by rw [decide_eq_false c2]; simp) (ev_now (no (by unfold mvB; rw [decide_eq_false c2]; simp)))
    · exact ev_neg (by rw [decide_eq_false c1]; simp) (ev_now (no (by unfold mvB; rw [decide_eq_false c1]; simp)))
  · exact ev_neg h (ev_now (no (by unfold mvB; rw [Bool.eq_false_iff.2 h]; rfl)))
theorem specMove_ev (xs : List Int) (f t : Int) (hn : xs.length ≤ 1048576) : Ev (fun k => spec_MoveChapter.f k xs f t) (mvM xs f t) := by
  have no : ∀ b : Bool, b = true → mvB xs f t = false → Ev (fun k => spec_MoveChapter.j0 k xs f t b) (mvM xs f t) := fun b hb h => by
    refine Ev.step (fun k => spec_MoveChapter.j0.eq_2 ..) (ev_pos hb (ev_now ?_))
    unfold mvM; rw [h]; rfl
  unfold spec_MoveChapter.f
  rw [w64 (x := (xs.length : Int) - 1) (by omega) (by omega)]
  refine Ev.bind (caGood_ev xs hn) ?_
  by_cases h : goodC xs = true
  · have hg := goodC_true h
    refine ev_pos h (ev_some (l1In_eq ..) ?_)
    by_cases c1 : 0 ≤ f ∧ f ≤ (xs.length : Int) - 1
    · refine ev_pos (decide_eq_true c1) (ev_some (l1In_eq ..) ?_)
      by_cases c2 : 0 ≤ t ∧ t ≤ (xs.length : Int) - 1
      · have hb : mvB xs f t = true := by unfold mvB; rw [h, decide_eq_true c1, decide_eq_true c2]; rfl
        have own : ∀ l : List Int, l.length ≤ 1000 → spec_l1Own.f l = some l := fun l hl => by
          unfold spec_l1Own.f
          simp only [Option.bind_some, List.length_nil, List.nil_append]
          rw [if_pos (by omega)]
        have ht1 : (xs.take f.toNat).length = f.toNat := by rw [List.length_take]; omega
        have hrl := restL_len xs f.toNat (by omega)
        have hw : wrap64 (f + 1) = f + 1 := w64 (by omega) (by omega)
        have hr : xs.take f.toNat ++ xs.drop (f + 1).toNat = restL xs f.toNat := by unfold restL; rw [show (f + 1).toNat = f.toNat + 1 from by omega]
        have ht2 : ((restL xs f.toNat).take t.toNat).length = t.toNat := by rw [List.length_take]; omega
        have hx : rd xs f = xs.getD f.toNat 0 := rfl
        rw [decide_eq_true c2]
        refine Ev.step (fun k => spec_MoveChapter.j0.eq_2 ..) (ev_neg (by simp) (ev_pos c1.1 (ev_pos (by omega) (ev_some (own _ (by omega)) ?_))))
        rw [hw]
        refine ev_pos (by omega) (ev_pos (by omega) (ev_pos (by rw [List.length_drop]; omega) (ev_some rfl ?_)))
        rw [hr]
        refine ev_pos c2.1 (ev_pos (by omega) (ev_some (own _ (by omega)) (ev_pos (by omega) (ev_some rfl ?_))))
        refine ev_pos (by simp only [List.length_cons, List.length_nil]; omega) (ev_some rfl (ev_some rfl (ev_pos (by simp only [List.length_append, List.length_cons, List.length_nil, List.length_drop]; omega) (ev_now ?_))))
        unfold mvM
        rw [if_pos hb, hx]; rfl
      · rw [decide_eq_false c2]
        exact no _ rfl (by unfold mvB; rw [decide_eq_false c2]; simp)
    · exact ev_neg (by rw [decide_eq_false c1]; simp) (no _ rfl (by unfold mvB; rw [decide_eq_false c1]; simp))
  · exact ev_neg h (no _ rfl (by unfold mvB; rw [Bool.eq_false_iff.2 h]; rfl))

theorem mx_eq (a b : Int) : mx a b = max a b := by unfold mx; split <;> omega
theorem mostE (a b : Int) : spec_l1Most.f a b = some (max a b) := by
  unfold spec_l1Most.f
  split
  · congr 1; omega
  · congr 1; omega
theorem implOdds_ev (xs : List Int) (hn : xs.length ≤ 1000) : Ev (fun k => impl_odds.f k xs) (oddsL xs 0) := by
  unfold impl_odds.f
  exact ev_val (odds_l xs hn xs 0 [] (by omega) rfl (by simp only [List.length_nil]; omega)) (List.nil_append _)
def fewM (xs : List Int) : Int × Bool := if goodC xs = true then (max 0 (((oddsL xs 0).length : Int) - 1), true) else (0, false)
theorem implFew_ev (xs : List Int) (hn : xs.length ≤ 1048576) : Ev (fun k => impl_FewestBlanks.f k xs) (fewM xs) := by
  unfold impl_FewestBlanks.f fewM
  refine Ev.bind (areCh_ev xs hn) ?_
  by_cases h : goodC xs = true
  · have hg := goodC_true h
    have hl := oddsL_length xs 0
    refine ev_pos h (Ev.bind (implOdds_ev xs (by omega)) (ev_now ?_))
    rw [if_pos h, mx_eq, w64 (by omega) (by omega)]
  · exact ev_neg h (ev_now (by rw [if_neg h]))
theorem specFew_ev (xs : List Int) (hn : xs.length ≤ 1048576) : Ev (fun k => spec_FewestBlanks.f k xs) (fewM xs) := by
  unfold spec_FewestBlanks.f fewM
  refine Ev.bind (caGood_ev xs hn) ?_
  by_cases h : goodC xs = true
  · have hg := goodC_true h
    have hl := oddsL_length xs 0
    refine ev_pos h (Ev.bind (caOdd_ev xs (by omega) hg.2.2) (ev_some (mostE ..) (ev_now ?_)))
    rw [if_pos h, w64 (by omega) (by omega)]
  · exact ev_neg h (ev_now (by rw [if_neg h]))
/-- A number times the m numbers from i on. -/
def mulUp : Nat → Int → Int → Int
  | 0, _, p => p
  | m + 1, i, p => mulUp m (i + 1) (p * i)
theorem mulUp_mul (c : Int) : ∀ (m : Nat) (i p : Int), mulUp m i (c * p) = c * mulUp m i p
  | 0, _, _ => rfl
  | m + 1, i, p => by rw [mulUp, mulUp, Int.mul_assoc, mulUp_mul c m (i + 1) (p * i)]
theorem mulUp_bd : ∀ (m : Nat) (i p e : Int), 1 ≤ p → 1 ≤ i → i + m ≤ 13 → p * 12 ^ m ≤ e → 1 ≤ mulUp m i p ∧ mulUp m i p ≤ e
  | 0, _, p, e, h, _, _, hb => by rw [mulUp]; simp at hb; omega
  | m + 1, i, p, e, h, hi, him, hb => by
    rw [mulUp]
    have hp : 1 ≤ p * i := by
      have := Int.mul_le_mul h hi (by omega) (by omega : (0 : Int) ≤ p)
      simpa using this
    have h12 : (0 : Int) ≤ 12 ^ m := Int.pow_nonneg (by omega)
    refine mulUp_bd m (i + 1) (p * i) e hp (by omega) (by omega) (Int.le_trans ?_ hb)
    rw [Int.pow_succ, Int.mul_comm (12 ^ m) 12, ← Int.mul_assoc]
    exact Int.mul_le_mul_of_nonneg_right (Int.mul_le_mul_of_nonneg_left (by omega) (by omega)) h12
def lastN (xs : List Int) : Int := if oddsL xs 0 = [] then (xs.length : Int) else ((oddsL xs 0).length : Int)
def countM (xs : List Int) : Int × Bool := if goodC xs = true then (mulUp (xs.length - 2) 2 (lastN xs), true) else (0, false)
theorem lastN_bd (xs : List Int) (h : goodC xs = true) : 1 ≤ lastN xs ∧ lastN xs ≤ 12 := by
  have hg := goodC_true h
  have hl := oddsL_length xs 0
  unfold lastN
  split
  · omega
  · rename_i hne
    have := List.length_pos_iff.2 hne
    omega
theorem pow12 (m : Nat) (h : m ≤ 10) (c : Int) (_hc0 : 0 ≤ c) (hc : c ≤ 12) : c * 12 ^ m ≤ 1000000000000 := by
  have h1 : (12 : Int) ^ m ≤ 12 ^ 10 := by
    have := Nat.pow_le_pow_right (n := 12) (by omega) h
    have e : ((12 ^ m : Nat) : Int) = 12 ^ m := by simp
    have e2 : ((12 ^ 10 : Nat) : Int) = 12 ^ 10 := by simp
    rw [← e, ← e2]; omega
  have h2 : (12 : Int) ^ 10 = 61917364224 := by decide
  have h3 := Int.mul_le_mul hc h1 (Int.pow_nonneg (by omega)) (by omega)
  omega
theorem implCnt_l (xs : List Int) (L : Int) (hL : 1 ≤ L ∧ L ≤ 12) (hn : xs.length ≤ 12) : ∀ (m : Nat) (i p : Int), 2 ≤ i → i + m = max 2 (xs.length : Int) → 1 ≤ p → p * 12 ^ m ≤ 1000000000000 →
    Ev (fun k => impl_CountFewestBlanks.l0 k xs L p i) (mulUp m i p * L, true) := by
  intro m
  induction m with
  | zero =>
    intro i p hi him hp hb
    simp at hb
    have h0 : 0 ≤ p * L := Int.mul_nonneg (by omega) (by omega)
    have h1 : p * L ≤ 1000000000000 * 12 := Int.mul_le_mul hb hL.2 (by omega) (by omega)
    refine Ev.step (fun k => impl_CountFewestBlanks.l0.eq_2 ..) (ev_neg (by omega) ?_)
    rw [w64 (by omega) (by omega)]
    exact ev_now rfl
  | succ m ih =>
    intro i p hi him hp hb
    have hpi := mulUp_bd 1 i p (p * 12 ^ 1) hp (by omega) (by omega) (Int.le_refl _)
    rw [mulUp, mulUp] at hpi
    have h12 : (1 : Int) ≤ 12 ^ m := by
      have := Int.pow_pos (n := 12) (m := m) (by omega)
      omega
    have hle : p * i * 12 ^ m ≤ 1000000000000 := by
      refine Int.le_trans ?_ hb
      rw [Int.pow_succ, Int.mul_comm (12 ^ m) 12, ← Int.mul_assoc]
      exact Int.mul_le_mul_of_nonneg_right (Int.mul_le_mul_of_nonneg_left (by omega) (by omega)) (by omega)
    have hpb : p * i ≤ 1000000000000 := by
      have := Int.mul_le_mul_of_nonneg_left h12 (by omega : (0 : Int) ≤ p * i)
      omega
    refine Ev.step (fun k => impl_CountFewestBlanks.l0.eq_2 ..) (ev_pos (by omega) ?_)
    rw [w64 (x := i + 1) (by omega) (by omega), w64 (x := p * i) (by omega) (by omega)]
    exact ih (i + 1) (p * i) (by omega) (by omega) (by omega) hle
theorem specCnt_l (xs : List Int) (hn : xs.length ≤ 12) : ∀ (m : Nat) (i p : Int), 2 ≤ i → i + m = max 2 (xs.length : Int) → 1 ≤ p → p * 12 ^ m ≤ 1000000000000 →
    Ev (fun k => spec_CountFewestBlanks.l0 k xs p i) (mulUp m i p, true) := by
  intro m
  induction m with
  | zero =>
    intro i p hi him hp hb
    exact Ev.step (fun k => spec_CountFewestBlanks.l0.eq_2 ..) (ev_neg (by omega) (ev_now rfl))
  | succ m ih =>
    intro i p hi him hp hb
    have hpi := mulUp_bd 1 i p (p * 12 ^ 1) hp (by omega) (by omega) (Int.le_refl _)
    rw [mulUp, mulUp] at hpi
    have h12 : (1 : Int) ≤ 12 ^ m := by
      have := Int.pow_pos (n := 12) (m := m) (by omega)
      omega
    have hle : p * i * 12 ^ m ≤ 1000000000000 := by
      refine Int.le_trans ?_ hb
      rw [Int.pow_succ, Int.mul_comm (12 ^ m) 12, ← Int.mul_assoc]
      exact Int.mul_le_mul_of_nonneg_right (Int.mul_le_mul_of_nonneg_left (by omega) (by omega)) (by omega)
    have hpb : p * i ≤ 1000000000000 := by
      have := Int.mul_le_mul_of_nonneg_left h12 (by omega : (0 : Int) ≤ p * i)
      omega
    refine Ev.step (fun k => spec_CountFewestBlanks.l0.eq_2 ..) (ev_pos (by omega) ?_)
    rw [w64 (x := i + 1) (by omega) (by omega), w64 (x := p * i) (by omega) (by omega)]
    exact ih (i + 1) (p * i) (by omega) (by omega) (by omega) hle
theorem implCnt_ev (xs : List Int) (hn : xs.length ≤ 1048576) : Ev (fun k => impl_CountFewestBlanks.f k xs) (countM xs) := by
  unfold impl_CountFewestBlanks.f countM
  refine Ev.bind (areCh_ev xs hn) ?_
  by_cases h : goodC xs = true
  · have hg := goodC_true h
    have hL := lastN_bd xs h
    rw [if_pos h]
    refine ev_pos h (Ev.bind (implOdds_ev xs (by omega)) ?_)
    have key : Ev (fun k => impl_CountFewestBlanks.j0 k xs (lastN xs) 1) (mulUp (xs.length - 2) 2 (lastN xs), true) := by
      refine Ev.step (fun k => impl_CountFewestBlanks.j0.eq_2 ..) (ev_val (implCnt_l xs (lastN xs) hL hg.2.1 (xs.length - 2) 2 1 (by omega) (by omega) (by omega) (pow12 _ (by omega) 1 (by omega) (by omega))) ?_)
      rw [Int.mul_comm, ← mulUp_mul, Int.mul_one]
    by_cases e : oddsL xs 0 = []
    · have e2 : lastN xs = (xs.length : Int) := if_pos e
      rw [e2] at key ⊢
      exact ev_pos (by rw [e]; rfl) key
    · have e2 : lastN xs = ((oddsL xs 0).length : Int) := if_neg e
      have := List.length_pos_iff.2 e
      rw [e2] at key ⊢
      exact ev_neg (by omega) key
  · exact ev_neg h (ev_now (by rw [if_neg h]))
theorem specCnt_ev (xs : List Int) (hn : xs.length ≤ 1048576) : Ev (fun k => spec_CountFewestBlanks.f k xs) (countM xs) := by
  unfold spec_CountFewestBlanks.f countM
  refine Ev.bind (caGood_ev xs hn) ?_
  by_cases h : goodC xs = true
  · have hg := goodC_true h
    have hL := lastN_bd xs h
    rw [if_pos h]
    refine ev_pos h (Ev.bind (caOdd_ev xs (by omega) hg.2.2) ?_)
    have key : Ev (fun k => spec_CountFewestBlanks.j0 k xs (lastN xs)) (mulUp (xs.length - 2) 2 (lastN xs), true) :=
      Ev.step (fun k => spec_CountFewestBlanks.j0.eq_2 ..) (specCnt_l xs hg.2.1 (xs.length - 2) 2 (lastN xs) (by omega) (by omega) hL.1 (pow12 _ (by omega) _ (by omega) hL.2))
    by_cases e : oddsL xs 0 = []
    · have e2 : lastN xs = (xs.length : Int) := if_pos e
      rw [e2] at key ⊢
      exact ev_pos (by rw [e]; rfl) key
    · have e2 : lastN xs = ((oddsL xs 0).length : Int) := if_neg e
      have := List.length_pos_iff.2 e
      rw [e2] at key ⊢
      exact ev_neg (by omega) key
  · exact ev_neg h (ev_now (by rw [if_neg h]))
theorem countM_pos (xs : List Int) (h : goodC xs = true) : 1 ≤ (countM xs).1 := by
  have hg := goodC_true h
  have hL := lastN_bd xs h
  have e : countM xs = (mulUp (xs.length - 2) 2 (lastN xs), true) := if_pos h
  rw [e]
  exact (mulUp_bd (xs.length - 2) 2 (lastN xs) _ hL.1 (by omega) (by omega) (Int.le_refl _)).1

/-- The chapter of a page, from place i on, B the beginnings. -/
def copL (page : Int) : List Int → List Int → Int → Int × Int × Bool
  | n :: ns, b :: bs, i => if b ≤ page ∧ page ≤ b + n - 1 then (i, page - b + 1, true) else copL page ns bs (i + 1)
  | _, _, _ => (0, 0, false)
def copM (xs : List Int) (right : Bool) (page : Int) : Int × Int × Bool := if goodC xs = true then copL page xs (begL right xs 1) 0 else (0, 0, false)
theorem implCop_l (page : Int) (xs B : List Int) (hn : xs.length ≤ 1000) (hb : ∀ n ∈ xs, 1 ≤ n ∧ n ≤ 120) (hp : -100000 ≤ page ∧ page ≤ 100000) (hB : ∀ b ∈ B, 1 ≤ b ∧ b ≤ 100000) : ∀ (ys bs : List Int) (i : Int), 0 ≤ i → xs.drop i.toNat = ys → B.drop i.toNat = bs → ys.length ≤ bs.length →
    Ev (fun k => impl_ChapterOfPage.l0 k page B xs (xs.length : Int) i) (copL page ys bs i) := by
  intro ys
  induction ys with
  | nil =>
    intro bs i h0 h _ _
    have := drop_nil h0 h
    exact Ev.step (fun k => impl_ChapterOfPage.l0.eq_2 ..) (ev_neg (by omega) (ev_now (by simp [copL])))
  | cons y ys ih =>
    intro bs i h0 h hbs hl
    rcases bs with _ | ⟨b, bs⟩
    · simp at hl
    obtain ⟨h1, h2, h3, _⟩ := drop_cons h0 h
    obtain ⟨g1, g2, g3, _⟩ := drop_cons h0 hbs
    have hy := hb y (List.mem_of_mem_drop (by rw [h]; exact List.mem_cons_self))
    have hbb := hB b (List.mem_of_mem_drop (by rw [hbs]; exact List.mem_cons_self))
    refine Ev.step (fun k => impl_ChapterOfPage.l0.eq_2 ..) (ev_pos h1 (ev_pos h0 (ev_pos h1 (ev_pos g1 ?_))))
    rw [h2, g2, w64 (x := b + y) (by omega) (by omega), w64 (x := b + y - 1) (by omega) (by omega), w64 (x := page - b) (by omega) (by omega), w64 (x := page - b + 1) (by omega) (by omega), w64 (x := i + 1) (by omega) (by omega)]
    refine ev_some (within_eq ..) ?_
    by_cases c : b ≤ page ∧ page ≤ b + y - 1
    · exact ev_pos (decide_eq_true c) (ev_now (by rw [copL, if_pos c]))
    · exact ev_neg (by rw [decide_eq_false c]; simp) (ev_val (ih bs (i + 1) (by omega) h3 g3 (by simpa using hl)) (by rw [copL, if_neg c]))
theorem specCop_l (page : Int) (xs B : List Int) (hn : xs.length ≤ 1000) (hb : ∀ n ∈ xs, 1 ≤ n ∧ n ≤ 120) (hp : -100000 ≤ page ∧ page ≤ 100000) (hB : ∀ b ∈ B, 1 ≤ b ∧ b ≤ 100000) : ∀ (ys bs : List Int) (i : Int), 0 ≤ i → xs.drop i.toNat = ys → B.drop i.toNat = bs → ys.length ≤ bs.length →
    Ev (fun k => spec_ChapterOfPage.l0 k page B xs (xs.length : Int) i) (copL page ys bs i) := by
  intro ys
  induction ys with
  | nil =>
    intro bs i h0 h _ _
    have := drop_nil h0 h
    exact Ev.step (fun k => spec_ChapterOfPage.l0.eq_2 ..) (ev_neg (by omega) (ev_now (by simp [copL])))
  | cons y ys ih =>
    intro bs i h0 h hbs hl
    rcases bs with _ | ⟨b, bs⟩
    · simp at hl
    obtain ⟨h1, h2, h3, _⟩ := drop_cons h0 h
    obtain ⟨g1, g2, g3, _⟩ := drop_cons h0 hbs
    have hy := hb y (List.mem_of_mem_drop (by rw [h]; exact List.mem_cons_self))
    have hbb := hB b (List.mem_of_mem_drop (by rw [hbs]; exact List.mem_cons_self))
    refine Ev.step (fun k => spec_ChapterOfPage.l0.eq_2 ..) (ev_pos h1 (ev_pos h0 (ev_pos h1 (ev_pos g1 ?_))))
    rw [h2, g2, w64 (x := b + y) (by omega) (by omega), w64 (x := b + y - 1) (by omega) (by omega), w64 (x := page - b) (by omega) (by omega), w64 (x := page - b + 1) (by omega) (by omega), w64 (x := i + 1) (by omega) (by omega)]
    refine ev_some (l1In_eq ..) ?_
    by_cases c : b ≤ page ∧ page ≤ b + y - 1
    · exact ev_pos (decide_eq_true c) (ev_now (by rw [copL, if_pos c]))
    · exact ev_neg (by rw [decide_eq_false c]; simp) (ev_val (ih bs (i + 1) (by omega) h3 g3 (by simpa using hl)) (by rw [copL, if_neg c]))
theorem begL_bd (right : Bool) : ∀ (ns : List Int) (p : Int), (∀ n ∈ ns, 1 ≤ n ∧ n ≤ 120) → ∀ b ∈ begL right ns p, p ≤ b ∧ b ≤ p + 121 * ns.length
  | [], p, _, b, hb => by simp [begL] at hb
  | n :: ns, p, h, b, hb => by
    have hn := h n List.mem_cons_self
    have hq := begP_bd right p
    rw [begL] at hb
    rw [List.length_cons]
    rcases List.mem_cons.1 hb with rfl | hb
    · omega
    · have := begL_bd right ns (begP right p + n) (fun x hx => h x (List.mem_cons_of_mem _ hx)) b hb
      omega
theorem implCop_ev (xs : List Int) (right : Bool) (page : Int) (hn : xs.length ≤ 1048576) (hp : -100000 ≤ page ∧ page ≤ 100000) : Ev (fun k => impl_ChapterOfPage.f k xs right page) (copM xs right page) := by
  unfold impl_ChapterOfPage.f copM
  refine Ev.bind (areCh_ev xs hn) ?_
  by_cases h : goodC xs = true
  · obtain ⟨g1, g2, g3⟩ := goodC_true h
    rw [if_pos h]
    refine ev_pos h (Ev.bind (laid_ev xs right h) ?_)
    exact implCop_l page xs (begL right xs 1) (by omega) g3 hp (fun b hb => by have := begL_bd right xs 1 g3 b hb; omega) xs _ 0 (by omega) rfl rfl (by rw [begL_length]; exact Nat.le_refl _)
  · exact ev_neg h (ev_now (by rw [if_neg h]))
theorem copL_low (page : Int) : ∀ (ns bs : List Int) (i : Int), (∀ b ∈ bs, page < b) → copL page ns bs i = (0, 0, false)
  | [], _, _, _ => by simp [copL]
  | _ :: _, [], _, _ => by simp [copL]
  | n :: ns, b :: bs, i, h => by
    have := h b List.mem_cons_self
    rw [copL, if_neg (by omega)]
    exact copL_low page ns bs (i + 1) (fun x hx => h x (List.mem_cons_of_mem _ hx))
theorem specCop_ev (xs : List Int) (right : Bool) (page : Int) (hn : xs.length ≤ 1048576) (hp : -100000 ≤ page ∧ page ≤ 100000) : Ev (fun k => spec_ChapterOfPage.f k xs right page) (copM xs right page) := by
  unfold spec_ChapterOfPage.f copM
  refine Ev.bind (caGood_ev xs hn) ?_
  by_cases h : goodC xs = true
  · obtain ⟨g1, g2, g3⟩ := goodC_true h
    rw [if_pos h]
    refine ev_pos h ?_
    have hB := begL_bd right xs 1 g3
    by_cases c : page < 1
    · rw [decide_eq_true c, copL_low page xs _ 0 (fun b hb => by have := hB b hb; omega)]
      exact Ev.step (fun k => spec_ChapterOfPage.j0.eq_2 ..) (ev_pos rfl (ev_now rfl))
    · rw [decide_eq_false c]
      refine Ev.step (fun k => spec_ChapterOfPage.j0.eq_2 ..) (ev_neg (by simp) (Ev.bind (caBegin_ev xs right h) ?_))
      have hl := begL_length right xs 1
      have key : ∀ (ns bs zs : List Int) (i : Int), ns.length = bs.length → copL page ns (bs ++ zs) i = copL page ns bs i := by
        intro ns
        induction ns with
        | nil => intro bs zs i _; simp [copL]
        | cons n ns ih =>
          intro bs zs i hb
          rcases bs with _ | ⟨b, bs⟩
          · simp at hb
          · rw [List.cons_append, copL, copL, ih bs zs (i + 1) (by simpa using hb)]
      have he := begEnd_bd right xs 1 g3
      refine ev_val (specCop_l page xs _ (by omega) g3 hp (fun b hb => ?_) xs _ 0 (by omega) rfl rfl (by rw [Int.toNat_zero, List.drop_zero, List.length_append, hl]; omega)) ?_
      · rcases List.mem_append.1 hb with q | q
        · have := hB b q; omega
        · simp at q; omega
      · rw [Int.toNat_zero, List.drop_zero]
        exact key xs _ _ 0 hl.symm
  · exact ev_neg h (Ev.step (fun k => spec_ChapterOfPage.j0.eq_2 ..) (ev_pos rfl (ev_now (by rw [if_neg h]))))
theorem blL_ge (right : Bool) : ∀ (ns : List Int) (p : Int), (∀ n ∈ ns, 1 ≤ n ∧ n ≤ 120) → ∀ z ∈ blL right ns p, p ≤ z
  | [], _, _, z, hz => by simp [blL] at hz
  | n :: ns, p, h, z, hz => by
    have hn := h n List.mem_cons_self
    have hq := begP_bd right p
    rw [blL] at hz
    rcases List.mem_append.1 hz with q | q
    · split at q
      · simp at q; omega
      · simp at q
    · have := blL_ge right ns (begP right p + n) (fun x hx => h x (List.mem_cons_of_mem _ hx)) z q
      omega
/-- A page is a chapter's just if it is one of the book's, and no blank. -/
theorem cop_iff (right : Bool) (page : Int) : ∀ (ns : List Int) (p i : Int), (∀ n ∈ ns, 1 ≤ n ∧ n ≤ 120) → ((copL page ns (begL right ns p) i).2.2 = true ↔ p ≤ page ∧ page < begEnd right ns p ∧ page ∉ blL right ns p)
  | [], p, i, _ => by simp [copL, begEnd, blL]
  | n :: ns, p, i, h => by
    have hn := h n List.mem_cons_self
    have h2 : ∀ x ∈ ns, 1 ≤ x ∧ x ≤ 120 := fun x hx => h x (List.mem_cons_of_mem _ hx)
    have hq := begP_bd right p
    have he := begEnd_bd right ns (begP right p + n) h2
    have hbl : ∀ z ∈ blL right ns (begP right p + n), begP right p + n ≤ z := blL_ge right ns _ h2
    have ih := cop_iff right page ns (begP right p + n) (i + 1) h2
    rw [begL, copL, begEnd, blL, List.mem_append]
    have hhd : page ∈ (if right = true ∧ p % 2 = 0 then [p] else []) ↔ page = p ∧ begP right p = p + 1 := by
      by_cases c : right = true ∧ p % 2 = 0
      · rw [if_pos c]
        have e : begP right p = p + 1 := by unfold begP; rw [if_pos c]
        simp [e]
      · rw [if_neg c]
        have e : begP right p = p := by unfold begP; rw [if_neg c]
        simp only [List.not_mem_nil, false_iff]
        omega
    rw [hhd]
    by_cases c : begP right p ≤ page ∧ page ≤ begP right p + n - 1
    · rw [if_pos c]
      simp only [true_iff]
      refine ⟨by omega, by omega, ?_⟩
      rintro (⟨q1, q2⟩ | q)
      · omega
      · have := hbl page q; omega
    · rw [if_neg c, ih]
      constructor
      · rintro ⟨q1, q2, q3⟩
        exact ⟨by omega, q2, by rintro (⟨z1, z2⟩ | z); omega; exact q3 z⟩
      · rintro ⟨q1, q2, q3⟩
        refine ⟨?_, q2, fun z => q3 (.inr z)⟩
        have h3 : ¬ (page = p ∧ begP right p = p + 1) := fun z => q3 (.inl z)
        omega
/-- Which chapter it is, and which page of it. -/
theorem cop_at (page : Int) : ∀ (ns bs : List Int) (i : Int), (copL page ns bs i).2.2 = true → ∃ (j : Nat) (n b : Int), (copL page ns bs i).1 = i + j ∧ ns[j]? = some n ∧ bs[j]? = some b ∧ 1 ≤ (copL page ns bs i).2.1 ∧ (copL page ns bs i).2.1 ≤ n ∧ b + (copL page ns bs i).2.1 - 1 = page
  | [], _, _, h => by simp [copL] at h
  | _ :: _, [], _, h => by simp [copL] at h
  | n :: ns, b :: bs, i, h => by
    rw [copL] at h ⊢
    by_cases c : b ≤ page ∧ page ≤ b + n - 1
    · rw [if_pos c]
      exact ⟨0, n, b, by simp, rfl, rfl, by simp only; omega, by simp only; omega, by simp only; omega⟩
    · rw [if_neg c] at h ⊢
      obtain ⟨j, n', b', h1, h2, h3, h4⟩ := cop_at page ns bs (i + 1) h
      exact ⟨j + 1, n', b', by rw [h1]; omega, h2, h3, h4⟩

theorem begL_rises (right : Bool) : ∀ (ns : List Int) (p : Int), (∀ n ∈ ns, 1 ≤ n ∧ n ≤ 120) → (begL right ns p).Pairwise (· < ·)
  | [], _, _ => by simp [begL]
  | n :: ns, p, h => by
    have hn := h n List.mem_cons_self
    have h2 : ∀ x ∈ ns, 1 ≤ x ∧ x ≤ 120 := fun x hx => h x (List.mem_cons_of_mem _ hx)
    rw [begL, List.pairwise_cons]
    exact ⟨fun b hb => by have := begL_bd right ns _ h2 b hb; omega, begL_rises right ns _ h2⟩
theorem blL_rises (right : Bool) : ∀ (ns : List Int) (p : Int), (∀ n ∈ ns, 1 ≤ n ∧ n ≤ 120) → (blL right ns p).Pairwise (· < ·)
  | [], _, _ => by simp [blL]
  | n :: ns, p, h => by
    have hn := h n List.mem_cons_self
    have hq := begP_bd right p
    have h2 : ∀ x ∈ ns, 1 ≤ x ∧ x ≤ 120 := fun x hx => h x (List.mem_cons_of_mem _ hx)
    have h3 := blL_ge right ns (begP right p + n) h2
    rw [blL, List.pairwise_append]
    refine ⟨by split <;> simp, blL_rises right ns _ h2, fun a ha b hb => ?_⟩
    have := h3 b hb
    split at ha
    · simp at ha; omega
    · simp at ha
theorem begEnd_sum (right : Bool) : ∀ (ns : List Int) (p : Int), begEnd right ns p = p + ns.sum + (blL right ns p).length
  | [], p => by simp [begEnd, blL]
  | n :: ns, p => by
    rw [begEnd, begEnd_sum right ns, blL, List.length_append, List.sum_cons]
    by_cases c : right = true ∧ p % 2 = 0
    · have e : begP right p = p + 1 := by unfold begP; rw [if_pos c]
      rw [if_pos c, e]; simp; omega
    · have e : begP right p = p := by unfold begP; rw [if_neg c]
      rw [if_neg c, e]; simp; try omega
theorem blL_false : ∀ (ns : List Int) (p : Int), blL false ns p = []
  | [], _ => rfl
  | n :: ns, p => by rw [blL, if_neg (by simp), blL_false ns]; rfl
def codd : List Int → Nat
  | [] => 0
  | y :: ys => (if y % 2 = 1 then 1 else 0) + codd ys
theorem codd_app : ∀ (a b : List Int), codd (a ++ b) = codd a + codd b
  | [], b => by simp [codd]
  | y :: ys, b => by rw [List.cons_append, codd, codd, codd_app ys b]; omega
theorem oddsL_codd : ∀ (ys : List Int) (i : Int), (∀ n ∈ ys, 1 ≤ n ∧ n ≤ 120) → (oddsL ys i).length = codd ys
  | [], _, _ => rfl
  | y :: ys, i, h => by
    have hy := h y List.mem_cons_self
    have ih := oddsL_codd ys (i + 1) (fun x hx => h x (List.mem_cons_of_mem _ hx))
    rw [oddsL, codd, Int.tmod_eq_emod_of_nonneg (by omega)]
    by_cases c : y % 2 = 1
    · rw [if_pos c, if_pos c, List.length_cons, ih]; omega
    · rw [if_neg c, if_neg c, ih]; omega
theorem blL_count : ∀ (ns : List Int) (n p : Int), (blL true (ns ++ [n]) p).length = (if p % 2 = 0 then 1 else 0) + codd ns
  | [], n, p => by
    rw [List.nil_append, blL, blL, List.append_nil, codd]
    by_cases c : p % 2 = 0
    · rw [if_pos ⟨rfl, c⟩, if_pos c]; rfl
    · rw [if_neg (fun z => c z.2), if_neg c]; rfl
  | m :: ns, n, p => by
    have hb : begP true p = if p % 2 = 0 then p + 1 else p := by
      unfold begP
      by_cases c : p % 2 = 0
      · rw [if_pos ⟨rfl, c⟩, if_pos c]
      · rw [if_neg (fun z => c z.2), if_neg c]
    rw [List.cons_append, blL, List.length_append, blL_count ns n, codd, hb]
    by_cases c : p % 2 = 0
    · rw [if_pos ⟨rfl, c⟩, if_pos c, if_pos c]
      by_cases d : m % 2 = 1
      · rw [if_pos d, if_pos (by omega)]; simp; try omega
      · rw [if_neg d, if_neg (by omega)]; simp
    · rw [if_neg (fun z => c z.2), if_neg c, if_neg c]
      by_cases d : m % 2 = 1
      · rw [if_pos d, if_pos (by omega)]; simp
      · rw [if_neg d, if_neg (by omega)]; simp
theorem good_snoc (xs : List Int) (h : goodC xs = true) : ∃ ys z, xs = ys ++ [z] := by
  have hg := goodC_true h
  have hne : xs ≠ [] := fun e => by rw [e] at hg; simp at hg
  exact ⟨xs.dropLast, xs.getLast hne, (List.dropLast_concat_getLast hne).symm⟩
/-- There are no fewer blanks than the fewest. -/
theorem blanks_few (xs : List Int) (h : goodC xs = true) : (fewM xs).1 ≤ ((blL true xs 1).length : Int) ∧ (fewM xs).1 < xs.length ∧ 0 ≤ (fewM xs).1 := by
  obtain ⟨g1, g2, g3⟩ := goodC_true h
  have e : fewM xs = (max 0 (((oddsL xs 0).length : Int) - 1), true) := if_pos h
  have ho := oddsL_codd xs 0 g3
  have hol := oddsL_length xs 0
  rw [e]
  obtain ⟨ys, z, hz⟩ := good_snoc xs h
  have hc : (blL true xs 1).length = codd ys := by rw [hz, blL_count, if_neg (by omega)]; omega
  have hx : codd xs ≤ codd ys + 1 := by
    rw [hz, codd_app, codd, codd]
    split <;> omega
  refine ⟨by simp only; omega, by simp only; omega, by simp only; omega⟩
/-- The order that is told: each chapter once, the last odd one behind all. -/
theorem runL_mem : ∀ (d : Nat) (p z : Int), z ∈ runL d p ↔ p ≤ z ∧ z < p + d
  | 0, p, z => by simp [runL]
  | d + 1, p, z => by
    rw [runL, List.mem_cons, runL_mem d (p + 1) z]
    omega
theorem runL_nodup : ∀ (d : Nat) (p : Int), (runL d p).Nodup
  | 0, p => by simp [runL]
  | d + 1, p => by
    rw [runL, List.nodup_cons, runL_mem]
    exact ⟨by omega, runL_nodup d (p + 1)⟩
theorem runL_map (xs : List Int) : ∀ (d : Nat) (p : Nat), p + d ≤ xs.length → (runL d (p : Int)).map (rd xs) = (xs.drop p).take d
  | 0, p, _ => by simp [runL]
  | d + 1, p, h => by
    have hp : p < xs.length := by omega
    rw [runL, List.map_cons, show (p : Int) + 1 = ((p + 1 : Nat) : Int) from by omega, runL_map xs d (p + 1) (by omega), List.drop_eq_getElem_cons hp, List.take_succ_cons]
    congr 1
    unfold rd
    rw [Int.toNat_natCast, List.getD_eq_getElem?_getD, List.getElem?_eq_getElem hp]; rfl
def ordL (xs : List Int) : List Int := skipL (lastC xs : Int) xs.length 0 ++ [((lastC xs : Nat) : Int)]
theorem lastC_lt (xs : List Int) (h : goodC xs = true) : lastC xs < xs.length := by
  have hg := goodC_true h
  by_cases e : oddsL xs 0 = []
  · unfold lastC; rw [if_pos e]; omega
  · exact (lastC_odd xs e).2.1
theorem ordL_form (xs : List Int) (h : goodC xs = true) : ordL xs = runL (lastC xs) 0 ++ runL (xs.length - lastC xs - 1) ((lastC xs : Int) + 1) ++ [((lastC xs : Nat) : Int)] := by
  have hl := lastC_lt xs h
  unfold ordL
  have := skipL_eq (lastC xs : Int) (lastC xs) (xs.length - lastC xs - 1) 0 (by omega)
  rw [show lastC xs + 1 + (xs.length - lastC xs - 1) = xs.length from by omega] at this
  rw [this]
theorem ordL_facts (xs : List Int) (h : goodC xs = true) : (ordL xs).length = xs.length ∧ (ordL xs).Nodup ∧ (∀ z ∈ ordL xs, 0 ≤ z ∧ z < xs.length) ∧ (ordL xs).map (rd xs) = restL xs (lastC xs) ++ [xs.getD (lastC xs) 0] := by
  have hl := lastC_lt xs h
  rw [ordL_form xs h]
  refine ⟨?_, ?_, ?_, ?_⟩
  · simp only [List.length_append, runL_length, List.length_cons, List.length_nil]; omega
  · rw [List.nodup_append, List.nodup_append]
    refine ⟨⟨runL_nodup _ _, runL_nodup _ _, fun a ha b hb => ?_⟩, by simp, fun a ha b hb => ?_⟩
    · rw [runL_mem] at ha hb; omega
    · simp only [List.mem_singleton] at hb
      rw [List.mem_append, runL_mem, runL_mem] at ha
      omega
  · intro z hz
    rw [List.mem_append, List.mem_append, runL_mem, runL_mem, List.mem_singleton] at hz
    omega
  · rw [List.map_append, List.map_append, show (0 : Int) = ((0 : Nat) : Int) from rfl, runL_map xs (lastC xs) 0 (by omega), show (lastC xs : Int) + 1 = ((lastC xs + 1 : Nat) : Int) from by omega, runL_map xs _ (lastC xs + 1) (by omega)]
    unfold restL
    rw [List.drop_zero, List.take_of_length_le (l := xs.drop (lastC xs + 1)) (by rw [List.length_drop]; omega)]
    congr 1
theorem turned_good (xs : List Int) (h : goodC xs = true) : goodC (restL xs (lastC xs) ++ [xs.getD (lastC xs) 0]) = true := by
  have hl := lastC_lt xs h
  have e : restL xs (lastC xs) ++ [xs.getD (lastC xs) 0] = mvL xs (lastC xs) (xs.length - 1) := by
    have hr := restL_len xs (lastC xs) hl
    unfold mvL
    rw [List.take_of_length_le (by omega), List.drop_eq_nil_of_le (by omega), List.append_nil]
  rw [e]
  exact mvL_good xs _ _ hl (by omega) h
theorem turned_blanks (xs : List Int) (h : goodC xs = true) : ((blL true (restL xs (lastC xs) ++ [xs.getD (lastC xs) 0]) 1).length : Int) = (fewM xs).1 := by
  obtain ⟨g1, g2, g3⟩ := goodC_true h
  have hl := lastC_lt xs h
  have e : fewM xs = (max 0 (((oddsL xs 0).length : Int) - 1), true) := if_pos h
  have ho := oddsL_codd xs 0 g3
  have hx : xs.getD (lastC xs) 0 = xs[lastC xs] := by rw [List.getD_eq_getElem?_getD, List.getElem?_eq_getElem hl]; rfl
  have hs : xs = xs.take (lastC xs) ++ xs[lastC xs] :: xs.drop (lastC xs + 1) := by rw [← List.drop_eq_getElem_cons hl, List.take_append_drop]
  have hc : codd xs = codd (restL xs (lastC xs)) + (if xs[lastC xs] % 2 = 1 then 1 else 0) := by
    have := congrArg codd hs
    rw [codd_app, codd] at this
    rw [this]
    unfold restL
    rw [codd_app]; omega
  rw [blL_count, if_neg (by omega), e]
  simp only
  by_cases eo : oddsL xs 0 = []
  · rw [eo] at ho
    simp only [List.length_nil] at ho
    rw [eo]
    simp only [List.length_nil]
    omega
  · have hpos := List.length_pos_iff.2 eo
    have hodd := (lastC_odd xs eo).2.2.1
    have hm := g3 _ (List.getElem_mem hl)
    rw [hx, Int.tmod_eq_emod_of_nonneg (by omega)] at hodd
    rw [if_pos hodd] at hc
    omega

def maxFrom : Int → List Int → Int
  | m, [] => m
  | m, y :: ys => maxFrom (if m < y then y else m) ys
def maxL : List Int → Int
  | [] => 0
  | x :: xs => maxFrom x xs
theorem maxFrom_le (w : Int) : ∀ (ys : List Int) (m : Int), maxFrom m ys ≤ w ↔ m ≤ w ∧ ∀ n ∈ ys, n ≤ w
  | [], m => by simp [maxFrom]
  | y :: ys, m => by
    rw [maxFrom, maxFrom_le w ys]
    simp only [List.mem_cons, forall_eq_or_imp]
    constructor
    · rintro ⟨h1, h2⟩
      split at h1 <;> exact ⟨by omega, by omega, h2⟩
    · rintro ⟨h1, h2, h3⟩
      exact ⟨by split <;> omega, h3⟩
theorem maxL_le (w : Int) (l : List Int) (h : 1 ≤ l.length) : maxL l ≤ w ↔ ∀ n ∈ l, n ≤ w := by
  cases l with
  | nil => simp at h
  | cons x xs => rw [maxL, maxFrom_le]; simp
theorem maxFrom_mem : ∀ (ys : List Int) (m : Int), maxFrom m ys = m ∨ maxFrom m ys ∈ ys
  | [], m => .inl rfl
  | y :: ys, m => by
    rw [maxFrom]
    rcases maxFrom_mem ys (if m < y then y else m) with h | h
    · rw [h]; split
      · exact .inr List.mem_cons_self
      · exact .inl rfl
    · exact .inr (List.mem_cons_of_mem _ h)
theorem maxL_mem (l : List Int) (h : 1 ≤ l.length) : maxL l ∈ l := by
  cases l with
  | nil => simp at h
  | cons x xs =>
    rw [maxL]
    rcases maxFrom_mem xs x with e | e
    · rw [e]; exact List.mem_cons_self
    · exact List.mem_cons_of_mem _ e

/-- The first place of the greatest one, from place i on, b the best place so far and m its number. -/
def bestI : List Int → Int → Int → Int → Int × Int
  | [], _, b, m => (b, m)
  | y :: ys, i, b, m => if y > m then bestI ys (i + 1) i y else bestI ys (i + 1) b m
theorem bestI_max : ∀ (ys : List Int) (i b m : Int), (bestI ys i b m).2 = maxFrom m ys
  | [], _, _, _ => rfl
  | y :: ys, i, b, m => by
    rw [bestI, maxFrom]
    by_cases h : y > m
    · rw [if_pos h, if_pos (by omega)]; exact bestI_max ys (i + 1) i y
    · rw [if_neg h, if_neg (by omega)]; exact bestI_max ys (i + 1) b m
theorem maxFrom_ge : ∀ (ys : List Int) (m : Int), m ≤ maxFrom m ys ∧ ∀ y ∈ ys, y ≤ maxFrom m ys := fun ys m => (maxFrom_le (maxFrom m ys) ys m).1 (Int.le_refl _)
/-- The place's number is the best; none ahead of it is as great. -/
theorem bestI_first (xs : List Int) : ∀ (ys : List Int) (i b m : Int), 0 ≤ b → b < i → xs.drop i.toNat = ys → rd xs b = m → (∀ j, 0 ≤ j → j < i → rd xs j ≤ m) → (∀ j, 0 ≤ j → j < b → rd xs j < m) →
    0 ≤ (bestI ys i b m).1 ∧ (bestI ys i b m).1 < i + ys.length ∧ rd xs (bestI ys i b m).1 = (bestI ys i b m).2 ∧ (∀ j, 0 ≤ j → j < i + ys.length → rd xs j ≤ (bestI ys i b m).2) ∧ ∀ j, 0 ≤ j → j < (bestI ys i b m).1 → rd xs j < (bestI ys i b m).2
  | [], i, b, m, h0, h1, _, h2, h3, h4 => by
    rw [bestI]
    exact ⟨h0, by simp only [List.length_nil]; omega, h2, fun j g0 g1 => h3 j g0 (by simpa using g1), h4⟩
  | y :: ys, i, b, m, h0, h1, h, h2, h3, h4 => by
    obtain ⟨g1, g2, g3, _⟩ := drop_cons (by omega) h
    rw [bestI]
    by_cases c : y > m
    · rw [if_pos c]
      have := bestI_first xs ys (i + 1) i y (by omega) (by omega) g3 g2 (fun j j0 j1 => by
        by_cases e : j = i
        · rw [e, g2]; omega
        · have := h3 j j0 (by omega); omega) (fun j j0 j1 => by have := h3 j j0 j1; omega)
      rw [List.length_cons, show i + ((ys.length + 1 : Nat) : Int) = i + 1 + ys.length from by omega]
      exact this
    · rw [if_neg c]
      have := bestI_first xs ys (i + 1) b m h0 (by omega) g3 h2 (fun j j0 j1 => by
        by_cases e : j = i
        · rw [e, g2]; omega
        · exact h3 j j0 (by omega)) h4
      rw [List.length_cons, show i + ((ys.length + 1 : Nat) : Int) = i + 1 + ys.length from by omega]
      exact this
def longM (xs : List Int) : Int × Int × Bool := if goodC xs = true then ((bestI xs.tail 1 0 (rd xs 0)).1, (bestI xs.tail 1 0 (rd xs 0)).2, true) else (0, 0, false)
theorem longM_facts (xs : List Int) (h : goodC xs = true) : 0 ≤ (longM xs).1 ∧ (longM xs).1 < xs.length ∧ rd xs (longM xs).1 = (longM xs).2.1 ∧ (∀ j, 0 ≤ j → j < (xs.length : Int) → rd xs j ≤ (longM xs).2.1) ∧ ∀ j, 0 ≤ j → j < (longM xs).1 → rd xs j < (longM xs).2.1 := by
  have e : longM xs = ((bestI xs.tail 1 0 (rd xs 0)).1, (bestI xs.tail 1 0 (rd xs 0)).2, true) := if_pos h
  have hg := goodC_true h
  rcases xs with _ | ⟨x, xs⟩
  · simp at hg
  · rw [e]
    have := bestI_first (x :: xs) xs 1 0 (rd (x :: xs) 0) (by omega) (by omega) rfl rfl (fun j j0 j1 => by rw [show j = 0 from by omega]; exact Int.le_refl _) (fun j j0 j1 => by omega)
    rw [show (1 : Int) + (xs.length : Int) = (((x :: xs).length : Nat) : Int) from by simp; omega] at this
    exact this
theorem specLong_l (xs : List Int) (hn : xs.length ≤ 1000) : ∀ (ys : List Int) (i b : Int), 0 ≤ b → b < i → xs.drop i.toNat = ys → b < xs.length →
    Ev (fun k => spec_LongestChapter.l0 k xs b xs (xs.length : Int) i) ((bestI ys i b (rd xs b)).1, (bestI ys i b (rd xs b)).2, true) := by
  intro ys
  induction ys with
  | nil =>
    intro i b h0 h1 h hb
    have := drop_nil (by omega) h
    exact Ev.step (fun k => spec_LongestChapter.l0.eq_2 ..) (ev_neg (by omega) (ev_pos h0 (ev_pos hb (ev_now (by simp [bestI])))))
  | cons y ys ih =>
    intro i b h0 h1 h hb
    obtain ⟨g1, g2, g3, _⟩ := drop_cons (by omega) h
    refine Ev.step (fun k => spec_LongestChapter.l0.eq_2 ..) (ev_pos g1 (ev_pos (by omega) (ev_pos g1 (ev_pos h0 (ev_pos hb ?_)))))
    rw [g2, w64 (x := i + 1) (by omega) (by omega)]
    by_cases c : y > rd xs b
    · refine ev_pos c (ev_val (ih (i + 1) i (by omega) (by omega) g3 g1) ?_)
      rw [g2, bestI, if_pos c]
    · refine ev_neg c (ev_val (ih (i + 1) b h0 (by omega) g3 hb) ?_)
      rw [bestI, if_neg c]
theorem specLong_ev (xs : List Int) (hn : xs.length ≤ 1048576) : Ev (fun k => spec_LongestChapter.f k xs) (longM xs) := by
  unfold spec_LongestChapter.f longM
  refine Ev.bind (caGood_ev xs hn) ?_
  by_cases h : goodC xs = true
  · have hg := goodC_true h
    rw [if_pos h]
    refine ev_pos h ?_
    rcases xs with _ | ⟨x, xs⟩
    · simp at hg
    · have e0 : rd (x :: xs) 0 = x := rfl
      simp only [List.length_cons] at hg
      refine Ev.step (fun k => spec_LongestChapter.l0.eq_2 ..) (ev_pos (by simp only [List.length_cons]; omega) (ev_pos (by omega) (ev_pos (by simp only [List.length_cons]; omega) (ev_pos (by omega) (ev_pos (by simp only [List.length_cons]; omega) (ev_neg (by omega) ?_))))))
      rw [show wrap64 ((0 : Int) + 1) = 1 from by rw [w64 (by omega) (by omega)]; rfl]
      exact specLong_l (x :: xs) (by simp only [List.length_cons]; omega) xs 1 0 (by omega) (by omega) rfl (by simp only [List.length_cons]; omega)
  · exact ev_neg h (ev_now (by rw [if_neg h]))
theorem index_l (xs : List Int) (v : Int) (hn : xs.length ≤ 1000) (b : Int) (hb0 : 0 ≤ b) (hb1 : b < xs.length) (hb : rd xs b = v) (hne : ∀ j, 0 ≤ j → j < b → rd xs j ≠ v) : ∀ (d : Nat) (i : Int), 0 ≤ i → i + d = b →
    Ev (fun k => slices_Index_int_int.l0 k xs v (xs.length : Int) i) b := by
  intro d
  induction d with
  | zero =>
    intro i h0 h
    have e : i = b := by omega
    rw [e]
    exact Ev.step (fun k => slices_Index_int_int.l0.eq_2 ..) (ev_pos hb1 (ev_pos hb0 (ev_pos hb1 (ev_pos hb.symm (ev_now rfl)))))
  | succ d ih =>
    intro i h0 h
    refine Ev.step (fun k => slices_Index_int_int.l0.eq_2 ..) (ev_pos (by omega) (ev_pos h0 (ev_pos (by omega) (ev_neg (fun q => hne i h0 (by omega) q.symm) ?_))))
    rw [w64 (x := i + 1) (by omega) (by omega)]
    exact ih (i + 1) (by omega) (by omega)
theorem foldMax_from : ∀ (ys : List Int) (m : Int), ys.foldl max m = maxFrom m ys
  | [], _ => rfl
  | y :: ys, m => by
    rw [List.foldl_cons, maxFrom, foldMax_from ys (max m y)]
    congr 1
    split <;> omega
theorem maxOf_from (x : Int) (ys : List Int) : Lib.maxOf (x :: ys) = maxFrom x ys := by
  unfold Lib.maxOf
  rw [List.headD_cons, List.foldl_cons, foldMax_from, show max x x = x from by omega]
theorem implLong_ev (xs : List Int) (hn : xs.length ≤ 1048576) : Ev (fun k => impl_LongestChapter.f k xs) (longM xs) := by
  unfold impl_LongestChapter.f
  refine Ev.bind (areCh_ev xs hn) ?_
  by_cases h : goodC xs = true
  · have hg := goodC_true h
    have hf := longM_facts xs h
    have e : longM xs = ((longM xs).1, (longM xs).2.1, true) := by
      have : (longM xs).2.2 = true := by unfold longM; rw [if_pos h]
      rw [← this]
    have hm : Lib.maxOf xs = (longM xs).2.1 := by
      have e2 : (longM xs).2.1 = (bestI xs.tail 1 0 (rd xs 0)).2 := by unfold longM; rw [if_pos h]
      rcases xs with _ | ⟨x, xs⟩
      · simp at hg
      · rw [e2, bestI_max, maxOf_from]; rfl
    refine ev_pos h (ev_some (show slices_Max_int_int.f xs = some (longM xs).2.1 from by unfold slices_Max_int_int.f; rw [if_pos (by omega), hm]) (Ev.bind (a := (longM xs).1) ?_ (ev_now e.symm)))
    exact index_l xs _ (by omega) (longM xs).1 hf.1 hf.2.1 hf.2.2.1 (fun j j0 j1 => by have := hf.2.2.2.2 j j0 j1; omega) (longM xs).1.toNat 0 (by omega) (by omega)
  · refine ev_neg h (ev_now ?_)
    unfold longM
    rw [if_neg h]

/-! ### Texts as lists of bytes -/
def mkB (l : List UInt8) : ByteArray := ⟨l.toArray⟩
theorem mkB_data (l : List UInt8) : (mkB l).data.toList = l := by simp [mkB]
theorem mkB_size (l : List UInt8) : (mkB l).size = l.length := by simp [mkB, ByteArray.size]
theorem mkB_eq (s : ByteArray) : mkB s.data.toList = s := by cases s; simp [mkB]
theorem mkB_append (a b : List UInt8) : mkB a ++ mkB b = mkB (a ++ b) := by
  apply ByteArray.ext
  simp [mkB, ByteArray.data_append]
theorem mkB_drop (l : List UInt8) (i : Nat) : (mkB l).extract i (mkB l).size = mkB (l.drop i) := by
  apply ByteArray.ext
  apply Array.toList_inj.1
  rw [mkB_size]
  simp only [mkB, ByteArray.data_extract, List.extract_toArray, List.extract_eq_take_drop]
  rw [List.take_of_length_le (by rw [List.length_drop]; exact Nat.le_refl _)]
theorem mkB_slice (l : List UInt8) (i j : Nat) : (mkB l).extract i j = mkB ((l.take j).drop i) := by
  apply ByteArray.ext
  apply Array.toList_inj.1
  simp [mkB, ByteArray.data_extract, List.drop_take]
theorem mkB_nums (xs : List Int) : strOfNums xs = mkB (xs.map fun n => UInt8.ofNat n.toNat) := rfl
theorem mkB_inj {a b : List UInt8} (h : mkB a = mkB b) : a = b := by
  have := congrArg (fun s => s.data.toList) h
  simpa [mkB] using this
theorem bt_mkB {l : List UInt8} {i : Nat} {x : UInt8} {xs : List UInt8} (h : l.drop i = x :: xs) : bt (mkB l) (i : Int) = (x.toNat : Int) := by
  have hl : i < l.length := by
    rcases Nat.lt_or_ge i l.length with g | g
    · exact g
    · rw [List.drop_eq_nil_iff.2 g] at h; cases h
  have e : l[i] = x := by
    have := List.drop_eq_getElem_cons hl
    rw [h] at this
    injection this with h1 _
    exact h1.symm
  have hs : (i : Int).toNat < (mkB l).size := by rw [Int.toNat_natCast, mkB_size]; exact hl
  rw [← bt_at _ _ hs, ← e]
  rfl
theorem drop_step {α : Type} {l : List α} {i : Nat} {x : α} {xs : List α} (h : l.drop i = x :: xs) : i < l.length ∧ l.drop (i + 1) = xs := by
  have hl : i < l.length := by
    rcases Nat.lt_or_ge i l.length with g | g
    · exact g
    · rw [List.drop_eq_nil_iff.2 g] at h; cases h
  have := List.drop_eq_getElem_cons hl
  rw [h] at this
  injection this with _ h2
  exact ⟨hl, h2.symm⟩

theorem dd_len (n : Nat) : (Lib.decDigits n).length ≤ n + 1 := by
  induction n using Nat.strongRecOn with
  | _ n ih =>
    rw [Lib.decDigits]
    split
    · simp
    · rename_i h
      have := ih (n / 10) (by omega)
      rw [List.length_append]
      simp only [List.length_cons, List.length_nil]
      omega
theorem dd_pos (n : Nat) : 1 ≤ (Lib.decDigits n).length := by
  rw [Lib.decDigits]
  split <;> simp
def decV (l : List UInt8) : Nat := l.foldl (fun a b => a * 10 + (b.toNat - 48)) 0
theorem decV_dd (n : Nat) : decV (Lib.decDigits n) = n := by
  induction n using Nat.strongRecOn with
  | _ n ih =>
    rw [Lib.decDigits]
    split
    · rename_i h
      simp [decV]
      omega
    · rename_i h
      have := ih (n / 10) (by omega)
      unfold decV at this ⊢
      rw [List.foldl_append, this]
      simp
      omega
theorem dd_inj {a b : Nat} (h : Lib.decDigits a = Lib.decDigits b) : a = b := by
  rw [← decV_dd a, ← decV_dd b, h]
theorem dig_eq (x : Nat) (h : x < 200) : UInt8.ofNat ((((x : Nat) : Int) % 256).toNat) = UInt8.ofNat x := by
  congr 1
  omega
theorem l1Num_ev (n : Nat) (hn : n ≤ 1000000000000) : Ev (fun k => spec_l1Num.f k (n : Int)) (mkB (Lib.decDigits n)) := by
  induction n using Nat.strongRecOn with
  | _ n ih =>
    refine Ev.step (fun k => spec_l1Num.f.eq_2 ..) ?_
    by_cases h : n < 10
    · refine ev_pos (by omega) (ev_now ?_)
      rw [w64 (by omega) (by omega), mkB_nums, Lib.decDigits, dif_pos h]
      have := dig_eq (48 + n) (by omega)
      rw [show (((48 + n : Nat) : Nat) : Int) = 48 + (n : Int) from by omega] at this
      show mkB [UInt8.ofNat (((48 + (n : Int)) % 256).toNat)] = _
      rw [this]
    · refine ev_neg (by omega) ?_
      have e1 : Int.tdiv (n : Int) 10 = ((n / 10 : Nat) : Int) := by rw [Int.tdiv_eq_ediv_of_nonneg (by omega)]; omega
      have e2 : Int.tmod (n : Int) 10 = ((n % 10 : Nat) : Int) := by rw [Int.tmod_eq_emod_of_nonneg (by omega)]; omega
      rw [e1, e2, w64 (x := ((n / 10 : Nat) : Int)) (by omega) (by omega), w64 (x := 48 + ((n % 10 : Nat) : Int)) (by omega) (by omega)]
      have hl := dd_len (n / 10)
      have hs : strOfNums [(48 + ((n % 10 : Nat) : Int)) % 256] = mkB [UInt8.ofNat (48 + n % 10)] := by
        rw [mkB_nums]
        have := dig_eq (48 + n % 10) (by omega)
        rw [show (((48 + n % 10 : Nat) : Nat) : Int) = 48 + ((n % 10 : Nat) : Int) from by omega] at this
        show mkB [UInt8.ofNat (((48 + ((n % 10 : Nat) : Int)) % 256).toNat)] = _
        rw [this]
      refine Ev.bind (ih (n / 10) (by omega) (by omega)) (ev_some rfl ?_)
      rw [hs, mkB_size, mkB_size]
      refine ev_pos (by simp only [List.length_cons, List.length_nil]; omega) (ev_now ?_)
      rw [mkB_append, Lib.decDigits.eq_1 n, dif_neg h]
theorem itoa_eq (n : Nat) (hn : n ≤ 1000000000000) : strconv_Itoa.f (n : Int) = some (mkB (Lib.decDigits n)) := by
  unfold strconv_Itoa.f
  rw [if_pos (by omega), if_pos (by omega)]
  unfold Lib.itoa
  rw [if_neg (by omega), Int.toNat_natCast]
  rfl

def headOn (x : UInt8) : List (List UInt8) → List (List UInt8)
  | p :: ps => (x :: p) :: ps
  | [] => [[x]]
/-- The parts of a text between a byte's places. -/
def parts (c : UInt8) : List UInt8 → List (List UInt8)
  | [] => [[]]
  | x :: xs => if x = c then [] :: parts c xs else headOn x (parts c xs)
def glue (cur : List UInt8) : List (List UInt8) → List (List UInt8)
  | p :: ps => (cur ++ p) :: ps
  | [] => [cur]
theorem headOn_length (x : UInt8) (ps : List (List UInt8)) (h : ps ≠ []) : (headOn x ps).length = ps.length := by
  cases ps with
  | nil => exact absurd rfl h
  | cons p ps => rfl
theorem parts_ne (c : UInt8) (l : List UInt8) : parts c l ≠ [] := by
  cases l with
  | nil => simp [parts]
  | cons x xs =>
    rw [parts]
    split
    · simp
    · cases parts c xs <;> simp [headOn]
theorem parts_length (c : UInt8) : ∀ (l : List UInt8), (parts c l).length ≤ l.length + 1
  | [] => by simp [parts]
  | x :: xs => by
    have := parts_length c xs
    rw [parts]
    split
    · simp only [List.length_cons]; omega
    · rw [headOn_length x _ (parts_ne c xs)]; simp only [List.length_cons]; omega
theorem parts_part_len (c : UInt8) : ∀ (l : List UInt8), ∀ p ∈ parts c l, p.length ≤ l.length
  | [], p, h => by simp [parts] at h; subst h; simp
  | x :: xs, p, h => by
    rw [parts] at h
    split at h
    · rcases List.mem_cons.1 h with rfl | h
      · simp
      · have := parts_part_len c xs p h; simp only [List.length_cons]; omega
    · have hne := parts_ne c xs
      rcases hp : parts c xs with _ | ⟨q, qs⟩
      · exact absurd hp hne
      · rw [hp] at h
        rcases List.mem_cons.1 h with rfl | h
        · have := parts_part_len c xs q (by rw [hp]; exact List.mem_cons_self)
          simp only [List.length_cons]; omega
        · have := parts_part_len c xs p (by rw [hp]; exact List.mem_cons_of_mem _ h)
          simp only [List.length_cons]; omega
theorem glue_nil (ps : List (List UInt8)) (h : ps ≠ []) : glue [] ps = ps := by
  cases ps with
  | nil => exact absurd rfl h
  | cons p ps => rfl
theorem glue_head (cur : List UInt8) (x : UInt8) (ps : List (List UInt8)) : glue (cur ++ [x]) ps = glue cur (headOn x ps) := by
  cases ps with
  | nil => rfl
  | cons p ps => simp [glue, headOn]

/-! ### Numerals read, and the range of a text -/
theorem dd_digit (n : Nat) : ∀ x ∈ Lib.decDigits n, 48 ≤ x.toNat ∧ x.toNat ≤ 57 := by
  induction n using Nat.strongRecOn with
  | _ n ih =>
    intro x hx
    rw [Lib.decDigits] at hx
    split at hx
    · rename_i h
      rw [List.mem_singleton] at hx
      subst hx
      rw [UInt8.toNat_ofNat']
      omega
    · rename_i h
      rcases List.mem_append.1 hx with hx | hx
      · exact ih (n / 10) (by omega) x hx
      · rw [List.mem_singleton] at hx
        subst hx
        rw [UInt8.toNat_ofNat']
        omega
theorem dd_no45 (n : Nat) : (45 : UInt8) ∉ Lib.decDigits n := fun h => by
  have := dd_digit n 45 h
  have e : (45 : UInt8).toNat = 45 := rfl
  omega
theorem dd_cons (n : Nat) (h : ¬ n < 10) : Lib.decDigits n = Lib.decDigits (n / 10) ++ [UInt8.ofNat (48 + n % 10)] := by rw [Lib.decDigits.eq_1 n, dif_neg h]
theorem dd_small (k n : Nat) (h : n < 10 ^ (k + 1)) : (Lib.decDigits n).length ≤ k + 1 := by
  induction k generalizing n with
  | zero => rw [Lib.decDigits, dif_pos (by omega)]; simp
  | succ k ih =>
    by_cases c : n < 10
    · rw [Lib.decDigits, dif_pos c]; simp
    · rw [dd_cons n c, List.length_append, List.length_singleton]
      have := ih (n / 10) (by rw [Nat.pow_succ] at h; omega)
      omega
theorem dd_mono (a b : Nat) (h : a ≤ b) : (Lib.decDigits a).length ≤ (Lib.decDigits b).length := by
  induction a using Nat.strongRecOn generalizing b with
  | _ a ih =>
    by_cases c : a < 10
    · have := dd_pos b
      rw [Lib.decDigits, dif_pos c]
      simp only [List.length_singleton]
      omega
    · rw [dd_cons a c, dd_cons b (by omega), List.length_append, List.length_append]
      have := ih (a / 10) (by omega) (b / 10) (by omega)
      simp only [List.length_singleton]
      omega
theorem dd_head (n : Nat) (h : 1 ≤ n) : ∃ x xs, Lib.decDigits n = x :: xs ∧ 49 ≤ x.toNat := by
  induction n using Nat.strongRecOn with
  | _ n ih =>
    by_cases c : n < 10
    · refine ⟨UInt8.ofNat (48 + n), [], by rw [Lib.decDigits, dif_pos c], ?_⟩
      rw [UInt8.toNat_ofNat']
      omega
    · obtain ⟨x, xs, e, hx⟩ := ih (n / 10) (by omega) (by omega)
      exact ⟨x, xs ++ [UInt8.ofNat (48 + n % 10)], by rw [dd_cons n c, e]; rfl, hx⟩
def readFrom : Int → List UInt8 → Int
  | a, [] => a
  | a, c :: r => if c.toNat < 48 then -1 else (if c.toNat > 57 then -1 else readFrom (10 * a + ((c.toNat : Int) - 48)) r)
theorem readFrom_digits : ∀ (l : List UInt8) (a : Nat), (∀ x ∈ l, 48 ≤ x.toNat ∧ x.toNat ≤ 57) → readFrom (a : Int) l = ((l.foldl (fun a b => a * 10 + (b.toNat - 48)) a : Nat) : Int)
  | [], _, _ => rfl
  | c :: r, a, h => by
    have hc := h c List.mem_cons_self
    rw [readFrom, if_neg (by omega), if_neg (by omega), List.foldl_cons, ← readFrom_digits r _ (fun x hx => h x (List.mem_cons_of_mem _ hx))]
    congr 1
    omega
def readV (l : List UInt8) : Int := if 1 ≤ l.length ∧ l.length ≤ 6 then (if l.head? = some 48 ∧ l.length > 1 then -1 else readFrom 0 l) else -1
theorem readV_dd (n : Nat) (h : 1 ≤ n ∧ n ≤ 2000) : readV (Lib.decDigits n) = n := by
  have hl := dd_small 3 n (by omega)
  have hp := dd_pos n
  obtain ⟨x, xs, e, hx⟩ := dd_head n h.1
  unfold readV
  rw [if_pos (by omega), if_neg]
  · have := readFrom_digits (Lib.decDigits n) 0 (dd_digit n)
    have e2 : ((Lib.decDigits n).foldl (fun a b => a * 10 + (b.toNat - 48)) 0) = n := decV_dd n
    rw [e2] at this
    exact this
  · rw [e]
    intro hh
    have := hh.1
    simp only [List.head?_cons, Option.some.injEq] at this
    subst this
    have e3 : (48 : UInt8).toNat = 48 := rfl
    omega
theorem readFrom_bd : ∀ (l : List UInt8) (a : Int) (k : Nat), 0 ≤ a → a < 10 ^ k → l.length + k ≤ 9 → -1 ≤ readFrom a l ∧ readFrom a l ≤ 1000000000
  | [], a, k, h0, h1, h2 => by
    have : (10 : Int) ^ k ≤ 10 ^ 9 := by
      have := Nat.pow_le_pow_right (n := 10) (by omega) (show k ≤ 9 by simp at h2; omega)
      exact_mod_cast this
    rw [readFrom]
    have e : (10 : Int) ^ 9 = 1000000000 := by decide
    omega
  | c :: r, a, k, h0, h1, h2 => by
    rw [readFrom]
    split
    · omega
    · split
      · omega
      · refine readFrom_bd r _ (k + 1) (by omega) ?_ (by simp only [List.length_cons] at h2; omega)
        rw [Int.pow_succ]
        omega
theorem l1Read_l (l : List UInt8) (hl : l.length ≤ 6) : ∀ (ys : List UInt8) (i : Nat) (a : Int) (k : Nat), l.drop i = ys → 0 ≤ a → a < 10 ^ k → ys.length + k ≤ 9 →
    Ev (fun k => spec_l1Read.l0 k (mkB l) a (i : Int)) (readFrom a ys) := by
  intro ys
  induction ys with
  | nil =>
    intro i a k h _ _ _
    have := List.drop_eq_nil_iff.1 h
    refine Ev.step (fun k => spec_l1Read.l0.eq_2 ..) ?_
    rw [mkB_size]
    exact ev_neg (by omega) (ev_now rfl)
  | cons y ys ih =>
    intro i a k h h0 h1 h2
    obtain ⟨g1, g2⟩ := drop_step h
    simp only [List.length_cons] at h2
    have hy := y.toNat_lt
    have hk : (10 : Int) ^ k ≤ 10 ^ 9 := by
      have := Nat.pow_le_pow_right (n := 10) (by omega) (show k ≤ 9 by omega)
      exact_mod_cast this
    have e9 : (10 : Int) ^ 9 = 1000000000 := by decide
    refine Ev.step (fun k => spec_l1Read.l0.eq_2 ..) ?_
    rw [bt_mkB h, mkB_size, readFrom, w64 (x := (i : Int) + 1) (by omega) (by omega), w64 (x := 10 * a) (by omega) (by omega)]
    refine ev_pos (by omega) (ev_pos (by omega) ?_)
    by_cases c1 : y.toNat < 48
    · rw [if_pos c1]; exact ev_pos (by omega) (ev_now rfl)
    · rw [if_neg c1]
      by_cases c2 : y.toNat > 57
      · rw [if_pos c2]; exact ev_neg (by omega) (ev_pos (by omega) (ev_now rfl))
      · rw [if_neg c2]
        refine ev_neg (by omega) (ev_neg (by omega) ?_)
        rw [w64 (x := 10 * a + (((y.toNat : Int) - 48) % 256)) (by omega) (by omega), show ((y.toNat : Int) - 48) % 256 = (y.toNat : Int) - 48 from by omega, show (i : Int) + 1 = ((i + 1 : Nat) : Int) from by omega]
        refine ih (i + 1) _ (k + 1) g2 (by omega) ?_ (by omega)
        rw [Int.pow_succ]
        omega
theorem l1Read_ev (l : List UInt8) : Ev (fun k => spec_l1Read.f k (mkB l)) (readV l) := by
  unfold spec_l1Read.f readV
  rw [mkB_size]
  refine ev_some (l1In_eq ..) ?_
  by_cases h : 1 ≤ l.length ∧ l.length ≤ 6
  · rw [if_pos h]
    obtain ⟨x, xs, hx⟩ : ∃ x xs, l = x :: xs := by
      rcases l with _ | ⟨x, xs⟩
      · simp at h
      · exact ⟨x, xs, rfl⟩
    have hb : bt (mkB l) 0 = (x.toNat : Int) := bt_mkB (i := 0) (by rw [List.drop_zero]; exact hx)
    have hrun : Ev (fun k => spec_l1Read.j0 k (mkB l) false) (readFrom 0 l) := Ev.step (fun k => spec_l1Read.j0.eq_2 ..) (ev_neg (by simp) (l1Read_l l (by omega) l 0 0 0 rfl (by omega) (by decide) (by omega)))
    refine ev_pos (decide_eq_true (by omega)) (ev_pos (by omega) ?_)
    rw [hb]
    by_cases c : x.toNat = 48
    · have hx48 : x = 48 := UInt8.toNat_inj.1 c
      refine ev_pos (by omega) ?_
      by_cases d : l.length > 1
      · rw [if_pos ⟨by rw [hx, hx48]; rfl, d⟩]
        exact Ev.step (fun k => spec_l1Read.j0.eq_2 ..) (ev_pos (decide_eq_true (by omega)) (ev_now rfl))
      · rw [if_neg (fun hh => d hh.2)]
        have e : decide ((l.length : Int) > 1) = false := decide_eq_false (by omega)
        rw [e]; exact hrun
    · rw [if_neg (fun hh => by
        have := hh.1
        rw [hx] at this
        simp only [List.head?_cons, Option.some.injEq] at this
        subst this
        exact c rfl)]
      exact ev_neg (by omega) hrun
  · rw [if_neg h]
    exact ev_neg (by rw [decide_eq_false (by omega)]; simp) (Ev.step (fun k => spec_l1Read.j0.eq_2 ..) (ev_pos rfl (ev_now rfl)))
theorem readV_bd (l : List UInt8) : -1 ≤ readV l ∧ readV l ≤ 1000000000 := by
  unfold readV
  split
  · split
    · omega
    · exact readFrom_bd l 0 0 (by omega) (by decide) (by omega)
  · omega
theorem parts_no (c : UInt8) : ∀ (l : List UInt8), c ∉ l → parts c l = [l]
  | [], _ => rfl
  | x :: xs, h => by
    simp only [List.mem_cons, not_or] at h
    rw [parts, if_neg (Ne.symm h.1), parts_no c xs h.2]
    rfl
theorem parts_two (c : UInt8) : ∀ (l r : List UInt8), c ∉ l → parts c (l ++ c :: r) = l :: parts c r
  | [], r, _ => by rw [List.nil_append, parts, if_pos rfl]
  | x :: xs, r, h => by
    simp only [List.mem_cons, not_or] at h
    rw [List.cons_append, parts, if_neg (Ne.symm h.1), parts_two c xs r h.2]
    rfl
theorem idx_cons_ (x c : UInt8) (xs : List UInt8) (h : x ≠ c) : Lib.index (x :: xs) [c] = if Lib.index xs [c] == -1 then -1 else Lib.index xs [c] + 1 := by
  have hp : ([c] : List UInt8).isPrefixOf (x :: xs) = false := by simp [List.isPrefixOf, Ne.symm h]
  rw [Lib.index, hp]; simp
theorem idx_head_ (c : UInt8) (xs : List UInt8) : Lib.index (c :: xs) [c] = 0 := by rw [Lib.index]; simp [List.isPrefixOf]
theorem decFrom_digits : ∀ (l : List UInt8) (a : Nat), (∀ x ∈ l, 48 ≤ x.toNat ∧ x.toNat ≤ 57) → Lib.decFrom a l = some (l.foldl (fun a b => a * 10 + (b.toNat - 48)) a)
  | [], _, _ => rfl
  | c :: r, a, h => by
    have hc := h c List.mem_cons_self
    rw [Lib.decFrom, Lib.digitVal, if_pos hc, List.foldl_cons, ← decFrom_digits r _ (fun x hx => h x (List.mem_cons_of_mem _ hx))]
theorem atoiE_dd (n : Nat) (h : 1 ≤ n ∧ n ≤ 2000) : atoiE (mkB (Lib.decDigits n)) = some (n : Int) := by
  have hl := dd_small 3 n (by omega)
  obtain ⟨x, xs, e, hx⟩ := dd_head n h.1
  have hd := dd_digit n x (by rw [e]; exact List.mem_cons_self)
  have h1 : Lib.decNat (Lib.decDigits n) = some n := by
    unfold Lib.decNat
    rw [if_neg (by rw [e]; simp), decFrom_digits _ _ (dd_digit n)]
    exact congrArg some (decV_dd n)
  have h2 : Lib.atoi (Lib.decDigits n) = some (n : Int) := by
    have h45 : (x == 45) = false := by
      rw [beq_eq_false_iff_ne]
      intro hh; subst hh
      have e3 : (45 : UInt8).toNat = 45 := rfl
      omega
    have h43 : (x == 43) = false := by
      rw [beq_eq_false_iff_ne]
      intro hh; subst hh
      have e3 : (43 : UInt8).toNat = 43 := rfl
      omega
    rw [e]
    simp only [Lib.atoi, h45, h43, Bool.false_eq_true, if_false]
    rw [← e, h1]; rfl
  unfold atoiE
  rw [mkB_data, Lib.atoiAll_short _ (by omega), h2]
  rfl
theorem tol_mkB (l : List UInt8) : (mkB l).toList = l := by rw [ByteArray.toList_eq, mkB_data]

theorem idxc_ (x c : UInt8) (xs : List UInt8) (h : x ≠ c) (k : Nat) : Lib.splitK [c] 0 (k + 1) (x :: xs) = headOn x (Lib.splitK [c] 0 (k + 1) xs) := by
  rw [Lib.splitK, Lib.splitK, idx_cons_ x c xs h]
  by_cases m : Lib.index xs [c] = -1
  · rw [if_pos (by rw [m]; simp), if_pos (by rw [m]; simp)]; rfl
  · have hge := Lib.index_ge xs [c]
    obtain ⟨j, hj⟩ : ∃ j : Nat, Lib.index xs [c] = j := ⟨(Lib.index xs [c]).toNat, by omega⟩
    have n1 : ((j : Int) == -1) = false := by simp
    have n2 : (((j : Int) + 1) == -1) = false := by simp; omega
    have t1 : ((j : Int) + 1).toNat = j + 1 := by omega
    rw [hj, n1]
    simp only [Bool.false_eq_true, if_false]
    rw [n2]
    simp only [Bool.false_eq_true, if_false, t1, Int.toNat_natCast, Nat.add_zero, List.length_cons, List.length_nil]
    rfl
theorem splitK_or (c : UInt8) : ∀ (l : List UInt8) (k : Nat), Lib.splitK [c] 0 k l = parts c l ∨ ((∃ w ∈ Lib.splitK [c] 0 k l, c ∈ w) ∧ k + 2 ≤ (parts c l).length)
  | l, 0 => by
    have e : Lib.splitK [c] 0 0 l = [l] := by rw [Lib.splitK]
    rw [e]
    by_cases h : c ∈ l
    · refine Or.inr ⟨⟨l, List.mem_singleton.2 rfl, h⟩, ?_⟩
      obtain ⟨p, q, rfl, hp⟩ : ∃ p q, l = p ++ c :: q ∧ c ∉ p := by
        induction l with
        | nil => simp at h
        | cons x xs ih =>
          by_cases hx : x = c
          · exact ⟨[], xs, by rw [hx]; rfl, by simp⟩
          · obtain ⟨p, q, e, hp⟩ := ih (by rw [Lib.splitK]) (by
              rcases List.mem_cons.1 h with h | h
              · exact absurd h.symm hx
              · exact h)
            exact ⟨x :: p, q, by rw [e]; rfl, by simp only [List.mem_cons, not_or]; exact ⟨Ne.symm hx, hp⟩⟩
      rw [parts_two c p q hp, List.length_cons]
      have := List.length_pos_iff.2 (parts_ne c q)
      omega
    · exact Or.inl (parts_no c l h).symm
  | [], k + 1 => by
    refine Or.inl ?_
    rw [Lib.splitK, if_pos (by simp [Lib.index])]; rfl
  | x :: xs, k + 1 => by
    by_cases h : x = c
    · subst h
      have e : Lib.splitK [x] 0 (k + 1) (x :: xs) = [] :: Lib.splitK [x] 0 k xs := by
        rw [Lib.splitK, idx_head_, if_neg (by simp)]
        simp only [Int.toNat_zero, Nat.zero_add, List.take_zero, List.length_cons, List.length_nil, List.drop_succ_cons, List.drop_zero]
      have e2 : parts x (x :: xs) = [] :: parts x xs := by rw [parts, if_pos rfl]
      rw [e, e2]
      rcases splitK_or x xs k with h | ⟨⟨w, hw, hc⟩, hl⟩
      · exact Or.inl (by rw [h])
      · exact Or.inr ⟨⟨w, List.mem_cons_of_mem _ hw, hc⟩, by rw [List.length_cons]; omega⟩
    · have e2 : parts c (x :: xs) = headOn x (parts c xs) := by rw [parts, if_neg h]
      rw [idxc_ x c xs h k, e2]
      rcases splitK_or c xs (k + 1) with g | ⟨⟨w, hw, hc⟩, hl⟩
      · exact Or.inl (by rw [g])
      · refine Or.inr ⟨?_, by rw [headOn_length x _ (parts_ne c xs)]; exact hl⟩
        rcases hs : Lib.splitK [c] 0 (k + 1) xs with _ | ⟨p, ps⟩
        · rw [hs] at hw; simp at hw
        · rw [hs] at hw
          rcases List.mem_cons.1 hw with rfl | hw
          · exact ⟨x :: w, by simp [headOn], List.mem_cons_of_mem _ hc⟩
          · exact ⟨w, by simp [headOn, hw], hc⟩
theorem splitK_len (c : UInt8) : ∀ (k : Nat) (l : List UInt8), (Lib.splitK [c] 0 k l).length ≤ k + 1 ∧ ∀ w ∈ Lib.splitK [c] 0 k l, w.length ≤ l.length
  | 0, l => by
    have e : Lib.splitK [c] 0 0 l = [l] := by rw [Lib.splitK]
    rw [e]
    exact ⟨by simp, fun w hw => by rw [List.mem_singleton.1 hw]; exact Nat.le_refl _⟩
  | k + 1, l => by
    rw [Lib.splitK]
    split
    · exact ⟨by simp, fun w hw => by rw [List.mem_singleton.1 hw]; exact Nat.le_refl _⟩
    · obtain ⟨h1, h2⟩ := splitK_len c k (l.drop ((Lib.index l [c]).toNat + [c].length))
      refine ⟨by rw [List.length_cons]; omega, fun w hw => ?_⟩
      rcases List.mem_cons.1 hw with rfl | hw
      · rw [List.length_take]; omega
      · have := h2 w hw
        rw [List.length_drop] at this
        omega

theorem l1Split_l (c : UInt8) (l : List UInt8) (hl : l.length ≤ 2000000) : ∀ (ys : List UInt8) (i frm : Nat) (acc : List ByteArray), l.drop i = ys → i ≤ l.length → frm ≤ i → acc.length + ys.length ≤ 2000000 →
    Ev (fun k => spec_l1Split.l0 k (mkB l) (c.toNat : Int) acc (frm : Int) (i : Int)) (acc ++ (glue ((l.take i).drop frm) (parts c ys)).map mkB) := by
  intro ys
  induction ys with
  | nil =>
    intro i frm acc h hi hf ha
    have := List.drop_eq_nil_iff.1 h
    refine Ev.step (fun k => spec_l1Split.l0.eq_2 ..) ?_
    rw [mkB_size, Int.toNat_natCast]
    have e0 : (mkB l).extract frm l.length = mkB (l.drop frm) := by have := mkB_drop l frm; rw [mkB_size] at this; exact this
    rw [e0]
    refine ev_neg (by omega) (ev_pos (by omega) (ev_pos (by omega) (ev_pos (by simp only [List.length_nil] at ha; omega) (ev_now ?_))))
    rw [parts, glue, List.take_of_length_le (by omega)]
    simp
  | cons y ys ih =>
    intro i frm acc h hi hf ha
    obtain ⟨g1, g2⟩ := drop_step h
    simp only [List.length_cons] at ha
    refine Ev.step (fun k => spec_l1Split.l0.eq_2 ..) ?_
    rw [bt_mkB h, mkB_size, w64 (x := (i : Int) + 1) (by omega) (by omega), Int.toNat_natCast, Int.toNat_natCast, mkB_slice, show (i : Int) + 1 = ((i + 1 : Nat) : Int) from by omega]
    refine ev_pos (by omega) (ev_pos (by omega) ?_)
    have htk : (l.take (i + 1)).drop frm = (l.take i).drop frm ++ [y] := by
      have e : l.take (i + 1) = l.take i ++ [y] := by
        rw [List.take_add_one]
        have : l[i]? = some y := by rw [List.getElem?_eq_getElem g1]; have := List.drop_eq_getElem_cons g1; rw [h] at this; injection this with a _; rw [a]
        rw [this]; rfl
      rw [e, List.drop_append_of_le_length (by rw [List.length_take]; omega)]
    by_cases e : y = c
    · subst e
      refine ev_pos rfl (ev_pos (by omega) (ev_pos (by omega) (ev_pos (by omega) (ev_pos (by omega) ?_))))
      refine ev_val (ih (i + 1) (i + 1) _ g2 (by omega) (Nat.le_refl _) (by simp only [List.length_append, List.length_cons, List.length_nil]; omega)) ?_
      have e3 : (l.take (i + 1)).drop (i + 1) = [] := List.drop_of_length_le (by rw [List.length_take]; omega)
      rw [e3, glue_nil _ (parts_ne _ _), parts, if_pos rfl]
      simp only [glue, List.append_nil, List.map_cons, List.append_assoc, List.cons_append, List.nil_append]
    · have hne : ¬ ((y.toNat : Int) = (c.toNat : Int)) := fun q => e (UInt8.toNat_inj.1 (by omega))
      refine ev_neg hne (ev_val (ih (i + 1) frm acc g2 (by omega) (by omega) (by omega)) ?_)
      rw [htk, glue_head, parts, if_neg e]
theorem l1Split_ev (c : UInt8) (l : List UInt8) (hl : l.length ≤ 1999999) : Ev (fun k => spec_l1Split.f k (mkB l) (c.toNat : Int)) ((parts c l).map mkB) := by
  unfold spec_l1Split.f
  refine ev_val (l1Split_l c l (by omega) l 0 0 [] rfl (by omega) (Nat.le_refl _) (by simp only [List.length_nil]; omega)) ?_
  rw [List.take_zero, List.drop_nil, glue_nil _ (parts_ne _ _), List.nil_append]

def ndd (n : Int) : List UInt8 := Lib.decDigits n.toNat
theorem ndd_len {n : Int} (h1 : n ≤ 1000000) : (ndd n).length ≤ 1000001 := by
  have := dd_len n.toNat
  unfold ndd; omega
theorem l1NumI_ev (n : Int) (h0 : 0 ≤ n) (h1 : n ≤ 1000000) : Ev (fun k => spec_l1Num.f k n) (mkB (ndd n)) := by
  have := l1Num_ev n.toNat (by omega)
  rw [Int.toNat_of_nonneg h0] at this
  exact this
theorem itoaI_eq (n : Int) (h0 : 0 ≤ n) (h1 : n ≤ 1000000) : strconv_Itoa.f n = some (mkB (ndd n)) := by
  have := itoa_eq n.toNat (by omega)
  rw [Int.toNat_of_nonneg h0] at this
  exact this

def tailN : List Int → List UInt8
  | [] => []
  | y :: ys => 43 :: (ndd y ++ tailN ys)
def textN : List Int → List UInt8
  | [] => []
  | y :: ys => ndd y ++ tailN ys
theorem ndd_small {n : Int} (h1 : n ≤ 2000) : (ndd n).length ≤ 2001 := by
  have := dd_len n.toNat
  unfold ndd; omega
theorem tailN_len : ∀ (ys : List Int), (∀ r ∈ ys, r ≤ 2000) → (tailN ys).length ≤ 2002 * ys.length
  | [], _ => by simp [tailN]
  | y :: ys, h => by
    have h1 := ndd_small (h y List.mem_cons_self)
    have h2 := tailN_len ys (fun r hr => h r (List.mem_cons_of_mem _ hr))
    simp only [tailN, List.length_cons, List.length_append]; omega
theorem tailN_join : ∀ (ys : List Int), tailN ys = Lib.joinTail [43] (ys.map ndd)
  | [] => rfl
  | y :: ys => by
    rw [tailN, tailN_join ys]
    simp [Lib.joinTail]
theorem textN_join (ys : List Int) : Lib.join (ys.map ndd) [43] = textN ys := by
  rcases ys with _ | ⟨y, ys⟩
  · rfl
  · rw [List.map_cons, Lib.join_cons, textN, tailN_join]
theorem append43 (f t : List UInt8) : mkB f ++ (⟨#[43]⟩ : ByteArray) ++ mkB t = mkB (f ++ 43 :: t) := by
  have : (⟨#[43]⟩ : ByteArray) = mkB [43] := rfl
  rw [this, mkB_append, mkB_append, List.append_assoc]; rfl
theorem size43 (f : List UInt8) : (mkB f ++ (⟨#[43]⟩ : ByteArray)).size = f.length + 1 := by
  have : (⟨#[43]⟩ : ByteArray) = mkB [43] := rfl
  rw [this, mkB_append, mkB_size]; simp
theorem caText_l (xs : List Int) (hn : xs.length ≤ 1048576) (hb : ∀ r ∈ xs, 0 ≤ r ∧ r ≤ 2000) : ∀ (ys : List Int) (i : Int) (acc : List UInt8), 1 ≤ i → xs.drop i.toNat = ys → acc.length + 3000 * ys.length ≤ 100000000000 →
    Ev (fun k => spec_caText.l0 k (mkB acc) xs (xs.length : Int) i) (mkB (acc ++ tailN ys)) := by
  intro ys
  induction ys with
  | nil =>
    intro i acc h0 h _
    have := drop_nil (by omega) h
    refine Ev.step (fun k => spec_caText.l0.eq_2 ..) ?_
    exact ev_neg (by omega) (ev_now (by simp [tailN]))
  | cons y ys ih =>
    intro i acc h0 h ha
    obtain ⟨h1, h2, h3, _⟩ := drop_cons (by omega) h
    have hy := hb y (List.mem_of_mem_drop (by rw [h]; exact List.mem_cons_self))
    have hl := ndd_small hy.2
    simp only [List.length_cons] at ha
    refine Ev.step (fun k => spec_caText.l0.eq_2 ..) ?_
    rw [h2, w64 (x := i + 1) (by omega) (by omega), mkB_size, size43]
    refine ev_pos h1 (ev_pos (by omega) (ev_pos h1 (ev_pos (by omega) (ev_pos (by omega) (Ev.bind (l1NumI_ev y hy.1 (by omega)) ?_)))))
    rw [mkB_size, append43]
    refine ev_pos (by omega) (ev_val (ih (i + 1) _ (by omega) h3 (by simp only [List.length_append, List.length_cons]; omega)) ?_)
    rw [tailN]; simp
theorem caText_ev (xs : List Int) (hn : xs.length ≤ 1000) (hb : ∀ r ∈ xs, 0 ≤ r ∧ r ≤ 2000) : Ev (fun k => spec_caText.f k xs) (mkB (textN xs)) := by
  unfold spec_caText.f
  rcases xs with _ | ⟨y, ys⟩
  · refine Ev.step (fun k => spec_caText.l0.eq_2 ..) ?_
    exact ev_neg (by simp) (ev_now rfl)
  · have hy := hb y List.mem_cons_self
    have hl := ndd_small hy.2
    have e0 : rd (y :: ys) 0 = y := rfl
    have e1 : (⟨#[]⟩ : ByteArray) = mkB [] := rfl
    simp only [List.length_cons] at hn
    refine Ev.step (fun k => spec_caText.l0.eq_2 ..) ?_
    rw [e0, e1, w64 (x := (0 : Int) + 1) (by omega) (by omega), mkB_size]
    refine ev_pos (by simp only [List.length_cons]; omega) (ev_pos (by omega) (ev_pos (by simp only [List.length_cons]; omega) (ev_neg (by omega) (Ev.bind (l1NumI_ev y hy.1 (by omega)) ?_))))
    rw [mkB_size, mkB_append]
    refine ev_pos (by simp only [List.length_nil]; omega) ?_
    exact ev_val (caText_l (y :: ys) (by simp only [List.length_cons]; omega) hb ys (0 + 1) _ (by omega) rfl (by simp only [List.nil_append]; omega)) (by rw [List.nil_append, textN])
theorem textN_len (xs : List Int) (hn : xs.length ≤ 1000) (hb : ∀ r ∈ xs, 0 ≤ r ∧ r ≤ 2000) : (textN xs).length ≤ 10000000 := by
  rcases xs with _ | ⟨z, zs⟩
  · simp [textN]
  · have h1 := ndd_small (hb z List.mem_cons_self).2
    have h2 := tailN_len zs (fun r hr => (hb r (List.mem_cons_of_mem _ hr)).2)
    simp only [List.length_cons] at hn
    simp only [textN, List.length_append]; omega
theorem joined_l (xs : List Int) (hn : xs.length ≤ 1000) (hb : ∀ r ∈ xs, 0 ≤ r ∧ r ≤ 2000) : ∀ (ys : List Int) (i : Int), 0 ≤ i → xs.drop i.toNat = ys →
    Ev (fun k => impl_joined.l0 k (⟨#[43]⟩ : ByteArray) ((xs.take i.toNat).map fun r => mkB (ndd r)) xs (xs.length : Int) i) (mkB (textN xs)) := by
  intro ys
  induction ys with
  | nil =>
    intro i h0 h
    have := drop_nil h0 h
    refine Ev.step (fun k => impl_joined.l0.eq_2 ..) ?_
    refine ev_neg (by omega) (ev_some ?_ (ev_now rfl))
    rw [List.take_of_length_le (by omega)]
    have ej : joinB (xs.map fun r => mkB (ndd r)) (⟨#[43]⟩ : ByteArray) = textN xs := by
      unfold joinB
      rw [List.map_map]
      have : ((fun x : ByteArray => x.data.toList) ∘ fun r => mkB (ndd r)) = ndd := by funext r; exact mkB_data _
      rw [this]
      exact textN_join xs
    have hlen := textN_len xs hn hb
    unfold strings_Join.f
    rw [ej, if_pos (by rw [List.length_map]; omega), if_pos (by omega)]
    rfl
  | cons y ys ih =>
    intro i h0 h
    obtain ⟨h1, h2, h3, h4⟩ := drop_cons h0 h
    have hy := hb y (List.mem_of_mem_drop (by rw [h]; exact List.mem_cons_self))
    refine Ev.step (fun k => impl_joined.l0.eq_2 ..) ?_
    rw [h2, w64 (x := i + 1) (by omega) (by omega)]
    refine ev_pos h1 (ev_pos h0 (ev_pos h1 (ev_some (itoaI_eq y hy.1 (by omega)) (ev_pos (by rw [List.length_map, List.length_take]; omega) ?_))))
    have := ih (i + 1) (by omega) h3
    rw [h4, List.map_append] at this
    exact this
theorem joined_ev (xs : List Int) (hn : xs.length ≤ 1000) (hb : ∀ r ∈ xs, 0 ≤ r ∧ r ≤ 2000) : Ev (fun k => impl_joined.f k xs (⟨#[43]⟩ : ByteArray)) (mkB (textN xs)) := by
  unfold impl_joined.f
  exact joined_l xs hn hb xs 0 (by omega) rfl

def finishC (l : List UInt8) (xs : List Int) : List Int × Bool := if goodC xs = true then (if textN xs = l then (xs, true) else ([], false)) else ([], false)
theorem finishC_or (l : List UInt8) (xs : List Int) : finishC l xs = ([], false) ∨ ∃ ys, goodC ys = true ∧ textN ys = l ∧ finishC l xs = (ys, true) := by
  unfold finishC
  by_cases h : goodC xs = true
  · rw [if_pos h]
    by_cases c : textN xs = l
    · rw [if_pos c]; exact Or.inr ⟨xs, h, c, rfl⟩
    · rw [if_neg c]; exact Or.inl rfl
  · rw [if_neg h]; exact Or.inl rfl
theorem finishC_ok (xs : List Int) (h : goodC xs = true) : finishC (textN xs) xs = (xs, true) := by
  unfold finishC
  rw [if_pos h, if_pos rfl]
theorem ndd_no43 (n : Int) : (43 : UInt8) ∉ ndd n := fun h => by
  have := dd_digit n.toNat 43 h
  have e : (43 : UInt8).toNat = 43 := rfl
  omega
theorem parts_text : ∀ (x : Int) (xs : List Int), parts 43 (ndd x ++ tailN xs) = ndd x :: xs.map ndd
  | x, [] => by rw [tailN, List.append_nil]; exact parts_no 43 _ (ndd_no43 x)
  | x, y :: ys => by rw [tailN, parts_two 43 _ _ (ndd_no43 x), parts_text y ys]; rfl
theorem parts_textN (xs : List Int) (h : goodC xs = true) : parts 43 (textN xs) = xs.map ndd := by
  have hg := goodC_true h
  rcases xs with _ | ⟨x, xs⟩
  · simp at hg
  · exact parts_text x xs
theorem tailN_len4 : ∀ (xs : List Int), (∀ n ∈ xs, 1 ≤ n ∧ n ≤ 120) → (tailN xs).length ≤ 4 * xs.length
  | [], _ => by simp [tailN]
  | y :: ys, h => by
    have hy := h y List.mem_cons_self
    have h1 : (ndd y).length ≤ 3 := dd_small 2 y.toNat (by omega)
    have h2 := tailN_len4 ys (fun n hn => h n (List.mem_cons_of_mem _ hn))
    simp only [tailN, List.length_cons, List.length_append]; omega
theorem textN_48 (xs : List Int) (h : goodC xs = true) : (textN xs).length ≤ 48 := by
  have hg := goodC_true h
  rcases xs with _ | ⟨y, ys⟩
  · simp [textN]
  · have hy := hg.2.2 y List.mem_cons_self
    have h1 : (ndd y).length ≤ 3 := dd_small 2 y.toNat (by omega)
    have h2 := tailN_len4 ys (fun n hn => hg.2.2 n (List.mem_cons_of_mem _ hn))
    have h3 := hg.2.1
    simp only [textN, List.length_append, List.length_cons] at h3 ⊢; omega
def specC (l : List UInt8) : List Int × Bool := if l.length > 48 then ([], false) else finishC l ((parts 43 l).map readV)
def atoiAllE : List (List UInt8) → Option (List Int)
  | [] => some []
  | w :: ws => match atoiE (mkB w) with
    | none => none
    | some v => (atoiAllE ws).map (v :: ·)
def words43 (l : List UInt8) : List (List UInt8) := Lib.splitK [43] 0 (min 13 (l.length + 1) - 1) l
def implC (l : List UInt8) : List Int × Bool := if (words43 l).length > 12 then ([], false) else (match atoiAllE (words43 l) with
  | none => ([], false)
  | some xs => finishC l xs)
theorem specC_or (l : List UInt8) : specC l = ([], false) ∨ ∃ ys, goodC ys = true ∧ textN ys = l ∧ specC l = (ys, true) := by
  unfold specC
  split
  · exact Or.inl rfl
  · exact finishC_or ..
theorem implC_or (l : List UInt8) : implC l = ([], false) ∨ ∃ ys, goodC ys = true ∧ textN ys = l ∧ implC l = (ys, true) := by
  unfold implC
  split
  · exact Or.inl rfl
  · split
    · exact Or.inl rfl
    · exact finishC_or ..
theorem readV_map : ∀ (xs : List Int), (∀ n ∈ xs, 1 ≤ n ∧ n ≤ 120) → (xs.map ndd).map readV = xs
  | [], _ => rfl
  | x :: xs, h => by
    have hx := h x List.mem_cons_self
    have h1 : readV (ndd x) = x := by
      have := readV_dd x.toNat (by omega)
      rw [Int.toNat_of_nonneg (by omega)] at this
      exact this
    rw [List.map_cons, List.map_cons, h1, readV_map xs (fun n hn => h n (List.mem_cons_of_mem _ hn))]
theorem atoi_map : ∀ (xs : List Int), (∀ n ∈ xs, 1 ≤ n ∧ n ≤ 120) → atoiAllE (xs.map ndd) = some xs
  | [], _ => rfl
  | x :: xs, h => by
    have hx := h x List.mem_cons_self
    have h1 : atoiE (mkB (ndd x)) = some x := by
      have := atoiE_dd x.toNat (by omega)
      rw [Int.toNat_of_nonneg (by omega)] at this
      exact this
    rw [List.map_cons, atoiAllE, h1, atoi_map xs (fun n hn => h n (List.mem_cons_of_mem _ hn))]
    rfl
theorem specC_ok (xs : List Int) (h : goodC xs = true) : specC (textN xs) = (xs, true) := by
  have hg := goodC_true h
  have hl := textN_48 xs h
  unfold specC
  rw [if_neg (by omega), parts_textN xs h, readV_map xs hg.2.2]
  exact finishC_ok xs h
theorem implC_ok (xs : List Int) (h : goodC xs = true) : implC (textN xs) = (xs, true) := by
  have hg := goodC_true h
  have hp := parts_length 43 (textN xs)
  have hpl : (parts 43 (textN xs)).length = xs.length := by rw [parts_textN xs h, List.length_map]
  have hw : words43 (textN xs) = xs.map ndd := by
    unfold words43
    rcases splitK_or 43 (textN xs) (min 13 ((textN xs).length + 1) - 1) with e | ⟨_, hl⟩
    · rw [e, parts_textN xs h]
    · omega
  unfold implC
  rw [hw, List.length_map, if_neg (by omega), atoi_map xs hg.2.2]
  exact finishC_ok xs h
theorem implC_eq (l : List UInt8) : implC l = specC l := by
  rcases specC_or l with h | ⟨ys, h1, h2, h3⟩
  · rcases implC_or l with g | ⟨ys, h1, h2, h3⟩
    · rw [h, g]
    · rw [← h2, specC_ok ys h1, implC_ok ys h1]
  · rw [← h2, specC_ok ys h1, implC_ok ys h1]
theorem specC_small (l : List UInt8) : (specC l).1.length ≤ 1000 := by
  rcases specC_or l with h | ⟨ys, h1, _, h3⟩
  · rw [h]; simp
  · have := (goodC_true h1).2.1
    rw [h3]; show ys.length ≤ 1000; omega
theorem specC_l (l : List UInt8) (ws : List (List UInt8)) (hn : ws.length ≤ 1000) : ∀ (ys : List (List UInt8)) (i : Int) (out : List Int), 0 ≤ i → ws.drop i.toNat = ys → out.length + ys.length ≤ 1000 →
    Ev (fun k => spec_ParseChapters.l0 k (mkB l) out (ws.map mkB) ((ws.map mkB).length : Int) i) (finishC l (out ++ ys.map readV)) := by
  intro ys
  induction ys with
  | nil =>
    intro i out h0 h ho
    have := drop_nil h0 h
    simp only [List.length_nil] at ho
    refine Ev.step (fun k => spec_ParseChapters.l0.eq_2 ..) (ev_neg (by rw [List.length_map]; omega) (Ev.bind (caGood_ev out (by omega)) ?_))
    rw [List.map_nil, List.append_nil]
    unfold finishC
    by_cases c : goodC out = true
    · have hg := goodC_true c
      rw [if_pos c]
      refine ev_pos c (Ev.bind (caText_ev out (by omega) (fun r hr => by have := hg.2.2 r hr; omega)) ?_)
      rw [tol_mkB, tol_mkB]
      by_cases d : textN out = l
      · exact ev_pos d (ev_now (if_pos d).symm)
      · exact ev_neg d (ev_now (if_neg d).symm)
    · exact ev_neg c (ev_now (if_neg c).symm)
  | cons y ys ih =>
    intro i out h0 h ho
    obtain ⟨h1, _, h3, _⟩ := drop_get h0 h
    simp only [List.length_cons] at ho
    have hd : (ws.map mkB).drop i.toNat = mkB y :: ys.map mkB := by rw [← List.map_drop, h]; rfl
    have hr : rdOf ByteArray.empty (ws.map mkB) i = mkB y := (drop_get h0 hd).2.1 _
    refine Ev.step (fun k => spec_ParseChapters.l0.eq_2 ..) ?_
    rw [hr, w64 (x := i + 1) (by omega) (by omega)]
    refine ev_pos (by rw [List.length_map]; omega) (ev_pos h0 (ev_pos (by rw [List.length_map]; omega) (Ev.bind (l1Read_ev y) (ev_pos (by omega) (ev_val (ih (i + 1) _ (by omega) h3 (by simp only [List.length_append, List.length_cons, List.length_nil]; omega)) ?_)))))
    rw [List.map_cons, List.append_assoc]; rfl
theorem specC_ev (l : List UInt8) : Ev (fun k => spec_ParseChapters.f k (mkB l)) (specC l) := by
  unfold spec_ParseChapters.f specC
  rw [mkB_size]
  by_cases h : l.length > 48
  · exact ev_pos (by omega) (ev_now (if_pos h).symm)
  · have hp := parts_length 43 l
    rw [if_neg h]
    exact ev_neg (by omega) (Ev.bind (l1Split_ev 43 l (by omega)) (specC_l l (parts 43 l) (by omega) (parts 43 l) 0 [] (by omega) rfl (by rw [List.length_nil]; omega)))
def numM (ws : List (List UInt8)) (out : List Int) : List Int × Bool := match atoiAllE ws with
  | none => ([], false)
  | some xs => (out ++ xs, true)
theorem numbers_l (ws : List (List UInt8)) (hn : ws.length ≤ 1000) (hw : ∀ w ∈ ws, w.length ≤ 1048576) : ∀ (ys : List (List UInt8)) (i : Int) (out : List Int), 0 ≤ i → ws.drop i.toNat = ys → out.length + ys.length ≤ 1000 →
    Ev (fun k => impl_numbersOf.l0 k out (ws.map mkB) ((ws.map mkB).length : Int) i) (numM ys out) := by
  intro ys
  induction ys with
  | nil =>
    intro i out h0 h ho
    have := drop_nil h0 h
    refine Ev.step (fun k => impl_numbersOf.l0.eq_2 ..) (ev_neg (by rw [List.length_map]; omega) (ev_now ?_))
    simp [numM, atoiAllE]
  | cons y ys ih =>
    intro i out h0 h ho
    obtain ⟨h1, _, h3, _⟩ := drop_get h0 h
    simp only [List.length_cons] at ho
    have hy := hw y (List.mem_of_mem_drop (by rw [h]; exact List.mem_cons_self))
    have hd : (ws.map mkB).drop i.toNat = mkB y :: ys.map mkB := by rw [← List.map_drop, h]; rfl
    have hr : rdOf ByteArray.empty (ws.map mkB) i = mkB y := (drop_get h0 hd).2.1 _
    refine Ev.step (fun k => impl_numbersOf.l0.eq_2 ..) ?_
    rw [hr, w64 (x := i + 1) (by omega) (by omega), mkB_size]
    refine ev_pos (by rw [List.length_map]; omega) (ev_pos h0 (ev_pos (by rw [List.length_map]; omega) (ev_pos (by omega) ?_)))
    rcases he : atoiE (mkB y) with _ | v
    · exact ev_now (by unfold numM; rw [atoiAllE, he])
    · refine ev_pos (by omega) (ev_val (ih (i + 1) _ (by omega) h3 (by simp only [List.length_append, List.length_cons, List.length_nil]; omega)) ?_)
      unfold numM
      rw [atoiAllE, he]
      rcases atoiAllE ys with _ | xs
      · rfl
      · simp
theorem splitN43_eq (l : List UInt8) (hl : l.length ≤ 1048576) : strings_SplitN.f (mkB l) (⟨#[43]⟩ : ByteArray) 13 = some ((words43 l).map mkB) := by
  have e43 : (⟨#[43]⟩ : ByteArray) = mkB [43] := rfl
  unfold strings_SplitN.f
  rw [e43, mkB_size, mkB_size, if_pos (by omega), if_pos (by simp), if_pos (by omega), if_pos (by omega)]
  congr 1
  unfold splitNB words43
  rw [mkB_size, show (13 : Int).toNat = 13 from rfl]
  have h1 := Lib.splitB_data (mkB [43]) 0 (min 13 (l.length + 1) - 1) (mkB l)
  rw [mkB_data, mkB_data] at h1
  rw [← h1, List.map_map]
  have : (mkB ∘ fun x : ByteArray => x.data.toList) = id := by funext x; exact mkB_eq x
  rw [this, List.map_id]
theorem implC_ev (l : List UInt8) (hl : l.length ≤ 1048576) : Ev (fun k => impl_ParseChapters.f k (mkB l)) (specC l) := by
  rw [← implC_eq]
  unfold impl_ParseChapters.f impl_numbersOf.f implC
  rw [w64 (x := 12 + 1) (by omega) (by omega), show (12 : Int) + 1 = 13 from rfl, splitN43_eq l hl]
  obtain ⟨k1, k2⟩ := splitK_len 43 (min 13 (l.length + 1) - 1) l
  have hwn : (words43 l).length ≤ 13 := by unfold words43; omega
  have hww : ∀ w ∈ words43 l, w.length ≤ 1048576 := fun w hw => by have := k2 w hw; omega
  by_cases h : (words43 l).length > 12
  · rw [if_pos h]
    exact Ev.bind (ev_some rfl (ev_pos (by rw [List.length_map]; omega) (ev_now rfl))) (ev_neg (by simp) (ev_now rfl))
  · rw [if_neg h]
    refine Ev.bind (ev_some rfl (ev_neg (by rw [List.length_map]; omega) (numbers_l (words43 l) (by omega) hww _ 0 [] (by omega) rfl (by rw [Int.toNat_zero, List.drop_zero, List.length_nil]; omega)))) ?_
    rw [Int.toNat_zero, List.drop_zero]
    have hlen : ∀ (ws : List (List UInt8)) (xs : List Int), atoiAllE ws = some xs → xs.length = ws.length := by
      intro ws
      induction ws with
      | nil => intro xs e; rw [atoiAllE] at e; injection e with e; subst e; rfl
      | cons w ws ih =>
        intro xs e
        rw [atoiAllE] at e
        rcases hv : atoiE (mkB w) with _ | v
        · rw [hv] at e; cases e
        · rw [hv] at e
          simp only at e
          rcases hx : atoiAllE ws with _ | zs
          · rw [hx] at e; cases e
          · rw [hx] at e
            injection e with e
            subst e
            rw [List.length_cons, List.length_cons, ih zs hx]
    have hnum : numM (words43 l) [] = match atoiAllE (words43 l) with
      | none => ([], false)
      | some xs => (xs, true) := by
      unfold numM
      rcases atoiAllE (words43 l) with _ | xs <;> rfl
    rw [hnum]
    rcases hx : atoiAllE (words43 l) with _ | xs
    · exact ev_neg (by simp) (ev_now rfl)
    · have hxl := hlen _ _ hx
      show Ev _ (finishC l xs)
      refine ev_pos rfl (Ev.bind (areCh_ev xs (by omega)) ?_)
      unfold finishC
      by_cases c : goodC xs = true
      · have hg := goodC_true c
        rw [if_pos c]
        refine ev_pos c (Ev.bind (joined_ev xs (by omega) (fun r hr => by have := hg.2.2 r hr; omega)) ?_)
        rw [tol_mkB, tol_mkB]
        by_cases d : textN xs = l
        · exact ev_pos d (ev_now (if_pos d).symm)
        · exact ev_neg d (ev_now (if_neg d).symm)
      · exact ev_neg c (ev_now (if_neg c).symm)

def chTextM (xs : List Int) : ByteArray × Bool := if goodC xs = true then (mkB (textN xs), true) else (⟨#[]⟩, false)
theorem specChText (xs : List Int) (hn : xs.length ≤ 1048576) : Ev (fun k => spec_ChaptersText.f k xs) (chTextM xs) := by
  unfold spec_ChaptersText.f chTextM
  refine Ev.bind (caGood_ev xs hn) ?_
  by_cases h : goodC xs = true
  · have hh := goodC_true h
    exact ev_pos h (Ev.bind (caText_ev xs (by omega) (fun r hr => by have := hh.2.2 r hr; omega)) (ev_now (by rw [if_pos h])))
  · exact ev_neg h (ev_now (by rw [if_neg h]))
theorem implChText (xs : List Int) (hn : xs.length ≤ 1048576) : Ev (fun k => impl_ChaptersText.f k xs) (chTextM xs) := by
  unfold impl_ChaptersText.f chTextM
  refine Ev.bind (areCh_ev xs hn) ?_
  by_cases h : goodC xs = true
  · have hh := goodC_true h
    exact ev_pos h (Ev.bind (joined_ev xs (by omega) (fun r hr => by have := hh.2.2 r hr; omega)) (ev_now (by rw [if_pos h])))
  · exact ev_neg h (ev_now (by rw [if_neg h]))

/-! ### A cursor's draws: they end, and what they draw is small -/
def Dr {α : Type} (P : α → Prop) (B : Int) (g : Nat → Option (α × Int × Int)) : Prop := ∃ p : α × Int × Int, Ev g p ∧ P p.1 ∧ 0 ≤ p.2.1 ∧ p.2.1 ≤ B
theorem Dr.bind {α β : Type} {P : α → Prop} {Q : β → Prop} {B C : Int} {g : Nat → Option (α × Int × Int)} {f : Nat → (α × Int × Int) → Option (β × Int × Int)} (h : Dr P B g) (k : ∀ p : α × Int × Int, P p.1 → 0 ≤ p.2.1 → p.2.1 ≤ B → Dr Q C (fun n => f n p)) : Dr Q C (fun n => (g n).bind (f n)) := by
  obtain ⟨p, h1, h2, h3, h4⟩ := h
  obtain ⟨q, k1, k2, k3, k4⟩ := k p h2 h3 h4
  exact ⟨q, Ev.bind h1 k1, k2, k3, k4⟩
theorem Dr.now {α : Type} {P : α → Prop} {B : Int} {r : α} {a s : Int} (h : P r) (h0 : 0 ≤ a) (h1 : a ≤ B) : Dr P B (fun _ => some (r, a, s)) := ⟨(r, a, s), ev_now rfl, h, h0, h1⟩
theorem Dr.pos {α : Type} {P : α → Prop} {B : Int} {c : Prop} [Decidable c] {f g : Nat → Option (α × Int × Int)} (hc : c) (h : Dr P B f) : Dr P B (fun k => if c then f k else g k) := by
  simpa only [if_pos hc] using h
theorem Dr.neg {α : Type} {P : α → Prop} {B : Int} {c : Prop} [Decidable c] {f g : Nat → Option (α × Int × Int)} (hc : ¬ c) (h : Dr P B g) : Dr P B (fun k => if c then f k else g k) := by
  simpa only [if_neg hc] using h
theorem Dr.step {α : Type} {P : α → Prop} {B : Int} {g f : Nat → Option (α × Int × Int)} (h : ∀ k, g (k + 1) = f k) (k : Dr P B f) : Dr P B g := by
  obtain ⟨p, k1, k2⟩ := k
  exact ⟨p, Ev.step h k1, k2⟩
theorem Dr.mono {α : Type} {P Q : α → Prop} {B C : Int} {g : Nat → Option (α × Int × Int)} (h : Dr P B g) (hP : ∀ r, P r → Q r) (hB : B ≤ C) : Dr Q C g := by
  obtain ⟨p, h1, h2, h3, h4⟩ := h
  exact ⟨p, h1, hP _ h2, h3, by omega⟩
theorem Dr.some {α : Type} {γ : Type} {P : α → Prop} {B : Int} {x : Option γ} {y : γ} {f : Nat → γ → Option (α × Int × Int)} (h : x = Option.some y) (k : Dr P B (fun n => f n y)) : Dr P B (fun n => x.bind (f n)) := by
  subst h; exact k
def byteL (c : List Int) : Prop := ∀ x ∈ c, 0 ≤ x ∧ x ≤ 255
theorem byte_rd {c : List Int} (hc : byteL c) (i : Int) : 0 ≤ rd c i ∧ rd c i ≤ 255 := by
  unfold rd
  rw [List.getD_eq_getElem?_getD]
  rcases h : c[i.toNat]? with _ | x
  · simp
  · exact hc x (List.mem_of_getElem? h)
theorem b255 (z : Int) (h : 0 ≤ z) (h2 : z < 18446744073709551616) : 0 ≤ Go.bits .and .u64 z 255 ∧ Go.bits .and .u64 z 255 ≤ 255 := by
  obtain ⟨n, rfl⟩ : ∃ n : Nat, z = n := ⟨z.toNat, by omega⟩
  have e := bits_and_u64_nat n 255 (by omega) (by omega)
  have e2 : ((255 : Nat) : Int) = 255 := rfl
  rw [e2] at e
  rw [e]
  have := Nat.and_le_right (n := n) (m := 255)
  omega
theorem u64r (z : Int) : 0 ≤ IntKind.u64.wrap z ∧ IntKind.u64.wrap z < 18446744073709551616 := by
  have e : IntKind.u64.wrap z = z % 18446744073709551616 := by simp [IntKind.wrap, IntKind.signed, IntKind.bits]
  rw [e]; omega
theorem next_ok (c : List Int) (hc : byteL c) (a s : Int) (h0 : 0 ≤ a) (h1 : a ≤ 1000000000) : ∃ r s', spec_l1Cur_next.f c a s = some (r, a + 1, s') ∧ 0 ≤ r ∧ r ≤ 255 := by
  unfold spec_l1Cur_next.f
  rw [w64 (x := a + 1) (by omega) (by omega)]
  have hb := byte_rd hc a
  have hz : ∀ z : Int, 0 ≤ wrap64 (Go.bits .and .u64 (IntKind.u64.wrap z / 1099511627776) 255) ∧ wrap64 (Go.bits .and .u64 (IntKind.u64.wrap z / 1099511627776) 255) ≤ 255 := fun z => by
    have h := u64r z
    have := b255 (IntKind.u64.wrap z / 1099511627776) (by omega) (by omega)
    rw [w64 (by omega) (by omega)]; exact this
  by_cases c1 : a < (c.length : Int)
  · by_cases c2 : a + 1 ≤ (c.length : Int)
    · exact ⟨_, _, by rw [if_pos c1, if_pos h0, if_pos c2], by rw [w64 (by omega) (by omega)]; exact hb⟩
    · exact ⟨_, _, by rw [if_pos c1, if_pos h0, if_neg c2], hz _⟩
  · by_cases c2 : a + 1 ≤ (c.length : Int)
    · exact ⟨_, _, by rw [if_neg c1, if_pos c2], by omega⟩
    · exact ⟨_, _, by rw [if_neg c1, if_neg c2], hz _⟩
theorem pick_ok (c : List Int) (hc : byteL c) (a s n : Int) (h0 : 0 ≤ a) (h1 : a ≤ 1000000) (hn : n ≤ 1000000) : ∃ r a' s', spec_l1Cur_pick.f c a s n = some (r, a', s') ∧ (0 ≤ r ∧ (r < n ∨ r = 0)) ∧ 0 ≤ a' ∧ a' ≤ a + 2 := by
  unfold spec_l1Cur_pick.f
  by_cases c1 : n ≤ 1
  · exact ⟨0, a, s, by rw [if_pos c1], by omega, h0, by omega⟩
  obtain ⟨x, s1, e1, x0, x1⟩ := next_ok c hc a s h0 (by omega)
  by_cases c2 : n > 200
  · obtain ⟨y, s2, e2, y0, y1⟩ := next_ok c hc (a + 1) s1 (by omega) (by omega)
    have hm : Int.tmod (x * 256 + y) n = (x * 256 + y) % n := Int.tmod_eq_emod_of_nonneg (by omega)
    have hr0 := Int.emod_nonneg (x * 256 + y) (by omega : n ≠ 0)
    have hr1 := Int.emod_lt_of_pos (x * 256 + y) (by omega : 0 < n)
    refine ⟨(x * 256 + y) % n, a + 2, s2, ?_, by omega, by omega, by omega⟩
    rw [if_neg c1, e1]
    simp only [Option.bind_some]
    rw [if_pos c2, e2]
    simp only [Option.bind_some]
    rw [if_neg (by omega), w64 (x := x * 256) (by omega) (by omega), w64 (by omega) (by omega), hm, show a + 1 + 1 = a + 2 from by omega]
  · have hm : Int.tmod x n = x % n := Int.tmod_eq_emod_of_nonneg (by omega)
    have hr0 := Int.emod_nonneg x (by omega : n ≠ 0)
    have hr1 := Int.emod_lt_of_pos x (by omega : 0 < n)
    refine ⟨x % n, a + 1, s1, ?_, by omega, by omega, by omega⟩
    rw [if_neg c1, e1]
    simp only [Option.bind_some]
    rw [if_neg c2, if_neg (by omega), hm]
theorem pick_dr (c : List Int) (hc : byteL c) (a s n B : Int) (h0 : 0 ≤ a) (h1 : a ≤ B) (hB : B ≤ 1000000) (hn : n ≤ 1000000) : Dr (fun r => 0 ≤ r ∧ (r < n ∨ r = 0)) (B + 2) (fun _ => spec_l1Cur_pick.f c a s n) := by
  obtain ⟨r, a', s', e, h2, h3, h4⟩ := pick_ok c hc a s n h0 (by omega) hn
  exact ⟨(r, a', s'), by rw [e]; exact ev_now rfl, h2, h3, by show a' ≤ B + 2; omega⟩
theorem one_dr (c : List Int) (hc : byteL c) (a s n B : Int) (h0 : 0 ≤ a) (h1 : a ≤ B) (hB : B ≤ 1000000) (hn : n ≤ 1000000) : Dr (fun _ => True) (B + 2) (fun _ => spec_l1Cur_one.f c a s n) := by
  unfold spec_l1Cur_one.f
  exact Dr.bind (pick_dr c hc a s n B h0 h1 hB hn) fun p3 _ h3 h4 => Dr.now trivial h3 h4
theorem among_dr (c : List Int) (hc : byteL c) (a s B : Int) (l : List Int) (hl : 1 ≤ l.length) (hl2 : l.length ≤ 1000000) (h0 : 0 ≤ a) (h1 : a ≤ B) (hB : B ≤ 1000000) : Dr (fun _ => True) (B + 2) (fun _ => spec_l1Cur_among.f c a s l) := by
  unfold spec_l1Cur_among.f
  refine Dr.bind (pick_dr c hc a s _ B h0 h1 hB (by omega)) fun p3 h2 h3 h4 => ?_
  exact Dr.pos h2.1 (Dr.pos (by omega) (Dr.now trivial h3 h4))

theorem sz_ext0 (x : ByteArray) (i : Nat) (h : i ≤ x.size) : (x.extract 0 i).size = i := by rw [ByteArray.size_extract]; omega
theorem sz_ext1 (x : ByteArray) (i : Nat) : (x.extract i x.size).size = x.size - i := by rw [ByteArray.size_extract]; omega
theorem sz_one (z : Int) : (strOfNums [z]).size = 1 := rfl
theorem spoilt_l (c : List Int) (hc : byteL c) (x2 : ByteArray) (h2a : 1 ≤ x2.size) (h2b : x2.size ≤ 1000) : ∀ (m : Nat) (x1 : ByteArray) (a s B : Int), 0 ≤ a → a ≤ B → B + 6 * m ≤ 1000000 → x1.size + m ≤ 900000 →
    Dr (fun r => r.size ≤ x1.size + m) (B + 6 * m) (fun k => spec_l1Cur_spoilt.l0 k x1 x2 (m : Int) c a s) := by
  intro m
  induction m with
  | zero =>
    intro x1 a s B h0 h1 hB ho
    exact Dr.step (fun k => spec_l1Cur_spoilt.l0.eq_2 ..) (Dr.neg (by omega) (Dr.step (fun k => spec_l1Cur_spoilt.j1.eq_2 ..) (Dr.neg (by simp) (Dr.now (by simp) h0 (by omega)))))
  | succ m ih =>
    intro x1 a s B h0 h1 hB ho
    refine Dr.step (fun k => spec_l1Cur_spoilt.l0.eq_2 ..) (Dr.pos (by omega) ?_)
    by_cases hs : (x1.size : Int) > 0
    · rw [decide_eq_true hs]
      refine Dr.step (fun k => spec_l1Cur_spoilt.j1.eq_2 ..) (Dr.pos rfl ?_)
      refine Dr.bind (pick_dr c hc a s _ B h0 h1 (by omega) (by omega)) fun p3 hi h3 h4 => ?_
      refine Dr.bind (pick_dr c hc p3.2.1 p3.2.2 _ (B + 2) h3 h4 (by omega) (by omega)) fun p5 hj h5 h6 => ?_
      refine Dr.pos hj.1 (Dr.pos (by omega) (Dr.some rfl ?_))
      refine Dr.bind (pick_dr c hc p5.2.1 p5.2.2 3 (B + 2 + 2) h5 h6 (by omega) (by omega)) fun p7 _ h7 h8 => ?_
      have e : wrap64 (((m + 1 : Nat) : Int) - 1) = (m : Int) := by rw [w64 (by omega) (by omega)]; omega
      have e2 : wrap64 (p3.1 + 1) = p3.1 + 1 := w64 (by omega) (by omega)
      have z0 := sz_ext0 x1 p3.1.toNat (by omega)
      have z1 := sz_ext1 x1 p3.1.toNat
      have z2 := sz_ext1 x1 (p3.1 + 1).toNat
      have z3 := sz_one (bt x2 p5.1)
      rw [e, e2]
      by_cases c1 : p7.1 = 0
      · refine Dr.pos c1 (Dr.pos hi.1 (Dr.pos (by omega) (Dr.pos (by omega) (Dr.pos (by rw [ByteArray.size_append]; omega) ?_))))
        refine (ih _ p7.2.1 p7.2.2 (B + 6) h7 (by omega) (by omega) ?_).mono (fun r h => ?_) (by omega)
        · rw [ByteArray.size_append, ByteArray.size_append]; omega
        · rw [ByteArray.size_append, ByteArray.size_append] at h; omega
      refine Dr.neg c1 ?_
      by_cases c2 : p7.1 = 1
      · refine Dr.pos c2 (Dr.pos hi.1 (Dr.pos (by omega) (Dr.pos (by omega) (Dr.pos (by omega) (Dr.pos (by omega) (Dr.pos (by rw [ByteArray.size_append]; omega) ?_))))))
        refine (ih _ p7.2.1 p7.2.2 (B + 6) h7 (by omega) (by omega) ?_).mono (fun r h => ?_) (by omega)
        · rw [ByteArray.size_append, ByteArray.size_append]; omega
        · rw [ByteArray.size_append, ByteArray.size_append] at h; omega
      · refine Dr.neg c2 (Dr.pos hi.1 (Dr.pos (by omega) (Dr.pos (by omega) (Dr.pos (by omega) (Dr.pos (by omega) ?_)))))
        refine (ih _ p7.2.1 p7.2.2 (B + 6) h7 (by omega) (by omega) ?_).mono (fun r h => ?_) (by omega)
        · rw [ByteArray.size_append]; omega
        · rw [ByteArray.size_append] at h; omega
    · rw [decide_eq_false hs]
      exact Dr.step (fun k => spec_l1Cur_spoilt.j1.eq_2 ..) (Dr.neg (by simp) (Dr.now (by omega) h0 (by omega)))
theorem spoilt_dr (c : List Int) (hc : byteL c) (x1 x2 : ByteArray) (h2a : 1 ≤ x2.size) (h2b : x2.size ≤ 1000) (h1a : x1.size ≤ 800000) (a s B : Int) (h0 : 0 ≤ a) (h1 : a ≤ B) (hB : B ≤ 900000) : Dr (fun r => r.size ≤ x1.size + 2) (B + 14) (fun k => spec_l1Cur_spoilt.f k c a s x1 x2) := by
  unfold spec_l1Cur_spoilt.f
  refine Dr.bind (pick_dr c hc a s 2 B h0 h1 (by omega) (by omega)) fun p3 h2 h3 h4 => ?_
  have e : wrap64 (1 + p3.1) = ((p3.1 + 1).toNat : Int) := by rw [w64 (by omega) (by omega)]; omega
  rw [e]
  exact (spoilt_l c hc x2 h2a h2b (p3.1 + 1).toNat x1 p3.2.1 p3.2.2 (B + 2) h3 h4 (by omega) (by omega)).mono (fun r h => by omega) (by omega)

theorem sureCh_l (c : List Int) (hc : byteL c) : ∀ (m : Nat) (out : List Int) (a s B : Int), 0 ≤ a → a ≤ B → B + 2 * m ≤ 1000000 → out.length + m ≤ 1000 → (∀ x ∈ out, 1 ≤ x ∧ x ≤ 30) →
    Dr (fun r => r.length ≤ out.length + m ∧ ∀ x ∈ r, 1 ≤ x ∧ x ≤ 30) (B + 2 * m) (fun k => spec_l1Cur_sureChapters.l0 k out (m : Int) c a s) := by
  intro m
  induction m with
  | zero =>
    intro out a s B h0 h1 hB ho hx
    exact Dr.step (fun k => spec_l1Cur_sureChapters.l0.eq_2 ..) (Dr.neg (by omega) (Dr.now ⟨by simp, hx⟩ h0 (by omega)))
  | succ m ih =>
    intro out a s B h0 h1 hB ho hx
    refine Dr.step (fun k => spec_l1Cur_sureChapters.l0.eq_2 ..) (Dr.pos (by omega) (Dr.bind (pick_dr c hc a s 30 B h0 h1 (by omega) (by omega)) fun p3 h2 h3 h4 => ?_))
    refine Dr.pos (by omega) ?_
    have e : wrap64 (((m + 1 : Nat) : Int) - 1) = (m : Int) := by rw [w64 (by omega) (by omega)]; omega
    rw [e]
    refine (ih (out ++ [wrap64 (1 + p3.1)]) p3.2.1 p3.2.2 (B + 2) h3 h4 (by omega) (by simp; omega) ?_).mono (fun _ h => ⟨by have := h.1; simp at this; omega, h.2⟩) (by omega)
    intro x hx2
    rcases List.mem_append.1 hx2 with h | h
    · exact hx x h
    · simp at h
      rw [h, w64 (by omega) (by omega)]; omega
theorem sureCh_dr (c : List Int) (hc : byteL c) (a s B n : Int) (h0 : 0 ≤ a) (h1 : a ≤ B) (hB : B ≤ 900000) (hn0 : 1 ≤ n) (hn : n ≤ 100) : Dr (fun r => r.length ≤ 100 ∧ ∀ x ∈ r, 1 ≤ x ∧ x ≤ 30) (B + 300) (fun k => spec_l1Cur_sureChapters.f k c a s n) := by
  unfold spec_l1Cur_sureChapters.f
  refine Dr.bind (pick_dr c hc a s n B h0 h1 (by omega) (by omega)) fun p3 h2 h3 h4 => ?_
  have e : wrap64 (1 + p3.1) = ((p3.1 + 1).toNat : Int) := by rw [w64 (by omega) (by omega)]; omega
  rw [e]
  exact (sureCh_l c hc (p3.1 + 1).toNat [] p3.2.1 p3.2.2 (B + 2) h3 h4 (by omega) (by simp; omega) (by simp)).mono (fun _ h => ⟨by have := h.1; simp at this; omega, h.2⟩) (by omega)
theorem ch_l (c : List Int) (hc : byteL c) : ∀ (d : Nat) (out : List Int) (a s B : Int), 0 ≤ a → a ≤ B → B + 2 * d + 2 ≤ 1000000 → 200 ≤ out.length + d → out.length ≤ 200 →
    Dr (fun r => r.length ≤ 200) (B + 2 * d + 2) (fun k => spec_l1Cur_chapters.l0 k out c a s) := by
  intro d
  induction d with
  | zero =>
    intro out a s B h0 h1 hB ho ho2
    refine Dr.step (fun k => spec_l1Cur_chapters.l0.eq_2 ..) (Dr.bind (pick_dr c hc a s 2 B h0 h1 (by omega) (by omega)) fun p3 h2 h3 h4 => ?_)
    exact Dr.neg (by rw [w64 (by omega) (by omega)]; omega) (Dr.now ho2 h3 (by omega))
  | succ d ih =>
    intro out a s B h0 h1 hB ho ho2
    refine Dr.step (fun k => spec_l1Cur_chapters.l0.eq_2 ..) (Dr.bind (pick_dr c hc a s 2 B h0 h1 (by omega) (by omega)) fun p3 h2 h3 h4 => ?_)
    by_cases q : (out.length : Int) < wrap64 (12 + p3.1)
    · rw [w64 (by omega) (by omega)] at q
      refine Dr.pos (by rw [w64 (by omega) (by omega)]; exact q) (Dr.pos (by omega) ?_)
      exact (ih (out ++ [7]) p3.2.1 p3.2.2 (B + 2) h3 h4 (by omega) (by simp; omega) (by simp; omega)).mono (fun _ h => h) (by omega)
    · exact Dr.neg q (Dr.now ho2 h3 (by omega))
theorem ch_dr (c : List Int) (hc : byteL c) (a s B : Int) (h0 : 0 ≤ a) (h1 : a ≤ B) (hB : B ≤ 500000) : Dr (fun r => r.length ≤ 200) (B + 1000) (fun k => spec_l1Cur_chapters.f k c a s) := by
  unfold spec_l1Cur_chapters.f
  refine Dr.bind (sureCh_dr c hc a s B 7 h0 h1 (by omega) (by omega) (by omega)) fun p3 ho h3 h4 => ?_
  refine Dr.bind (pick_dr c hc p3.2.1 p3.2.2 20 (B + 300) h3 h4 (by omega) (by omega)) fun p5 _ h5 h6 => ?_
  have hl := ho.1
  by_cases c1 : p5.1 = 0
  · exact Dr.pos c1 (Dr.now (by simp) h5 (by omega))
  refine Dr.neg c1 ?_
  by_cases c2 : p5.1 = 1
  · refine Dr.pos c2 (Dr.bind (among_dr c hc p5.2.1 p5.2.2 (B + 302) _ (by simp) (by simp) h5 (by omega) (by omega)) fun p7 _ h7 h8 => ?_)
    exact Dr.pos (by omega) (Dr.now (by simp; omega) h7 (by omega))
  refine Dr.neg c2 ?_
  by_cases c3 : p5.1 = 2
  · exact Dr.pos c3 ((ch_l c hc 200 p3.1 p5.2.1 p5.2.2 (B + 302) h5 (by omega) (by omega) (by omega) (by omega)).mono (fun _ h => h) (by omega))
  · exact Dr.neg c3 (Dr.now (by omega) h5 (by omega))
theorem drawBO (c : List Int) (hc : byteL c) : ∃ l b, Ev (fun k => spec_DrawBeginningsOf.f k c) (l, b) ∧ l.length ≤ 200 := by
  unfold spec_DrawBeginningsOf.f
  obtain ⟨p2, e2, h2, a2, b2⟩ := ch_dr c hc 0 0 0 (by omega) (by omega) (by omega)
  obtain ⟨p1, e1, _, a1, b1⟩ := one_dr c hc p2.2.1 p2.2.2 3 1000 a2 (by omega) (by omega) (by omega)
  exact ⟨_, _, Ev.bind e2 (Ev.bind e1 (ev_now rfl)), h2⟩
theorem drawCP (c : List Int) (hc : byteL c) : ∃ l b p, Ev (fun k => spec_DrawChapterOfPage.f k c) (l, b, p) ∧ l.length ≤ 200 ∧ (-100000 ≤ p ∧ p ≤ 100000) := by
  unfold spec_DrawChapterOfPage.f
  obtain ⟨p2, e2, h2, a2, b2⟩ := ch_dr c hc 0 0 0 (by omega) (by omega) (by omega)
  obtain ⟨p1, e1, _, a1, b1⟩ := one_dr c hc p2.2.1 p2.2.2 3 1000 a2 (by omega) (by omega) (by omega)
  obtain ⟨p3, e3, q3, a3, b3⟩ := pick_dr c hc p1.2.1 p1.2.2 120 1002 a1 (by omega) (by omega) (by omega)
  obtain ⟨p4, e4, q4, a4, b4⟩ := pick_dr c hc p3.2.1 p3.2.2 9 1004 a3 (by omega) (by omega) (by omega)
  have hd : Int.tdiv p4.1 8 = p4.1 / 8 := Int.tdiv_eq_ediv_of_nonneg q4.1
  refine ⟨_, _, _, Ev.bind e2 (Ev.bind e1 (Ev.bind e3 (Ev.bind e4 (ev_now rfl)))), h2, ?_⟩
  rw [hd, w64 (x := p4.1 / 8) (by omega) (by omega), w64 (by omega) (by omega)]
  omega
theorem drawMC (c : List Int) (hc : byteL c) : ∃ l a b, Ev (fun k => spec_DrawMoveChapter.f k c) (l, a, b) ∧ l.length ≤ 200 := by
  unfold spec_DrawMoveChapter.f
  obtain ⟨p2, e2, h2, a2, b2⟩ := ch_dr c hc 0 0 0 (by omega) (by omega) (by omega)
  have hw : wrap64 ((p2.1.length : Int) + 1) = (p2.1.length : Int) + 1 := w64 (by omega) (by omega)
  obtain ⟨p3, e3, _, a3, b3⟩ := pick_dr c hc p2.2.1 p2.2.2 (wrap64 ((p2.1.length : Int) + 1)) 1000 a2 (by omega) (by omega) (by omega)
  obtain ⟨p4, e4, _, a4, b4⟩ := pick_dr c hc p3.2.1 p3.2.2 9 1002 a3 (by omega) (by omega) (by omega)
  obtain ⟨p5, e5, _, a5, b5⟩ := pick_dr c hc p4.2.1 p4.2.2 (wrap64 ((p2.1.length : Int) + 1)) 1004 a4 (by omega) (by omega) (by omega)
  exact ⟨_, _, _, Ev.bind e2 (Ev.bind e3 (Ev.bind e4 (Ev.bind e5 (ev_now rfl)))), h2⟩
theorem tailN_len3 : ∀ (xs : List Int), (∀ n ∈ xs, 1 ≤ n ∧ n ≤ 30) → (tailN xs).length ≤ 2002 * xs.length := fun xs h => tailN_len xs (fun r hr => by have := h r hr; omega)
theorem drawPC (c : List Int) (hc : byteL c) : ∃ l : List UInt8, Ev (fun k => spec_DrawParseChapters.f k c) (mkB l) ∧ l.length ≤ 1000000 := by
  have hsz : ∀ t : ByteArray, t = mkB t.data.toList ∧ t.data.toList.length = t.size := fun t => ⟨(mkB_eq t).symm, by rw [Array.length_toList]; rfl⟩
  unfold spec_DrawParseChapters.f
  obtain ⟨p2, e2, ⟨h2, h2b⟩, a2, b2⟩ := sureCh_dr c hc 0 0 0 5 (by omega) (by omega) (by omega) (by omega) (by omega)
  have e3 := caText_ev p2.1 (by omega) (fun r hr => by have := h2b r hr; omega)
  have hl : (textN p2.1).length ≤ 300000 := by
    rcases hq : p2.1 with _ | ⟨z, zs⟩
    · simp [textN]
    · rw [hq] at h2 h2b
      have h1 := ndd_small (n := z) (by have := h2b z List.mem_cons_self; omega)
      have h3 := tailN_len3 zs (fun r hr => h2b r (List.mem_cons_of_mem _ hr))
      simp only [List.length_cons] at h2
      simp only [textN, List.length_append]; omega
  obtain ⟨p1, e1, _, a1, b1⟩ := one_dr c hc p2.2.1 p2.2.2 3 300 a2 (by omega) (by omega) (by omega)
  by_cases c1 : p1.1 = true
  · obtain ⟨p4, e4, h4, a4, b4⟩ := spoilt_dr c hc (mkB (textN p2.1)) (⟨#[48, 49, 50, 51, 43, 120]⟩ : ByteArray) (by decide) (by decide) (by rw [mkB_size]; omega) p1.2.1 p1.2.2 302 a1 (by omega) (by omega)
    rw [mkB_size] at h4
    refine ⟨p4.1.data.toList, ?_, by rw [(hsz p4.1).2]; omega⟩
    rw [← (hsz p4.1).1]
    exact Ev.bind e2 (Ev.bind e3 (Ev.bind e1 (ev_pos c1 (Ev.bind e4 (ev_now rfl)))))
  · exact ⟨textN p2.1, Ev.bind e2 (Ev.bind e3 (Ev.bind e1 (ev_neg c1 (ev_now rfl)))), by omega⟩

theorem xHas_l (n : Int) (l : List Int) (hn : l.length ≤ 1048576) : ∀ (ys : List Int) (i : Int), 0 ≤ i → l.drop i.toNat = ys → Ev (fun k => laws_xHas.l0 k n l (l.length : Int) i) (decide (n ∈ ys)) := by
  intro ys
  induction ys with
  | nil =>
    intro i h0 h
    have := drop_nil h0 h
    exact Ev.step (fun k => laws_xHas.l0.eq_2 ..) (ev_neg (by omega) (ev_now (by simp)))
  | cons y ys ih =>
    intro i h0 h
    obtain ⟨h1, h2, h3, _⟩ := drop_cons h0 h
    refine Ev.step (fun k => laws_xHas.l0.eq_2 ..) (ev_pos h1 (ev_pos h0 (ev_pos h1 ?_)))
    rw [h2, w64 (x := i + 1) (by omega) (by omega)]
    by_cases e : y = n
    · exact ev_pos e (ev_now (by simp [e]))
    · exact ev_neg e (ev_val (ih (i + 1) (by omega) h3) (by simp [Ne.symm e]))
theorem xHas_ev (l : List Int) (n : Int) (hn : l.length ≤ 1048576) : Ev (fun k => laws_xHas.f k l n) (decide (n ∈ l)) := xHas_l n l hn l 0 (by omega) rfl
theorem xSum_l (l : List Int) (hn : l.length ≤ 1048576) (hb : ∀ x ∈ l, 0 ≤ x ∧ x ≤ 1000) : ∀ (ys : List Int) (i s : Int), 0 ≤ i → l.drop i.toNat = ys → 0 ≤ s → s + 1000 * ys.length ≤ 1000000000000 → Ev (fun k => laws_xSum.l0 k s l (l.length : Int) i) (s + ys.sum) := by
  intro ys
  induction ys with
  | nil =>
    intro i s h0 h _ _
    have := drop_nil h0 h
    exact Ev.step (fun k => laws_xSum.l0.eq_2 ..) (ev_neg (by omega) (ev_now (by simp)))
  | cons y ys ih =>
    intro i s h0 h hs hb2
    obtain ⟨h1, h2, h3, _⟩ := drop_cons h0 h
    have hy := hb y (List.mem_of_mem_drop (by rw [h]; exact List.mem_cons_self))
    simp only [List.length_cons] at hb2
    refine Ev.step (fun k => laws_xSum.l0.eq_2 ..) (ev_pos h1 (ev_pos h0 (ev_pos h1 ?_)))
    rw [h2, w64 (x := i + 1) (by omega) (by omega), w64 (by omega) (by omega)]
    exact ev_val (ih (i + 1) (s + y) (by omega) h3 (by omega) (by omega)) (by rw [List.sum_cons]; omega)
theorem xSum_ev (l : List Int) (hn : l.length ≤ 1048576) (hb : ∀ x ∈ l, 0 ≤ x ∧ x ≤ 1000) : Ev (fun k => laws_xSum.f k l) l.sum :=
  ev_val (xSum_l l hn hb l 0 0 (by omega) rfl (by omega) (by omega)) (by omega)
theorem xSame_l (l : List Int) (hn : l.length ≤ 1048576) : ∀ (ys : List Int) (i : Int), 0 ≤ i → l.drop i.toNat = ys → Ev (fun k => laws_xSame.l0 k l l (l.length : Int) i) true := by
  intro ys
  induction ys with
  | nil =>
    intro i h0 h
    have := drop_nil h0 h
    exact Ev.step (fun k => laws_xSame.l0.eq_2 ..) (ev_neg (by omega) (ev_now rfl))
  | cons y ys ih =>
    intro i h0 h
    obtain ⟨h1, h2, h3, _⟩ := drop_cons h0 h
    refine Ev.step (fun k => laws_xSame.l0.eq_2 ..) (ev_pos h1 (ev_pos h0 (ev_pos h1 (ev_pos h1 (ev_pos rfl ?_)))))
    rw [w64 (x := i + 1) (by omega) (by omega)]
    exact ih (i + 1) (by omega) h3
theorem xSame_ev (l : List Int) (hn : l.length ≤ 1048576) : Ev (fun k => laws_xSame.f k l l) true := by
  unfold laws_xSame.f
  exact ev_pos rfl (xSame_l l hn l 0 (by omega) rfl)
theorem rd_eq (l : List Int) (i : Int) (h0 : 0 ≤ i) (h : i < (l.length : Int)) : rd l i = l[i.toNat]'(by omega) := by
  unfold rd
  rw [List.getD_eq_getElem?_getD, List.getElem?_eq_getElem (by omega)]; rfl
theorem xRises_l (l : List Int) (hn : l.length ≤ 1048576) (hp : l.Pairwise (· < ·)) : ∀ (d : Nat) (i : Int), 1 ≤ i → (l.length : Int) ≤ i + d → Ev (fun k => laws_xRises.l0 k l i) true := by
  intro d
  induction d with
  | zero =>
    intro i h0 h
    exact Ev.step (fun k => laws_xRises.l0.eq_2 ..) (ev_neg (by omega) (ev_now rfl))
  | succ d ih =>
    intro i h0 h
    refine Ev.step (fun k => laws_xRises.l0.eq_2 ..) ?_
    by_cases c : i < (l.length : Int)
    · rw [w64 (x := i - 1) (by omega) (by omega), w64 (x := i + 1) (by omega) (by omega)]
      refine ev_pos c (ev_pos (by omega) (ev_pos (by omega) (ev_pos (by omega) ?_)))
      have e1 := rd_eq l (i - 1) (by omega) (by omega)
      have e2 := rd_eq l i (by omega) c
      have := List.pairwise_iff_getElem.1 hp (i - 1).toNat i.toNat (by omega) (by omega) (by omega)
      exact ev_neg (by rw [e1, e2]; omega) (ih (i + 1) (by omega) (by omega))
    · exact ev_neg c (ev_now rfl)
theorem xRises_ev (l : List Int) (hn : l.length ≤ 1048576) (hp : l.Pairwise (· < ·)) : Ev (fun k => laws_xRises.f k l) true := by
  unfold laws_xRises.f
  exact xRises_l l hn hp l.length 1 (by omega) (by omega)

theorem FC_j9 (l : List UInt8) (_hl : l.length ≤ 1000000) : Ev (fun k => laws_FnChaptersBegin.j9 k (mkB l) (specC l).1 (specC l).2 false) true := by
  refine Ev.step (fun k => laws_FnChaptersBegin.j9.eq_2 ..) (ev_neg (by simp) ?_)
  rcases specC_or l with h | ⟨ys, h1, h2, h3⟩
  · rw [h]; exact ev_neg (by simp) (ev_now rfl)
  · have hg := goodC_true h1
    have hc := implChText ys (by omega)
    have e : chTextM ys = (mkB (textN ys), true) := if_pos h1
    rw [e] at hc
    rw [h3]
    refine ev_pos rfl (Ev.bind hc (ev_pos rfl (ev_now ?_)))
    rw [h2]; simp
theorem FC_j8 (v : List Int) (f t : Int) (hv : v.length ≤ 1000) (l : List UInt8) (hl : l.length ≤ 1000000) : Ev (fun k => laws_FnChaptersBegin.j8 k v f t (mvM v f t).1 (mvM v f t).2 (mkB l) (specC l).1 (specC l).2) true := by
  have h9 := FC_j9 l hl
  refine Ev.step (fun k => laws_FnChaptersBegin.j8.eq_2 ..) ?_
  by_cases hb : mvB v f t = true
  · obtain ⟨hg, hf, ht⟩ := mvB_true hb
    have e : mvM v f t = (mvL v f.toNat t.toNat, true) := if_pos hb
    have hlen := mvL_len v f.toNat t.toNat (by omega) (by omega)
    have hgd := mvL_good v f.toNat t.toNat (by omega) (by omega) hg
    have hb2 : mvB (mvL v f.toNat t.toNat) t f = true := by unfold mvB; rw [hgd, hlen, decide_eq_true hf, decide_eq_true ht]; rfl
    have e2 : mvM (mvL v f.toNat t.toNat) t f = (v, true) := by
      unfold mvM
      rw [if_pos hb2, mvL_back v f.toNat t.toNat (by omega) (by omega)]
    have hm := implMove_ev (mvL v f.toNat t.toNat) t f (by omega)
    rw [e2] at hm
    have hat : rd (mvL v f.toNat t.toNat) t = rd v f := mvL_at v f.toNat t.toNat (by omega) (by omega)
    rw [e]
    simp only
    refine ev_pos trivial (Ev.bind hm (ev_pos (by rw [hlen]) (ev_pos ht.1 (ev_pos (by omega) (ev_pos hf.1 (ev_pos (by omega) (ev_pos hat (ev_pos rfl (Ev.bind (xSame_ev v (by omega)) ?_)))))))))
    exact h9
  · have e : mvM v f t = ([], false) := if_neg hb
    rw [e]
    refine ev_neg (by simp) ?_
    have h9' := h9
    rcases specC_or l with h | ⟨ys, h1, h2, h3⟩
    · rw [h]; exact ev_neg (by simp) (ev_now rfl)
    · have hg := goodC_true h1
      have hc := implChText ys (by omega)
      have e : chTextM ys = (mkB (textN ys), true) := if_pos h1
      rw [e] at hc
      rw [h3]
      refine ev_pos rfl (Ev.bind hc (ev_pos rfl (ev_now ?_)))
      rw [h2]; simp
theorem FC_j7 (u : List Int) (side : Bool) (page : Int) (hu : u.length ≤ 1000) (hp : -100000 ≤ page ∧ page ≤ 100000) (v : List Int) (f t : Int) (hv : v.length ≤ 1000) (l : List UInt8) (hl : l.length ≤ 1000000) :
    Ev (fun k => laws_FnChaptersBegin.j7 k u side page (copM u side page).1 (copM u side page).2.1 (copM u side page).2.2 v f t (mvM v f t).1 (mvM v f t).2 (mkB l) (specC l).1 (specC l).2) true := by
  have h8 := FC_j8 v f t hv l hl
  refine Ev.step (fun k => laws_FnChaptersBegin.j7.eq_2 ..) ?_
  by_cases h : (copM u side page).2.2 = true
  · have hg : goodC u = true := by
      by_cases hg : goodC u = true
      · exact hg
      · rw [show copM u side page = (0, 0, false) from if_neg hg] at h; cases h
    obtain ⟨g1, g2, g3⟩ := goodC_true hg
    have e : copM u side page = copL page u (begL side u 1) 0 := if_pos hg
    have hbeg := begs_ev u side (by omega)
    rw [if_pos hg] at hbeg
    rw [e] at h ⊢
    obtain ⟨j, n, b, h1, h2, h3, h4, h5, h6⟩ := cop_at page u (begL side u 1) 0 h
    have hbl := begL_length side u 1
    have hj := (List.getElem?_eq_some_iff.1 h2).1
    have hn := g3 n (List.mem_of_getElem? h2)
    have hbb := begL_bd side u 1 g3 b (List.mem_of_getElem? h3)
    have r1 : rd u ((0 : Int) + (j : Int)) = n := by
      unfold rd
      rw [show ((0 : Int) + (j : Int)).toNat = j from by omega, List.getD_eq_getElem?_getD, h2]; rfl
    have r2 : rd (begL side u 1) ((0 : Int) + (j : Int)) = b := by
      unfold rd
      rw [show ((0 : Int) + (j : Int)).toNat = j from by omega, List.getD_eq_getElem?_getD, h3]; rfl
    rw [h, h1]
    generalize (copL page u (begL side u 1) 0).2.1 = pl at h4 h5 h6 ⊢
    refine ev_pos rfl (Ev.bind hbeg (ev_pos rfl (ev_neg (by omega) (ev_pos (by omega) (ev_pos (by omega) (ev_neg (by rw [r1]; omega) (ev_pos (by simp only; omega) ?_)))))))
    simp only
    rw [r2, w64 (x := b + pl) (by omega) (by omega), w64 (by omega) (by omega)]
    exact ev_pos (by omega) h8
  · exact ev_neg h h8
theorem FC_j6 (u : List Int) (side : Bool) (page : Int) (hu : u.length ≤ 1000) (hp : -100000 ≤ page ∧ page ≤ 100000) (v : List Int) (f t : Int) (hv : v.length ≤ 1000) (l : List UInt8) (hl : l.length ≤ 1000000) :
    Ev (fun k => laws_FnChaptersBegin.j6 k u side page (copM u side page).1 (copM u side page).2.1 (copM u side page).2.2 v f t (mvM v f t).1 (mvM v f t).2 (mkB l) (specC l).1 (specC l).2 false) true := by
  have h7 := FC_j7 u side page hu hp v f t hv l hl
  refine Ev.step (fun k => laws_FnChaptersBegin.j6.eq_2 ..) (ev_neg (by simp) (Ev.bind (areCh_ev u (by omega)) ?_))
  by_cases hg : goodC u = true
  · obtain ⟨g1, g2, g3⟩ := goodC_true hg
    have hpg := implPages_ev u side (by omega)
    have hbl := implBlanks_ev u side (by omega)
    have e1 : pagesM u side = (begEnd side u 1 - 1, true) := if_pos hg
    have e2 : blanksM u side = (blL side u 1, true) := if_pos hg
    have e : copM u side page = copL page u (begL side u 1) 0 := if_pos hg
    have hi := cop_iff side page u 1 0 g3
    have hlen := blL_len side u 1
    rw [e1] at hpg
    rw [e2] at hbl
    refine ev_pos hg (Ev.bind hpg (Ev.bind hbl (ev_pos rfl (ev_pos rfl ?_))))
    rw [← e] at hi
    by_cases c1 : page ≥ 1
    · by_cases c2 : page ≤ begEnd side u 1 - 1
      · refine ev_pos c1 (ev_pos c2 (Ev.bind (xHas_ev (blL side u 1) page (by omega)) (ev_neg ?_ h7)))
        by_cases c3 : page ∈ blL side u 1
        · have : (copM u side page).2.2 = false := Bool.eq_false_iff.2 (fun q => (hi.1 q).2.2 c3)
          rw [this, decide_eq_true c3]; simp
        · have : (copM u side page).2.2 = true := hi.2 ⟨by omega, by omega, c3⟩
          rw [this, decide_eq_false c3]; simp
      · have : (copM u side page).2.2 = false := Bool.eq_false_iff.2 (fun q => by have := (hi.1 q).2.1; omega)
        exact ev_pos c1 (ev_neg c2 (ev_neg (by rw [this]; simp) h7))
    · have : (copM u side page).2.2 = false := Bool.eq_false_iff.2 (fun q => by have := (hi.1 q).1; omega)
      exact ev_neg c1 (ev_neg (by rw [this]; simp) h7)
  · exact ev_neg hg h7
theorem mvM_small (v : List Int) (f t : Int) (hv : v.length ≤ 1000) : (mvM v f t).1.length ≤ 1000 := by
  unfold mvM
  split
  · rename_i h
    obtain ⟨hg, hf, ht⟩ := mvB_true h
    rw [mvL_len v _ _ (by omega) (by omega)]; exact hv
  · simp
theorem FC_j5 (c : List Int) (hc : byteL c) : Ev (fun k => laws_FnChaptersBegin.j5 k c) true := by
  obtain ⟨u, side, page, ed, hu, hp⟩ := drawCP c hc
  obtain ⟨v, f, t, em, hv⟩ := drawMC c hc
  obtain ⟨l, el, hl⟩ := drawPC c hc
  have h6 := FC_j6 u side page (by omega) hp v f t (by omega) l hl
  have hms := mvM_small v f t (by omega)
  have hcs := specC_small l
  have hi := implC_ev l (by omega)
  refine Ev.step (fun k => laws_FnChaptersBegin.j5.eq_2 ..) ?_
  refine Ev.bind ed (Ev.bind (implCop_ev u side page (by omega) hp) (Ev.bind (specCop_ev u side page (by omega) hp) (Ev.bind em (Ev.bind (implMove_ev v f t (by omega)) (Ev.bind (specMove_ev v f t (by omega)) ?_)))))
  refine Ev.bind el (Ev.bind hi (Ev.bind (specC_ev l) ?_))
  refine ev_neg (by simp) (ev_pos rfl (ev_pos rfl (ev_neg (by simp) (Ev.bind (xSame_ev (mvM v f t).1 (by omega)) (ev_pos rfl (ev_neg (by simp) (Ev.bind (xSame_ev (specC l).1 (by omega)) ?_)))))))
  exact h6
theorem FC_l1 (c : List Int) (hc : byteL c) (xs : List Int) (hg : goodC xs = true) : ∀ (ys : List Int) (i : Int) (S : List Bool) (T : List Int), 0 ≤ i → (ordL xs).drop i.toNat = ys → S.length = xs.length → ys.Nodup → (∀ y ∈ ys, 0 ≤ y ∧ y < xs.length ∧ S.getD y.toNat false = false) → T ++ ys.map (rd xs) = restL xs (lastC xs) ++ [xs.getD (lastC xs) 0] → T.length + ys.length ≤ 1000 →
    Ev (fun k => laws_FnChaptersBegin.l1 k c xs (fewM xs).1 (mkB (textN xs)) S T (ordL xs) ((ordL xs).length : Int) i) true := by
  obtain ⟨g1, g2, g3⟩ := goodC_true hg
  intro ys
  induction ys with
  | nil =>
    intro i S T h0 h hS _ _ hT _
    have := drop_nil h0 h
    rw [List.map_nil, List.append_nil] at hT
    have htg := turned_good xs hg
    have htb := turned_blanks xs hg
    have hb := implBlanks_ev T true (by rw [hT]; have := goodC_true htg; omega)
    have e : blanksM T true = (blL true T 1, true) := by unfold blanksM; rw [hT, if_pos htg]
    rw [e] at hb
    have hp := implC_ev (textN xs) (by have := textN_48 xs hg; omega)
    rw [specC_ok xs hg] at hp
    refine Ev.step (fun k => laws_FnChaptersBegin.l1.eq_2 ..) (ev_neg (by omega) (Ev.bind hb (Ev.bind hp (ev_pos rfl (ev_pos (by rw [hT]; exact htb) (ev_pos rfl (Ev.bind (xSame_ev xs (by omega)) (ev_pos rfl (FC_j5 c hc)))))))))
  | cons y ys ih =>
    intro i S T h0 h hS hnd hy hT hTl
    obtain ⟨h1, h2, h3, _⟩ := drop_cons h0 h
    obtain ⟨y0, y1, yS⟩ := hy y List.mem_cons_self
    rw [List.nodup_cons] at hnd
    simp only [List.length_cons] at hTl
    have hol := (ordL_facts xs hg).1
    refine Ev.step (fun k => laws_FnChaptersBegin.l1.eq_2 ..) (ev_pos h1 (ev_pos h0 (ev_pos h1 ?_)))
    rw [h2, w64 (x := i + 1) (by omega) (by omega)]
    refine ev_neg (by omega) (ev_neg (by omega) (ev_pos y0 (ev_pos (by omega) (ev_neg (by unfold rdOf; rw [yS]; simp) (ev_pos y1 (ev_pos (by omega) ?_))))))
    refine ih (i + 1) (S.set y.toNat true) (T ++ [rd xs y]) (by omega) h3 (by rw [List.length_set]; exact hS) hnd.2 (fun z hz => ?_) (by rw [List.append_assoc]; exact hT) (by simp only [List.length_append, List.length_cons, List.length_nil]; omega)
    obtain ⟨z0, z1, zS⟩ := hy z (List.mem_cons_of_mem _ hz)
    refine ⟨z0, z1, ?_⟩
    have hne : y.toNat ≠ z.toNat := fun q => hnd.1 (by rw [show y = z from by omega]; exact hz)
    rw [List.getD_eq_getElem?_getD] at zS ⊢
    rw [List.getElem?_set_ne hne]
    exact zS
theorem FC_l0 (c : List Int) (hc : byteL c) (xs : List Int) (right : Bool) (hg : goodC xs = true) : ∀ (ys : List Int) (i p : Int), 0 ≤ i → xs.drop i.toNat = ys → (begL right xs 1).drop i.toNat = begL right ys p → (i = 0 ∨ rd (begL right xs 1) (i - 1) + rd xs (i - 1) = p) → 1 ≤ p → p + 121 * ys.length ≤ 100000 →
    Ev (fun k => laws_FnChaptersBegin.l0 k c xs right (begL right xs 1) (fewM xs).1 (ordL xs) (mkB (textN xs)) (longM xs).1 (longM xs).2.1 (begL right xs 1) ((begL right xs 1).length : Int) i) true := by
  obtain ⟨g1, g2, g3⟩ := goodC_true hg
  have hbl := begL_length right xs 1
  obtain ⟨lo0, lo1, lo2, lo3, lo4⟩ := longM_facts xs hg
  intro ys
  induction ys with
  | nil =>
    intro i p h0 h _ _ _ _
    have := drop_nil h0 h
    have ho := ordL_facts xs hg
    refine Ev.step (fun k => laws_FnChaptersBegin.l0.eq_2 ..) (ev_neg (by omega) (ev_pos (by omega) (ev_pos (by omega) ?_)))
    refine FC_l1 c hc xs hg (ordL xs) 0 _ [] (by omega) rfl (by simp) ho.2.1 (fun y hy => ⟨(ho.2.2.1 y hy).1, (ho.2.2.1 y hy).2, ?_⟩) (by rw [List.nil_append]; exact ho.2.2.2) (by rw [ho.1]; simp; omega)
    rw [List.getD_eq_getElem?_getD, List.getElem?_replicate]
    split <;> rfl
  | cons y ys ih =>
    intro i p h0 h hB hprev hp1 hpb
    obtain ⟨h1, h2, h3, _⟩ := drop_cons h0 h
    rw [begL] at hB
    obtain ⟨b1, b2, b3, _⟩ := drop_cons h0 hB
    have hy := g3 y (List.mem_of_mem_drop (by rw [h]; exact List.mem_cons_self))
    have hq := begP_bd right p
    simp only [List.length_cons] at hpb
    have nx := ih (i + 1) (begP right p + y) (by omega) h3 b3 (.inr (by rw [show i + 1 - 1 = i from by omega, b2, h2])) (by omega) (by omega)
    have hj3 : Ev (fun k => laws_FnChaptersBegin.j3 k c xs right (begL right xs 1) (fewM xs).1 (ordL xs) (mkB (textN xs)) (longM xs).1 (longM xs).2.1 i (begL right xs 1) ((begL right xs 1).length : Int) i false) true := by
      have hle := lo3 i h0 h1
      refine Ev.step (fun k => laws_FnChaptersBegin.j3.eq_2 ..) (ev_neg (by simp) (ev_pos h0 (ev_pos h1 (ev_neg (by omega) ?_))))
      rw [w64 (x := i + 1) (by omega) (by omega)]
      by_cases c1 : rd xs i = (longM xs).2.1
      · refine ev_pos c1 (ev_neg (fun q => by have := lo4 i h0 q; omega) ?_)
        by_cases c2 : i = (longM xs).1
        · exact ev_pos c2 nx
        · exact ev_neg c2 nx
      · exact ev_neg c1 (ev_neg (fun q => c1 (by rw [q]; exact lo2)) nx)
    have hmid : Ev (fun k => if i > 0 then (if 0 ≤ (wrap64 (i - 1)) then (if (wrap64 (i - 1)) < ((begL right xs 1).length : Int) then (if (wrap64 (i - 1)) < (xs.length : Int) then (if (rd (begL right xs 1) i) < (wrap64 ((rd (begL right xs 1) (wrap64 (i - 1))) + (rd xs (wrap64 (i - 1))))) then (laws_FnChaptersBegin.j3 k c xs right (begL right xs 1) (fewM xs).1 (ordL xs) (mkB (textN xs)) (longM xs).1 (longM xs).2.1 i (begL right xs 1) ((begL right xs 1).length : Int) i true) else (laws_FnChaptersBegin.j3 k c xs right (begL right xs 1) (fewM xs).1 (ordL xs) (mkB (textN xs)) (longM xs).1 (longM xs).2.1 i (begL right xs 1) ((begL right xs 1).length : Int) i (decide ((rd (begL right xs 1) i) > (wrap64 ((wrap64 ((rd (begL right xs 1) (wrap64 (i - 1))) + (rd xs (wrap64 (i - 1))))) + 1)))))) else (none)) else (none)) else (none)) else (laws_FnChaptersBegin.j3 k c xs right (begL right xs 1) (fewM xs).1 (ordL xs) (mkB (textN xs)) (longM xs).1 (longM xs).2.1 i (begL right xs 1) ((begL right xs 1).length : Int) i false)) true := by
      by_cases c1 : i > 0
      · have hpv : rd (begL right xs 1) (i - 1) + rd xs (i - 1) = p := by
          rcases hprev with q | q
          · omega
          · exact q
        rw [w64 (x := i - 1) (by omega) (by omega), b2, hpv, w64 (x := p) (by omega) (by omega), w64 (x := p + 1) (by omega) (by omega), decide_eq_false (by omega : ¬ begP right p > p + 1)]
        exact ev_pos c1 (ev_pos (by omega) (ev_pos (by omega) (ev_pos (by omega) (ev_neg (by omega) hj3))))
      · exact ev_neg c1 hj3
    refine Ev.step (fun k => laws_FnChaptersBegin.l0.eq_2 ..) (ev_pos b1 (ev_pos h0 (ev_pos b1 ?_)))
    by_cases c1 : right = true
    · refine ev_pos c1 (ev_pos ?_ hmid)
      rw [b2, Int.tmod_eq_emod_of_nonneg (by omega)]
      unfold begP
      by_cases c2 : p % 2 = 0
      · rw [if_pos ⟨c1, c2⟩]; omega
      · rw [if_neg (fun z => c2 z.2)]; omega
    · exact ev_neg c1 hmid
theorem FC_j0 (c : List Int) (hc : byteL c) (xs : List Int) (right : Bool) (hn : xs.length ≤ 1000) : Ev (fun k => laws_FnChaptersBegin.j0 k c xs right (begM xs right).1 (begM xs right).2 (blanksM xs right).1 (pagesM xs right).1 (fewM xs).1 (orderM xs).1 (countM xs).1 (chTextM xs).1 (longM xs).1 (longM xs).2.1 false) true := by
  refine Ev.step (fun k => laws_FnChaptersBegin.j0.eq_2 ..) (ev_neg (by simp) ?_)
  by_cases hg : goodC xs = true
  · obtain ⟨g1, g2, g3⟩ := goodC_true hg
    have e1 : begM xs right = (begL right xs 1, true) := if_pos hg
    have e2 : blanksM xs right = (blL right xs 1, true) := if_pos hg
    have e3 : pagesM xs right = (begEnd right xs 1 - 1, true) := if_pos hg
    have e4 : orderM xs = (ordL xs, true) := if_pos hg
    have e5 : chTextM xs = (mkB (textN xs), true) := if_pos hg
    rw [e1, e2, e3, e4, e5]
    simp only
    have hbl := begL_length right xs 1
    have hll := blL_len right xs 1
    have hfew := blanks_few xs hg
    have hcnt := countM_pos xs hg
    have hsum := begEnd_sum right xs 1
    have hbd := begEnd_bd right xs 1 g3
    have hol := (ordL_facts xs hg).1
    have h0 : rd (begL right xs 1) 0 = 1 := by
      rcases xs with _ | ⟨x, xs⟩
      · simp at g1
      · rw [begL]
        show begP right 1 = 1
        unfold begP; rw [if_neg (by omega)]
    have hj1 : Ev (fun k => laws_FnChaptersBegin.j1 k c xs right (begL right xs 1) (fewM xs).1 (ordL xs) (mkB (textN xs)) (longM xs).1 (longM xs).2.1 (((ordL xs).length : Int) != (xs.length : Int))) true := by
      have e : (((ordL xs).length : Int) != (xs.length : Int)) = false := by rw [hol]; simp
      rw [e]
      refine Ev.step (fun k => laws_FnChaptersBegin.j1.eq_2 ..) (ev_neg (by simp) ?_)
      exact FC_l0 c hc xs right hg xs 0 1 (by omega) rfl rfl (.inl rfl) (by omega) (by omega)
    refine ev_pos trivial (ev_pos (by rw [hbl]) (ev_pos (by omega) (ev_pos h0 (Ev.bind (xRises_ev _ (by omega) (begL_rises right xs 1 g3)) (ev_pos rfl (Ev.bind (xRises_ev _ (by omega) (blL_rises right xs 1 g3)) (ev_pos rfl (Ev.bind (xSum_ev xs (by omega) (fun n hn => by have := g3 n hn; omega)) (ev_pos (by rw [w64 (by omega) (by omega)]; omega) ?_)))))))))
    by_cases c1 : right = true
    · rw [c1] at hll ⊢
      rw [c1] at hj1
      exact ev_pos (by simp) (ev_neg (by omega) (ev_neg (by omega) (ev_neg (by omega) hj1)))
    · have e : right = false := Bool.eq_false_iff.2 c1
      refine ev_neg c1 (ev_pos (by rw [e, blL_false]; rfl) (ev_neg (by omega) (ev_neg (by omega) hj1)))
  · have e1 : begM xs right = ([], false) := if_neg hg
    rw [e1]
    exact ev_neg (by simp) (FC_j5 c hc)
theorem FnChaptersBegin (c d : List Int) (_hc : c.length ≤ 9223372036854775807) (hcb : ∀ s ∈ c, (Lit.int .u8 s).wf = true) (_hd : d.length ≤ 9223372036854775807) (hdb : ∀ s ∈ d, (Lit.int .u8 s).wf = true) : ∃ k, laws_FnChaptersBegin.f k c d = some true := by
  refine Ev.rounds ?_
  have hb : ∀ l : List Int, (∀ s ∈ l, (Lit.int .u8 s).wf = true) → byteL l := fun l h x hx => by
    have := h x hx
    simp [Lit.wf, IntKind.min, IntKind.max, IntKind.signed, IntKind.bits] at this
    omega
  obtain ⟨xs, right, ed, hl⟩ := drawBO c (hb c hcb)
  have h0 := FC_j0 d (hb d hdb) xs right (by omega)
  unfold laws_FnChaptersBegin.f
  obtain ⟨b, eb⟩ : ∃ b, laws_big.f c d = some b := by
    unfold laws_big.f
    split
    · exact ⟨_, rfl⟩
    · exact ⟨_, rfl⟩
  refine ev_some eb ?_
  by_cases hbb : b = true
  · exact ev_pos hbb (ev_now rfl)
  have n1 : (begM xs right).1.length ≤ 1000 := by
    unfold begM
    split
    · rw [begL_length]; omega
    · simp
  have n2 : (blanksM xs right).1.length ≤ 1000 := by
    unfold blanksM
    split
    · have := blL_len right xs 1
      show (blL right xs 1).length ≤ 1000
      omega
    · simp
  have n3 := orderM_small xs
  have f1 : (begM xs right).2 = goodC xs := by
    unfold begM
    split
    · rename_i h; exact h.symm
    · rename_i h; exact (Bool.eq_false_iff.2 h).symm
  have f2 : (blanksM xs right).2 = goodC xs := by
    unfold blanksM
    split
    · rename_i h; exact h.symm
    · rename_i h; exact (Bool.eq_false_iff.2 h).symm
  have f3 : (pagesM xs right).2 = goodC xs := by
    unfold pagesM
    split
    · rename_i h; exact h.symm
    · rename_i h; exact (Bool.eq_false_iff.2 h).symm
  have f4 : (fewM xs).2 = goodC xs := by
    unfold fewM
    split
    · rename_i h; exact h.symm
    · rename_i h; exact (Bool.eq_false_iff.2 h).symm
  have f5 : (orderM xs).2 = goodC xs := by
    unfold orderM
    split
    · rename_i h; exact h.symm
    · rename_i h; exact (Bool.eq_false_iff.2 h).symm
  have f6 : (countM xs).2 = goodC xs := by
    unfold countM
    split
    · rename_i h; exact h.symm
    · rename_i h; exact (Bool.eq_false_iff.2 h).symm
  have f7 : (chTextM xs).2 = goodC xs := by
    unfold chTextM
    split
    · rename_i h; exact h.symm
    · rename_i h; exact (Bool.eq_false_iff.2 h).symm
  have f8 : (longM xs).2.2 = goodC xs := by
    unfold longM
    split
    · rename_i h; exact h.symm
    · rename_i h; exact (Bool.eq_false_iff.2 h).symm
  have hsb := specBeg_ev xs right (by omega) (fun k => rfl)
  have hib : Ev (fun k => impl_BeginningsOf.f k xs right) (begM xs right) := begs_ev xs right (by omega)
  have ha := areCh_ev xs (by omega)
  have hsa : Ev (fun k => spec_AreChapters.f k xs) (goodC xs) := by
    unfold spec_AreChapters.f
    exact Ev.bind (caGood_ev xs (by omega)) (ev_now rfl)
  refine ev_neg hbb (Ev.bind ed (Ev.bind hib (Ev.bind hsb (Ev.bind (implBlanks_ev xs right (by omega)) (Ev.bind (specBlanks_ev xs right (by omega)) (Ev.bind (implPages_ev xs right (by omega)) (Ev.bind (specPages_ev xs right (by omega)) ?_)))))))
  refine Ev.bind (implFew_ev xs (by omega)) (Ev.bind (specFew_ev xs (by omega)) (Ev.bind (implOrder_ev xs (by omega)) (Ev.bind (specOrder_ev xs (by omega)) (Ev.bind (implCnt_ev xs (by omega)) (Ev.bind (specCnt_ev xs (by omega)) ?_)))))
  refine Ev.bind (implChText xs (by omega)) (Ev.bind (specChText xs (by omega)) (Ev.bind (implLong_ev xs (by omega)) (Ev.bind (specLong_ev xs (by omega)) ?_)))
  refine ev_neg (by simp) (Ev.bind (xSame_ev _ (by omega)) (ev_pos rfl (ev_neg (by simp) (Ev.bind (xSame_ev _ (by omega)) (ev_pos rfl (ev_neg (by simp) (ev_pos rfl (ev_neg (by simp) (ev_pos rfl ?_)))))))))
  refine ev_neg (by simp) (Ev.bind (xSame_ev _ (by omega)) (ev_pos rfl (ev_neg (by simp) (ev_pos rfl (ev_neg (by simp) (ev_pos rfl (ev_neg (by simp) (ev_pos rfl (ev_pos rfl ?_)))))))))
  refine Ev.bind ha (ev_neg (by rw [f1]; simp) (Ev.bind ha (Ev.bind hsa (ev_neg (by simp) ?_))))
  refine ev_neg (by rw [f2, f1]; simp) (ev_neg (by rw [f3, f1]; simp) (ev_neg (by rw [f4, f1]; simp) (ev_neg (by rw [f5, f1]; simp) (ev_neg (by rw [f6, f1]; simp) (ev_neg (by rw [f7, f1]; simp) ?_)))))
  have e8 : ((longM xs).2.2 != (begM xs right).2) = false := by rw [f8, f1]; simp
  rw [e8]
  exact h0

end Go.Proofs.YtpedlkhfeoeogaaGreatDoor.Pure
