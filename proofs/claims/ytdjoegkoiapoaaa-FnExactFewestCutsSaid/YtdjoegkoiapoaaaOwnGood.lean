import Derived.Test.YtdjoegkoiapoaaaPl1Hasx1
import Derived.Test.YtdjoegkoiapoaaaPl1Allx1
import Derived.Test.YtdjoegkoiapoaaaPtoIntSx1
import Derived.Test.YtdjoegkoiapoaaaPeqIntSx1
import Derived.Test.YtdjoegkoiapoaaaPIsBindingx1
namespace Go.Proofs.Ytdjoegkoiapoaaa.Own
open Go.RowKit Go.Proofs.YtdjoegkoiapoaaaW.PrintWords Go.Proofs.YtdjoegkoiapoaaaW.PrintLast Go.Proofs.YtdjoegkoiapoaaaW.PrintMore
attribute [local go_sem] max2_int min2_int max_two min_two max_three min_three max_four min_four
set_option linter.unusedVariables false
set_option linter.unusedSimpArgs false
theorem w64 {x : Int} (h1 : -9223372036854775808 ≤ x) (h2 : x ≤ 9223372036854775807) : wrap64 x = x := by
  unfold wrap64; omega
theorem ev_pos {α : Type} {c : Prop} [Decidable c] {f g : Nat → Option α} {r : α} (hc : c) (h : Ev f r) : Ev (fun k => if c then f k else g k) r := by
  simpa only [if_pos hc] using h
theorem ev_neg {α : Type} {c : Prop} [Decidable c] {f g : Nat → Option α} {r : α} (hc : ¬ c) (h : Ev g r) : Ev (fun k => if c then f k else g k) r := by
  simpa only [if_neg hc] using h
theorem ev_now {α : Type} {r s : α} (h : r = s) : Ev (fun _ => some r) s := h ▸ Ev.now r
theorem ev_some {α β : Type} {x : Option α} {f : Nat → α → Option β} {a : α} {r : β} (h : x = some a) (k : Ev (fun n => f n a) r) : Ev (fun n => x.bind (f n)) r := by
  subst h; exact k
theorem ev_val {α : Type} {g : Nat → Option α} {a b : α} (h : Ev g a) (e : a = b) : Ev g b := e ▸ h
theorem ev_suc {α : Type} {g : Nat → Option α} {r : α} (h : Ev (fun k => g (k + 1)) r) : Ev g r := Ev.step (fun _ => rfl) h
theorem drop_nil {α : Type} {xs : List α} {i : Int} (h0 : 0 ≤ i) (h : xs.drop i.toNat = []) : (xs.length : Int) ≤ i := by
  have := List.drop_eq_nil_iff.1 h
  omega
theorem drop_get {α : Type} {xs : List α} {i : Int} {y : α} {ys : List α} (h0 : 0 ≤ i) (h : xs.drop i.toNat = y :: ys) : i < (xs.length : Int) ∧ (∀ d, xs.getD i.toNat d = y) ∧ xs.drop (i + 1).toNat = ys ∧ xs.take (i + 1).toNat = xs.take i.toNat ++ [y] := by
  have hl : i.toNat < xs.length := by
    rcases Nat.lt_or_ge i.toNat xs.length with hl | hl
    · exact hl
    · rw [List.drop_eq_nil_iff.2 hl] at h; cases h
  have e := List.drop_eq_getElem_cons hl
  rw [h] at e
  injection e with e1 e2
  have h1 : (i + 1).toNat = i.toNat + 1 := by omega
  refine ⟨by omega, fun d => ?_, ?_, ?_⟩
  · rw [List.getD_eq_getElem?_getD, List.getElem?_eq_getElem hl, e1]; rfl
  · rw [h1]; exact e2.symm
  · rw [h1, List.take_add_one, List.getElem?_eq_getElem hl, e1]; rfl
theorem drop_cons {xs : List Int} {i : Int} {y : Int} {ys : List Int} (h0 : 0 ≤ i) (h : xs.drop i.toNat = y :: ys) : i < (xs.length : Int) ∧ rd xs i = y ∧ xs.drop (i + 1).toNat = ys ∧ xs.take (i + 1).toNat = xs.take i.toNat ++ [y] := by
  obtain ⟨h1, h2, h3⟩ := drop_get h0 h
  exact ⟨h1, h2 0, h3⟩
theorem perm_of_sub {α : Type} [DecidableEq α] : ∀ {xs ys : List α}, xs.Nodup → xs ⊆ ys → ys.length ≤ xs.length → ys.Perm xs
  | [], ys, _, _, hl => by
    have : ys = [] := List.eq_nil_of_length_eq_zero (by simpa using hl)
    rw [this]
  | x :: xs, ys, hn, hs, hl => by
    have hx : x ∈ ys := hs List.mem_cons_self
    have hp := List.perm_cons_erase hx
    have hn2 := List.nodup_cons.1 hn
    have hs2 : xs ⊆ ys.erase x := fun z hz => (List.mem_erase_of_ne (fun (e : z = x) => hn2.1 (e ▸ hz))).2 (hs (List.mem_cons_of_mem _ hz))
    have hl2 : (ys.erase x).length ≤ xs.length := by
      rw [List.length_erase_of_mem hx]; simp at hl; omega
    exact hp.trans ((perm_of_sub hn2.2 hs2 hl2).cons x)
def goodP (l : List Int) : Prop := 1 ≤ l.length ∧ l.length ≤ 8 ∧ (∀ n ∈ l, -(l.length : Int) ≤ n ∧ n ≤ l.length ∧ n ≠ 0) ∧ (l.map Int.natAbs).Nodup
instance (l : List Int) : Decidable (goodP l) := by unfold goodP; infer_instance
/-- The reference's own test of what stands behind a beginning. -/
def goodTail : List Int → List Int → Bool
  | _, [] => true
  | pre, y :: ys => !(y == 0) && !(pre.contains y) && !(pre.contains (-y)) && goodTail (pre ++ [y]) ys
theorem goodTail_iff : ∀ (ys pre : List Int), goodTail pre ys = true ↔ (∀ n ∈ ys, n ≠ 0) ∧ (ys.map Int.natAbs).Nodup ∧ ∀ n ∈ ys, n.natAbs ∉ pre.map Int.natAbs
  | [], pre => by simp [goodTail]
  | y :: ys, pre => by
    have key : (!(pre.contains y) && !(pre.contains (-y))) = true ↔ y.natAbs ∉ pre.map Int.natAbs := by
      simp only [Bool.and_eq_true, Bool.not_eq_true', List.contains_eq_mem, decide_eq_false_iff_not, List.mem_map, not_exists, not_and]
      constructor
      · intro h a ha e
        rcases Int.natAbs_eq_natAbs_iff.1 e with e | e
        · exact h.1 (e ▸ ha)
        · exact h.2 (e ▸ ha)
      · intro h
        exact ⟨fun ha => h _ ha rfl, fun ha => h _ ha (by simp)⟩
    have ih := goodTail_iff ys (pre ++ [y])
    simp only [goodTail, Bool.and_assoc, Bool.and_eq_true, ih]
    simp only [Bool.and_eq_true] at key
    constructor
    · rintro ⟨h0, h1, h2, h3, h4, h5⟩
      have h12 := key.1 ⟨h1, h2⟩
      refine ⟨?_, ?_, ?_⟩
      · intro n hn
        rcases List.mem_cons.1 hn with rfl | hn
        · simpa using h0
        · exact h3 n hn
      · rw [List.map_cons, List.nodup_cons]
        refine ⟨fun hm => ?_, h4⟩
        obtain ⟨z, hz, e⟩ := List.mem_map.1 hm
        exact h5 z hz (by simp [e])
      · intro n hn
        rcases List.mem_cons.1 hn with rfl | hn
        · exact h12
        · have := h5 n hn
          intro hm
          exact this (by rw [List.map_append]; exact List.mem_append_left _ hm)
    · rintro ⟨h0, h1, h2⟩
      have hk := key.2 (h2 y List.mem_cons_self)
      rw [List.map_cons, List.nodup_cons] at h1
      refine ⟨by simpa using h0 y List.mem_cons_self, hk.1, hk.2, fun n hn => h0 n (List.mem_cons_of_mem _ hn), h1.2, fun n hn hm => ?_⟩
      rw [List.map_append, List.mem_append] at hm
      rcases hm with hm | hm
      · exact h2 n (List.mem_cons_of_mem _ hn) hm
      · have : n.natAbs = y.natAbs := by simpa using hm
        exact h1.1 (this ▸ List.mem_map_of_mem hn)
theorem good_spec (l : List Int) : goodP l ↔ (1 ≤ l.length ∧ l.length ≤ 8) ∧ (∀ n ∈ l, -(l.length : Int) ≤ n ∧ n ≤ l.length) ∧ goodTail [] l = true := by
  rw [goodTail_iff]
  unfold goodP
  constructor
  · rintro ⟨h1, h2, h3, h4⟩
    exact ⟨⟨h1, h2⟩, fun n hn => ⟨(h3 n hn).1, (h3 n hn).2.1⟩, fun n hn => (h3 n hn).2.2, h4, by simp⟩
  · rintro ⟨⟨h1, h2⟩, h3, h4, h5, _⟩
    exact ⟨h1, h2, fun n hn => ⟨(h3 n hn).1, (h3 n hn).2, h4 n hn⟩, h5⟩
theorem good_impl (l : List Int) : goodP l ↔ (∀ n ∈ l, -8 ≤ n ∧ n ≤ 8) ∧ (1 ≤ l.length ∧ l.length ≤ 8) ∧ ∀ i : Nat, i < l.length → (i : Int) ∈ l.map (fun n => (n.natAbs : Int) - 1) := by
  unfold goodP
  constructor
  · rintro ⟨h1, h2, h3, h4⟩
    refine ⟨fun n hn => by have := h3 n hn; omega, ⟨h1, h2⟩, fun i hi => ?_⟩
    have hp : ((List.range l.length).map (· + 1)).Perm (l.map Int.natAbs) := by
      refine perm_of_sub h4 (fun z hz => ?_) (by simp)
      obtain ⟨n, hn, rfl⟩ := List.mem_map.1 hz
      have := h3 n hn
      exact List.mem_map.2 ⟨n.natAbs - 1, List.mem_range.2 (by omega), by omega⟩
    have hm : i + 1 ∈ l.map Int.natAbs := hp.mem_iff.1 (List.mem_map.2 ⟨i, List.mem_range.2 hi, rfl⟩)
    obtain ⟨n, hn, e⟩ := List.mem_map.1 hm
    exact List.mem_map.2 ⟨n, hn, by omega⟩
  · rintro ⟨_, h1, h2⟩
    have hp : (l.map (fun n => (n.natAbs : Int) - 1)).Perm ((List.range l.length).map (fun i : Nat => (i : Int))) := by
      refine perm_of_sub ?_ (fun z hz => ?_) (by simp)
      · refine List.Pairwise.map _ (fun a b (hab : a ≠ b) => ?_) List.nodup_range
        intro e; exact hab (by omega)
      · obtain ⟨i, hi, rfl⟩ := List.mem_map.1 hz
        exact h2 i (List.mem_range.1 hi)
    have hn : (l.map (fun n => (n.natAbs : Int) - 1)).Nodup := by
      refine (hp.nodup_iff).2 (List.Pairwise.map _ (fun a b (hab : a ≠ b) => ?_) List.nodup_range)
      intro e; exact hab (by omega)
    refine ⟨h1.1, h1.2, fun n hn => ?_, ?_⟩
    · have hm : ((n.natAbs : Int) - 1) ∈ (List.range l.length).map (fun i : Nat => (i : Int)) := hp.mem_iff.1 (List.mem_map_of_mem hn)
      obtain ⟨i, hi, e⟩ := List.mem_map.1 hm
      have := List.mem_range.1 hi
      omega
    · rw [List.nodup_iff_pairwise_ne, List.pairwise_map] at hn ⊢
      exact hn.imp (fun h e => h (by rw [e]))
def goodB (l : List Int) : Bool := decide (goodP l)
theorem goodB_not {l : List Int} (h : ¬ (1 ≤ (l.length : Int) ∧ (l.length : Int) ≤ 8)) : goodB l = false :=
  decide_eq_false fun hg => h (by have := hg.1; have := hg.2.1; omega)
theorem goodB_out {l : List Int} (h : ¬ ∀ x ∈ l, -(l.length : Int) ≤ x ∧ x ≤ (l.length : Int)) : goodB l = false :=
  decide_eq_false fun hg => h fun x hx => ⟨(hg.2.2.1 x hx).1, (hg.2.2.1 x hx).2.1⟩
theorem goodB_tail {l : List Int} (h1 : 1 ≤ (l.length : Int)) (h8 : (l.length : Int) ≤ 8) (h : ∀ x ∈ l, -(l.length : Int) ≤ x ∧ x ≤ (l.length : Int)) : goodB l = goodTail [] l := by
  have e := good_spec l
  unfold goodB
  cases hg : goodTail [] l
  · exact decide_eq_false fun hp => by rw [e, hg] at hp; simp at hp
  · exact decide_eq_true (by rw [e, hg]; exact ⟨⟨by omega, by omega⟩, h, rfl⟩)
theorem C_take {w : World} {A : Option Addr} {n : Nat} {xs : List Int} (h : Kd.C (Kd.int .i64) w A n xs) (i : Nat) (hi : i ≤ n) : Kd.C (Kd.int .i64) w A i (xs.take i) :=
  Kd.C_of_reads (h1 := fun _ => rfl) (ReadsOf.take_ (d := (0 : Int)) (Kd.reads_of_C h) i hi)
theorem int_eq {a b : Int} (h : a = b) : Value.int .i64 a = Value.int .i64 b := by rw [h]
theorem ret_i {a b : Int} (h : a = b) : Ending.returned (.int .i64 a) = .returned (.int .i64 b) := by rw [h]
theorem ret_b {a b : Bool} (h : a = b) : Ending.returned (.bool a) = .returned (.bool b) := by rw [h]
theorem ret_ib {a b : Int} {c d : Bool} (h : a = b) (h2 : c = d) : Ending.returned (.tuple #[.int .i64 a, .bool c]) = .returned (.tuple #[.int .i64 b, .bool d]) := by rw [h, h2]
theorem ret_iib {a b a' b' : Int} {c d : Bool} (h : a = b) (h' : a' = b') (h2 : c = d) : Ending.returned (.tuple #[.int .i64 a, .int .i64 a', .bool c]) = .returned (.tuple #[.int .i64 b, .int .i64 b', .bool d]) := by rw [h, h', h2]
theorem ret_ibb {a b : Int} {c d c' d' : Bool} (h : a = b) (h' : c' = d') (h2 : c = d) : Ending.returned (.tuple #[.int .i64 a, .bool c', .bool c]) = .returned (.tuple #[.int .i64 b, .bool d', .bool d]) := by rw [h, h', h2]
theorem R_keptS {α : Type} {d : Kd α} {e base : Nat} {W W2 : World} {ok S : Nat → Prop} {v : Value} {xs : List α} (h : d.R e W base ok v xs) (hk : Kept W W2 S) (hne : ∀ k, ok k → ¬ S k) : d.R e W2 base ok v xs :=
  Kd.R_mono (Kd.R_keptB h hk hne) (fun _ h => h.1)
theorem R_C {α : Type} {d : Kd α} {e base : Nat} {W : World} {ok : Nat → Prop} {A : Option Addr} {n c : Nat} {xs : List α} (h : d.R e W base ok (.slice A n c) xs) : d.C W A n xs := by
  have h2 := Kd.R_reads' h
  have h3 := h2.2.2
  rw [← h2.1] at h3
  exact h3
section
open Go.Proofs.Ytdjoegkoiapoaaa.PtoIntS
theorem toIntS_l (xs : List Int) (hn : xs.length < 4611686018427387904) : ∀ (ys : List Int) (i : Int) (zs : List Int), 0 ≤ i → xs.drop i.toNat = ys → zs.length = ys.length →
    Ev (fun k => laws_toIntS.l0 k xs (xs.take i.toNat ++ zs) i) xs := by
  intro ys
  induction ys with
  | nil =>
    intro i zs h0 h hz
    have := drop_nil h0 h
    refine Ev.step (fun k => laws_toIntS.l0.eq_2 ..) ?_
    have hz : zs = [] := List.eq_nil_of_length_eq_zero hz
    refine ev_neg (by omega) (ev_now ?_)
    rw [hz, List.append_nil, List.take_of_length_le (by omega)]
  | cons y ys ih =>
    intro i zs h0 h hz
    obtain ⟨h1, h2, h3, h4⟩ := drop_cons h0 h
    obtain ⟨z, zs, rfl⟩ : ∃ z zs', zs = z :: zs' := List.exists_cons_of_length_eq_add_one hz
    have hl : (xs.take i.toNat).length = i.toNat := by rw [List.length_take]; omega
    refine Ev.step (fun k => laws_toIntS.l0.eq_2 ..) ?_
    refine ev_pos h1 (ev_pos h0 (ev_pos (by rw [List.length_append, hl, List.length_cons]; omega) ?_))
    rw [h2, w64 (by omega) (by omega)]
    have e : (xs.take i.toNat ++ z :: zs).set i.toNat y = xs.take (i + 1).toNat ++ zs := by
      rw [h4, List.set_append_right _ _ (by omega), hl, Nat.sub_self, List.set_cons_zero, List.append_assoc]; rfl
    rw [e]
    exact ih (i + 1) zs (by omega) h3 (by simpa using hz)
theorem toIntS_ev (xs : List Int) (hn : xs.length ≤ 1048576) : Ev (fun k => laws_toIntS.f k xs) xs := by
  unfold laws_toIntS.f
  refine ev_pos (by omega) (ev_pos (by omega) ?_)
  exact toIntS_l xs (by omega) xs 0 _ (by omega) rfl (by simp)
theorem toIntS_go (A0 : Option Addr) (n c0 : Nat) (l0 : List Int) (w : World) (hr0 : Kd.C (Kd.int .i64) w A0 n l0) (hc0 : n ≤ c0) (hn : n ≤ 1048576) :
    Calls Try.prog 15 #[.slice A0 n c0] w fun e w' => ∃ v : Value, e = .returned v ∧ Kd.R (Kd.int .i64) 3 w' w.heap.size (fun _ => True) v l0 ∧ Below w.heap.size w w' := by
  obtain rfl : l0.length = n := hr0.1
  obtain ⟨k, hk⟩ := (toIntS_ev l0 hn).rounds
  exact laws_toIntS.calls k A0 c0 l0 l0 w hr0 hc0 hk
end
section
open Go.Proofs.Ytdjoegkoiapoaaa.PeqIntS
theorem eqIntS_l (xs : List Int) (hn : xs.length < 4611686018427387904) : ∀ (ys : List Int) (i : Int), 0 ≤ i → xs.drop i.toNat = ys →
    Ev (fun k => laws_eqIntS.l0 k xs xs i) true := by
  intro ys
  induction ys with
  | nil =>
    intro i h0 h
    have := drop_nil h0 h
    refine Ev.step (fun k => laws_eqIntS.l0.eq_2 ..) ?_
    exact ev_neg (by omega) (ev_now rfl)
  | cons y ys ih =>
    intro i h0 h
    obtain ⟨h1, h2, h3, _⟩ := drop_cons h0 h
    refine Ev.step (fun k => laws_eqIntS.l0.eq_2 ..) ?_
    refine ev_pos h1 (ev_pos h0 (ev_pos h1 (ev_pos rfl ?_)))
    rw [w64 (by omega) (by omega)]
    exact ih _ (by omega) h3
theorem eqIntS_ev (xs : List Int) (hn : xs.length < 4611686018427387904) : Ev (fun k => laws_eqIntS.f k xs xs) true := by
  unfold laws_eqIntS.f
  exact ev_pos rfl (eqIntS_l xs hn xs 0 (by omega) rfl)
theorem eqIntS_go (A0 : Option Addr) (n0 c0 : Nat) (l0 : List Int) (A1 : Option Addr) (n1 c1 : Nat) (l1 : List Int) (w : World) (hr0 : Kd.C (Kd.int .i64) w A0 n0 l0) (hc0 : n0 ≤ c0) (hr1 : Kd.C (Kd.int .i64) w A1 n1 l1) (hc1 : n1 ≤ c1) (hn : n0 < 4611686018427387904) (he : l0 = l1) :
    Calls Try.prog 17 #[.slice A0 n0 c0, .slice A1 n1 c1] w fun e w' => e = .returned (.bool true) ∧ Drawn0 w w' := by
  subst he
  obtain rfl : l0.length = n0 := hr0.1
  obtain rfl : l0.length = n1 := hr1.1
  obtain ⟨k, hk⟩ := (eqIntS_ev l0 hn).rounds
  exact laws_eqIntS.calls k A0 c0 l0 A1 c1 l0 true w hr0 hc0 hr1 hc1 hk
end
section
open Go.Proofs.Ytdjoegkoiapoaaa.Pl1Has
theorem l1Has_l (z : Int) (xs : List Int) (hn : xs.length < 4611686018427387904) : ∀ (ys : List Int) (i : Int), 0 ≤ i → xs.drop i.toNat = ys →
    Ev (fun k => spec_l1Has.l0 k z xs (xs.length : Int) i) (ys.contains z) := by
  intro ys
  induction ys with
  | nil =>
    intro i h0 h
    have := drop_nil h0 h
    refine Ev.step (fun k => spec_l1Has.l0.eq_2 ..) ?_
    exact ev_neg (by omega) (ev_now (by simp))
  | cons y ys ih =>
    intro i h0 h
    obtain ⟨h1, h2, h3, _⟩ := drop_cons h0 h
    refine Ev.step (fun k => spec_l1Has.l0.eq_2 ..) ?_
    refine ev_pos h1 (ev_pos h0 (ev_pos h1 ?_))
    rw [h2, w64 (by omega) (by omega)]
    by_cases hy : y = z
    · exact ev_pos hy (ev_now (by simp [hy]))
    · exact ev_neg hy (ev_val (ih _ (by omega) h3) (by simp [Ne.symm hy]))
theorem l1Has_ev (xs : List Int) (z : Int) (hn : xs.length < 4611686018427387904) : Ev (fun k => spec_l1Has.f k xs z) (xs.contains z) := l1Has_l z xs hn xs 0 (by omega) rfl
theorem l1Has_go (A0 : Option Addr) (n c0 : Nat) (l0 : List Int) (z : Int) (r : Bool) (w : World) (hr0 : Kd.C (Kd.int .i64) w A0 n l0) (hc0 : n ≤ c0) (hn : n < 4611686018427387904) (h : l0.contains z = r) :
    Calls Try.prog 53 #[.slice A0 n c0, .int .i64 z] w fun e w' => e = .returned (.bool r) ∧ Drawn0 w w' := by
  obtain rfl : l0.length = n := hr0.1
  obtain ⟨k, hk⟩ := (l1Has_ev l0 z hn).rounds
  exact spec_l1Has.calls k A0 c0 l0 z r w hr0 hc0 (by rw [hk, h])
end
section
open Go.Proofs.Ytdjoegkoiapoaaa.Pl1All
theorem l1In_eq (a lo hi : Int) : spec_l1In.f a lo hi = some (decide (lo ≤ a ∧ a ≤ hi)) := by
  unfold spec_l1In.f
  by_cases h : a ≥ lo
  · rw [if_pos h]; congr 1; simp [show lo ≤ a from h]
  · rw [if_neg h]; congr 1; simp; omega

theorem l1All_l (lo hi : Int) (xs : List Int) (hn : xs.length < 4611686018427387904) : ∀ (ys : List Int) (i : Int), 0 ≤ i → xs.drop i.toNat = ys →
    Ev (fun k => spec_l1All.l0 k lo hi xs (xs.length : Int) i) (decide (∀ n ∈ ys, lo ≤ n ∧ n ≤ hi)) := by
  intro ys
  induction ys with
  | nil =>
    intro i h0 h
    have := drop_nil h0 h
    refine Ev.step (fun k => spec_l1All.l0.eq_2 ..) ?_
    exact ev_neg (by omega) (ev_now (by simp))
  | cons y ys ih =>
    intro i h0 h
    obtain ⟨h1, h2, h3, _⟩ := drop_cons h0 h
    refine Ev.step (fun k => spec_l1All.l0.eq_2 ..) ?_
    refine ev_pos h1 (ev_pos h0 (ev_pos h1 ?_))
    rw [h2, w64 (by omega) (by omega)]
    refine ev_some (l1In_eq ..) ?_
    by_cases hy : lo ≤ y ∧ y ≤ hi
    · exact ev_pos (by simpa using hy) (ev_val (ih _ (by omega) h3) (by simp [hy]))
    · exact ev_neg (by simpa using hy) (ev_now (by simp [hy]))
theorem l1All_ev (xs : List Int) (lo hi : Int) (hn : xs.length < 4611686018427387904) :
    Ev (fun k => spec_l1All.f k xs lo hi) (decide (∀ n ∈ xs, lo ≤ n ∧ n ≤ hi)) := l1All_l lo hi xs hn xs 0 (by omega) rfl
theorem l1In_go (a lo hi : Int) (r : Bool) (w : World) (h : decide (lo ≤ a ∧ a ≤ hi) = r) :
    Calls Try.prog 43 #[.int .i64 a, .int .i64 lo, .int .i64 hi] w fun e w' => e = .returned (.bool r) ∧ Drawn0 w w' :=
  spec_l1In.calls a lo hi r w (by rw [l1In_eq, h])
theorem l1All_go (A0 : Option Addr) (n c0 : Nat) (l0 : List Int) (lo hi : Int) (r : Bool) (w : World) (hr0 : Kd.C (Kd.int .i64) w A0 n l0) (hc0 : n ≤ c0) (hn : n < 4611686018427387904) (h : decide (∀ x ∈ l0, lo ≤ x ∧ x ≤ hi) = r) :
    Calls Try.prog 52 #[.slice A0 n c0, .int .i64 lo, .int .i64 hi] w fun e w' => e = .returned (.bool r) ∧ Drawn0 w w' := by
  obtain rfl : l0.length = n := hr0.1
  obtain ⟨k, hk⟩ := (l1All_ev l0 lo hi hn).rounds
  exact spec_l1All.calls k A0 c0 l0 lo hi r w hr0 hc0 (by rw [hk, h])
end
set_option maxHeartbeats 8000000 in
set_option maxRecDepth 100000 in
theorem biGood_go (A0 : Option Addr) (n c0 : Nat) (l0 : List Int) (r : Bool) (w : World) (hr0 : Kd.C (Kd.int .i64) w A0 n l0) (hc0 : n ≤ c0) (hn : n < 4611686018427387904) (h : goodB l0 = r) :
    Calls Try.prog 38 #[.slice A0 n c0] w fun e w' => e = .returned (.bool r) ∧ Drawn0 w w' := by
  obtain rfl : l0.length = n := hr0.1
  have HR0 := Aside0.mk hr0
  have HC0 := Aside0.mk hc0
  have HN := Aside0.mk hn
  have HH := Aside0.mk h
  clear hr0 hc0 hn h
  by_cases c1 : 1 ≤ (l0.length : Int) ∧ (l0.length : Int) ≤ 8
  · have A1 := Aside0.mk (decide_eq_true c1)
    have b1 := c1.1
    have b2 := c1.2
    clear c1
    by_cases c2 : ∀ x ∈ l0, -(l0.length : Int) ≤ x ∧ x ≤ (l0.length : Int)
    · have HG : Aside0 (goodTail [] l0 = r) := ⟨(goodB_tail b1 b2 c2).symm.trans HH.out⟩
      have A2 := Aside0.mk (decide_eq_true c2)
      have C2 := Aside0.mk c2
      clear c2 HH
      go_enter Try.func38, Try.ntmps38
      go_wp2_with (first | (go_at_call 43; (with_reducible refine (l1In_go _ _ _ true _ A1.out).mono ?_); rintro e w' ⟨rfl, ⟨nd, rfl⟩⟩) | (go_at_call 52; (with_reducible refine (l1All_go _ _ _ l0 _ _ true _ ?side1 HC0.out HN.out A2.out).mono ?_); (case side1 => repeat (first | exact HR0.out | (with_reducible refine Kd.C_alloc ?_ _) | (with_reducible refine Kd.C_drewN ?_ _) | (with_reducible refine Kd.C_drew ?_))); rintro e w' ⟨rfl, ⟨nd, rfl⟩⟩))
      go_loopg [21] (l0.length) (fun kq v21 w' => ∃ x : Int, v21 = .int .i64 x ∧ Aside0 (0 ≤ x ∧ x + kq = l0.length ∧ goodTail (l0.take x.toNat) (l0.drop x.toNat) = r) ∧ Drawn0 w w')
      case atStart => exact ⟨0, rfl, ⟨by omega, by omega, by simpa using HG.out⟩, by repeat (first | exact Drawn0.refl _ | apply Drawn0.step)⟩
      case round =>
        obtain ⟨x, rfl, HX, ⟨m1, rfl⟩⟩ := hrel
        clear HG
        have hx0 := HX.out.1
        have hxk := HX.out.2.1
        rcases hdr : l0.drop x.toNat with _ | ⟨y, ys⟩
        · have hlen := drop_nil hx0 hdr
          have hr : r = true := by have := HX.out.2.2; rw [hdr] at this; exact this.symm
          subst hr
          clear hdr HX hxk
          go_wp2
          go_ret
          exact ⟨rfl, by repeat (first | exact Drawn0.refl _ | apply Drawn0.step)⟩
        · obtain ⟨h1, h2, h3, h4⟩ := drop_cons hx0 hdr
          have HT := Aside0.mk HX.out.2.2
          rw [hdr] at HT
          obtain ⟨ad, rfl, hc⟩ := Kd.at_int HR0.out x hx0 h1
          rw [h2] at hc
          have by_ := C2.out y (by have : y ∈ l0.drop x.toNat := by rw [hdr]; exact List.mem_cons_self
                                   exact List.mem_of_mem_drop this)
          have by1 := by_.1
          have by2 := by_.2
          have HD := Aside0.mk h3
          clear by_
          have HK := Aside0.mk h4
          have HY := Aside0.mk h2
          have HXK := Aside0.mk hxk
          clear h2 h3 h4 hdr HX hxk
          by_cases d1 : y = 0
          · subst d1
            have hr : r = false := by have := HT.out; simp [goodTail] at this; exact this
            subst hr
            go_wp2
            go_ret
            exact ⟨rfl, by repeat (first | exact Drawn0.refl _ | apply Drawn0.step)⟩
          · have d1b : (y == 0) = false := beq_eq_false_iff_ne.mpr d1
            clear d1
            have hxc : x ≤ (c0 : Int) := by have := HC0.out; omega
            have hct := Aside0.mk (C_take HR0.out x.toNat (by omega))
            by_cases d2 : (l0.take x.toNat).contains y = true
            · have D2 := Aside0.mk d2
              clear d2
              have hr : r = false := by have := HT.out; simp only [goodTail, D2.out] at this; simpa using this.symm
              subst hr
              go_wp2_with (first | (go_at_call 53; (with_reducible refine (l1Has_go _ _ _ (l0.take x.toNat) y true _ ?side1 ?side2 ?side3 D2.out).mono ?_); (case side1 => repeat (first | exact hct.out | (with_reducible refine Kd.C_alloc ?_ _) | (with_reducible refine Kd.C_drewN ?_ _) | (with_reducible refine Kd.C_drew ?_))); (case side2 => have := HC0.out; omega); (case side3 => omega); rintro e w' ⟨rfl, ⟨nd, rfl⟩⟩))
              go_ret
              exact ⟨rfl, by repeat (first | exact Drawn0.refl _ | apply Drawn0.step)⟩
            · have D2 := Aside0.mk (Bool.eq_false_iff.mpr d2)
              clear d2
              by_cases d3 : (l0.take x.toNat).contains (-y) = true
              · have D3 := Aside0.mk d3
                clear d3
                have hr : r = false := by have := HT.out; simp only [goodTail, D2.out, D3.out] at this; simpa using this.symm
                subst hr
                go_wp2_with (first | (go_at_call 53; (with_reducible refine (l1Has_go _ _ _ (l0.take x.toNat) y false _ ?side1 ?side2 ?side3 D2.out).mono ?_); (case side1 => repeat (first | exact hct.out | (with_reducible refine Kd.C_alloc ?_ _) | (with_reducible refine Kd.C_drewN ?_ _) | (with_reducible refine Kd.C_drew ?_))); (case side2 => have := HC0.out; omega); (case side3 => omega); rintro e w' ⟨rfl, ⟨nd, rfl⟩⟩) | (go_at_call 53; (with_reducible refine (l1Has_go _ _ _ (l0.take x.toNat) (-y) true _ ?side1 ?side2 ?side3 D3.out).mono ?_); (case side1 => repeat (first | exact hct.out | (with_reducible refine Kd.C_alloc ?_ _) | (with_reducible refine Kd.C_drewN ?_ _) | (with_reducible refine Kd.C_drew ?_))); (case side2 => have := HC0.out; omega); (case side3 => omega); rintro e w' ⟨rfl, ⟨nd, rfl⟩⟩))
                go_ret
                exact ⟨rfl, by repeat (first | exact Drawn0.refl _ | apply Drawn0.step)⟩
              · have D3 := Aside0.mk (Bool.eq_false_iff.mpr d3)
                clear d3
                have HN2 : Aside0 (goodTail (l0.take (x + 1).toNat) (l0.drop (x + 1).toNat) = r) := ⟨by
                  have := HT.out
                  rw [HK.out, HD.out]
                  simp only [goodTail, D2.out, D3.out, d1b] at this
                  simpa using this⟩
                go_wp2_with (first | (go_at_call 53; (with_reducible refine (l1Has_go _ _ _ (l0.take x.toNat) y false _ ?side1 ?side2 ?side3 D2.out).mono ?_); (case side1 => repeat (first | exact hct.out | (with_reducible refine Kd.C_alloc ?_ _) | (with_reducible refine Kd.C_drewN ?_ _) | (with_reducible refine Kd.C_drew ?_))); (case side2 => have := HC0.out; omega); (case side3 => omega); rintro e w' ⟨rfl, ⟨nd, rfl⟩⟩) | (go_at_call 53; (with_reducible refine (l1Has_go _ _ _ (l0.take x.toNat) (-y) false _ ?side1 ?side2 ?side3 D3.out).mono ?_); (case side1 => repeat (first | exact hct.out | (with_reducible refine Kd.C_alloc ?_ _) | (with_reducible refine Kd.C_drewN ?_ _) | (with_reducible refine Kd.C_drew ?_))); (case side2 => have := HC0.out; omega); (case side3 => omega); rintro e w' ⟨rfl, ⟨nd, rfl⟩⟩))
                cases gk with
                | zero => exact absurd HXK.out (by omega)
                | succ k1 =>
                  go_roundg k1
                  case measure => omega
                  case rel => exact ⟨x + 1, rfl, ⟨by omega, by have := HXK.out; omega, HN2.out⟩, by repeat (first | exact Drawn0.refl _ | apply Drawn0.step)⟩
    · have A2 := Aside0.mk (decide_eq_false c2)
      have hr : r = false := by rw [← HH.out]; exact goodB_out c2
      subst hr
      clear c2 HH
      go_enter Try.func38, Try.ntmps38
      go_wp2_with (first | (go_at_call 43; (with_reducible refine (l1In_go _ _ _ true _ A1.out).mono ?_); rintro e w' ⟨rfl, ⟨nd, rfl⟩⟩) | (go_at_call 52; (with_reducible refine (l1All_go _ _ _ l0 _ _ false _ ?side1 HC0.out HN.out A2.out).mono ?_); (case side1 => repeat (first | exact HR0.out | (with_reducible refine Kd.C_alloc ?_ _) | (with_reducible refine Kd.C_drewN ?_ _) | (with_reducible refine Kd.C_drew ?_))); rintro e w' ⟨rfl, ⟨nd, rfl⟩⟩))
      go_ret
      exact ⟨rfl, by repeat (first | exact Drawn0.refl _ | apply Drawn0.step)⟩
  · have A1 := Aside0.mk (decide_eq_false c1)
    have hr : r = false := by rw [← HH.out]; exact goodB_not c1
    subst hr
    clear c1 HH
    go_enter Try.func38, Try.ntmps38
    go_wp2_with (first | (go_at_call 43; (with_reducible refine (l1In_go _ _ _ false _ A1.out).mono ?_); rintro e w' ⟨rfl, ⟨nd, rfl⟩⟩))
    go_ret
    exact ⟨rfl, by repeat (first | exact Drawn0.refl _ | apply Drawn0.step)⟩
set_option maxHeartbeats 8000000 in
set_option maxRecDepth 100000 in
theorem specIsBinding_go (A0 : Option Addr) (n c0 : Nat) (l0 : List Int) (w : World) (hr0 : Kd.C (Kd.int .i64) w A0 n l0) (hc0 : n ≤ c0) (hn : n < 4611686018427387904) :
    Calls Try.prog 14 #[.slice A0 n c0] w fun e w' => e = .returned (.bool (goodB l0)) ∧ Drawn0 w w' := by
  have HR0 := Aside0.mk hr0
  have HC0 := Aside0.mk hc0
  have HN := Aside0.mk hn
  clear hr0 hc0 hn
  go_enter Try.func14, Try.ntmps14
  go_wp2_with (go_at_call 38; (with_reducible refine (biGood_go _ _ _ l0 _ _ ?side1 HC0.out HN.out rfl).mono ?_); (case side1 => repeat (first | exact HR0.out | (with_reducible refine Kd.C_alloc ?_ _) | (with_reducible refine Kd.C_drewN ?_ _) | (with_reducible refine Kd.C_drew ?_))); rintro e w' ⟨rfl, ⟨nd, rfl⟩⟩)
  go_ret
  exact ⟨rfl, (by repeat (first | exact Drawn0.refl _ | apply Drawn0.step))⟩
section
open Go.Proofs.Ytdjoegkoiapoaaa.PIsBinding
theorem within_eq (a lo hi : Int) : impl_within.f a lo hi = some (decide (lo ≤ a ∧ a ≤ hi)) := by
  unfold impl_within.f
  by_cases h : a ≥ lo
  · rw [if_pos h]; congr 1; simp [show lo ≤ a from h]
  · rw [if_neg h]; congr 1; simp; omega
theorem leafOf_eq (a : Int) (h1 : -8 ≤ a) (h2 : a ≤ 8) : impl_leafOf.f a = some (a.natAbs : Int) := by
  unfold impl_leafOf.f mx
  rw [w64 (by omega) (by omega)]
  congr 1
  split <;> omega
theorem Index_l (z : Int) (xs : List Int) (hn : xs.length < 4611686018427387904) : ∀ (ys : List Int) (i : Int), 0 ≤ i → xs.drop i.toNat = ys →
    Ev (fun k => slices_Index_int_int.l0 k xs z (xs.length : Int) i) (match ys.findIdx? (fun y => y == z) with | none => -1 | some j => i + j) := by
  intro ys
  induction ys with
  | nil =>
    intro i h0 h
    have := drop_nil h0 h
    refine Ev.step (fun k => slices_Index_int_int.l0.eq_2 ..) ?_
    exact ev_neg (by omega) (ev_now (by simp))
  | cons y ys ih =>
    intro i h0 h
    obtain ⟨h1, h2, h3, _⟩ := drop_cons h0 h
    refine Ev.step (fun k => slices_Index_int_int.l0.eq_2 ..) ?_
    refine ev_pos h1 (ev_pos h0 (ev_pos h1 ?_))
    rw [h2, w64 (by omega) (by omega)]
    by_cases hy : z = y
    · exact ev_pos hy (ev_now (by simp [List.findIdx?_cons, hy]))
    · refine ev_neg hy (ev_val (ih _ (by omega) h3) ?_)
      have : (y == z) = false := beq_eq_false_iff_ne.mpr (Ne.symm hy)
      rw [List.findIdx?_cons, this]
      cases ys.findIdx? (fun y => y == z) with
      | none => rfl
      | some j => simp; omega
def idxOf (z : Int) (xs : List Int) : Int := match xs.findIdx? (fun y => y == z) with | none => -1 | some j => j
theorem Index_ev (xs : List Int) (z : Int) (hn : xs.length < 4611686018427387904) : Ev (fun k => slices_Index_int_int.f k xs z) (idxOf z xs) := by
  refine ev_val (Index_l z xs hn xs 0 (by omega) rfl) ?_
  unfold idxOf
  cases xs.findIdx? (fun y => y == z) <;> simp
theorem idxOf_nonneg (z : Int) (xs : List Int) : decide (idxOf z xs ≥ 0) = xs.contains z := by
  unfold idxOf
  cases h : xs.findIdx? (fun y => y == z) with
  | none =>
    rw [List.findIdx?_eq_none_iff] at h
    have : z ∉ xs := fun hm => by simpa using h z hm
    simp [this]
  | some j =>
    have := List.findIdx?_eq_some_iff_getElem.1 h
    obtain ⟨hj, h1, _⟩ := this
    have hm : z ∈ xs := by
      have : xs[j] = z := by simpa using h1
      exact this ▸ List.getElem_mem hj
    simp [hm]
theorem Contains_ev (xs : List Int) (z : Int) (hn : xs.length < 4611686018427387904) : Ev (fun k => slices_Contains_int_int.f k xs z) (xs.contains z) := by
  unfold slices_Contains_int_int.f
  exact Ev.bind (Index_ev xs z hn) (ev_now (idxOf_nonneg z xs))
theorem isOrder_l (xs : List Int) (n : Nat) (hn : xs.length < 4611686018427387904) (hn2 : n < 4611686018427387904) : ∀ (m : Nat) (i : Int) (b : Bool), 0 ≤ i → i + m = n → (b = true ↔ ∀ j : Nat, i ≤ (j : Int) → j < n → (j : Int) ∈ xs) →
    Ev (fun k => impl_isOrder.l0 k xs (n : Int) (n : Int) i) (b && ((xs.length : Int) == (n : Int))) := by
  intro m
  induction m with
  | zero =>
    intro i b h0 h hb
    refine Ev.step (fun k => impl_isOrder.l0.eq_2 ..) ?_
    refine ev_neg (by omega) (ev_now ?_)
    rw [hb.2 (fun j h1 h2 => by omega), Bool.true_and]
  | succ m ih =>
    intro i b h0 h hb
    refine Ev.step (fun k => impl_isOrder.l0.eq_2 ..) ?_
    refine ev_pos (by omega) (Ev.bind (Contains_ev xs i hn) ?_)
    rw [w64 (by omega) (by omega)]
    by_cases hc : i ∈ xs
    · refine ev_pos (by simpa using hc) (ih (i + 1) b (by omega) (by omega) (hb.trans ⟨fun hh j h1 h2 => hh j (by omega) h2, fun hh j h1 h2 => ?_⟩))
      by_cases e : (j : Int) = i
      · rw [e]; exact hc
      · exact hh j (by omega) h2
    · refine ev_neg (by simpa using hc) (ev_now ?_)
      have : ¬ b = true := fun hh => hc (by have := hb.1 hh i.toNat (by omega) (by omega); rwa [Int.toNat_of_nonneg h0] at this)
      rw [Bool.eq_false_iff.mpr this]; rfl
theorem IsBinding_l (xs : List Int) (hn : xs.length < 1073741824) : ∀ (ys : List Int) (i : Int) (acc : List Int), 0 ≤ i → xs.drop i.toNat = ys → acc = (xs.take i.toNat).map (fun n => (n.natAbs : Int) - 1) → (∀ n ∈ xs.take i.toNat, -8 ≤ n ∧ n ≤ 8) →
    Ev (fun k => impl_IsBinding.l0 k xs acc xs (xs.length : Int) i) (goodB xs) := by
  intro ys
  induction ys with
  | nil =>
    intro i acc h0 h hacc hin
    have hlen := drop_nil h0 h
    rw [List.take_of_length_le (by omega)] at hacc hin
    refine Ev.step (fun k => impl_IsBinding.l0.eq_2 ..) ?_
    refine ev_neg (by omega) (ev_some (within_eq ..) ?_)
    have hg := good_impl xs
    by_cases hc : 1 ≤ (xs.length : Int) ∧ (xs.length : Int) ≤ 8
    · have hl : acc.length = xs.length := by rw [hacc, List.length_map]
      refine ev_pos (by simpa using hc) ?_
      have hI := isOrder_l acc acc.length (by omega) (by omega) acc.length 0 (goodB xs) (by omega) (by omega) (by
        unfold goodB
        rw [decide_eq_true_iff]
        refine ⟨fun hh j _ hj => ?_, fun hh => hg.2 ⟨hin, ⟨by omega, by omega⟩, fun j hj => ?_⟩⟩
        · have := (hg.1 hh).2.2 j (by omega); rwa [← hacc] at this
        · have := hh j (by omega) (by omega); rwa [hacc] at this)
      refine Ev.bind (f := fun n t => some t) (g := fun n => impl_isOrder.f n acc (acc.length : Int)) hI (ev_now ?_)
      have h2 : ((acc.length : Int) == (acc.length : Int)) = true := beq_self_eq_true _
      rw [h2, Bool.and_true]
    · exact ev_neg (by simpa using hc) (ev_now (by rw [goodB_not hc]))
  | cons y ys ih =>
    intro i acc h0 h hacc hin
    obtain ⟨h1, h2, h3, h4⟩ := drop_cons h0 h
    have hl : acc.length = i.toNat := by rw [hacc, List.length_map, List.length_take]; omega
    refine Ev.step (fun k => impl_IsBinding.l0.eq_2 ..) ?_
    refine ev_pos h1 (ev_pos h0 (ev_pos h1 ?_))
    rw [h2, w64 (x := i + 1) (by omega) (by omega)]
    refine ev_some (within_eq ..) ?_
    by_cases hy : -8 ≤ y ∧ y ≤ 8
    · refine ev_pos (by simpa using hy) (ev_some (leafOf_eq y hy.1 hy.2) (ev_pos (by omega) ?_))
      refine ih (i + 1) _ (by omega) h3 ?_ ?_
      · rw [w64 (by omega) (by omega), h4, List.map_append, hacc]; rfl
      · intro n hm
        rw [h4, List.mem_append] at hm
        rcases hm with hm | hm
        · exact hin n hm
        · rw [List.mem_singleton] at hm; rw [hm]; exact hy
    · refine ev_neg (by simpa using hy) (ev_now ?_)
      have hm : y ∈ xs := List.mem_of_mem_drop (by rw [h]; exact List.mem_cons_self)
      exact (decide_eq_false fun hg => hy (by have := hg.2.2.1 y hm; have := hg.2.1; omega)).symm
theorem implIsBinding_ev (xs : List Int) (hn : xs.length < 1073741824) : Ev (fun k => impl_IsBinding.f k xs) (goodB xs) := IsBinding_l xs hn xs 0 [] (by omega) rfl rfl (by simp)
theorem within_go (a lo hi : Int) (r : Bool) (w : World) (h : decide (lo ≤ a ∧ a ≤ hi) = r) :
    Calls Try.prog 36 #[.int .i64 a, .int .i64 lo, .int .i64 hi] w fun e w' => e = .returned (.bool r) ∧ Drawn0 w w' :=
  impl_within.calls a lo hi r w (by rw [within_eq, h])
theorem implIsBinding_go (A0 : Option Addr) (n c0 : Nat) (l0 : List Int) (w : World) (hr0 : Kd.C (Kd.int .i64) w A0 n l0) (hc0 : n ≤ c0) (hn : n < 1073741824) :
    Calls Try.prog 16 #[.slice A0 n c0] w fun e w' => e = .returned (.bool (goodB l0)) ∧ Below w.heap.size w w' := by
  obtain rfl : l0.length = n := hr0.1
  obtain ⟨k, hk⟩ := (implIsBinding_ev l0 hn).rounds
  exact impl_IsBinding.calls k A0 c0 l0 _ w hr0 hc0 hk
end
end Go.Proofs.Ytdjoegkoiapoaaa.Own
