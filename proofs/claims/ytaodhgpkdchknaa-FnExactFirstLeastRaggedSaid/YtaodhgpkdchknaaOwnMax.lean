import Derived.Test.YtaodhgpkdchknaaPAreWordsx1
namespace Go.Proofs.Ytaodhgpkdchknaa.Own
open Go.RowKit Go.Proofs.YtaodhgpkdchknaaW.PrintWords Go.Proofs.YtaodhgpkdchknaaW.PrintLast Go.Proofs.YtaodhgpkdchknaaW.PrintMore
attribute [local go_sem] max2_int min2_int max_two min_two max_three min_three max_four min_four
set_option linter.unusedVariables false
set_option linter.unusedSimpArgs false
theorem w64 {x : Int} (h1 : -9223372036854775808 ≤ x) (h2 : x ≤ 9223372036854775807) : wrap64 x = x := by
  unfold wrap64; omega
theorem ev_pos {α : Type} {c : Prop} [Decidable c] {f g : Nat → Option α} {r : α} (hc : c) (h : Ev f r) : Ev (fun k => if c then f k else g k) r := by
  simpa only [if_pos hc] using h
theorem ev_neg {α : Type} {c : Prop} [Decidable c] {f g : Nat → Option α} {r : α} (hc : ¬ c) (h : Ev g r) : Ev (fun k => if c then f k else g k) r := by
  simpa only [if_neg hc] using h
theorem ev_now {α : Type} {r s : α} (h : r = s) : Ev (fun _ => some r) s := h ▸ Ev.now r
theorem ev_some {α β : Type} {x : Option α} {f : Nat → α → Option β} {a : α} {r : β} (h : x = some a) (k : Ev (fun n => f n a) r) : Ev (fun n => x.bind (f n)) r := by
  subst h; exact k
theorem ev_val {α : Type} {g : Nat → Option α} {a b : α} (h : Ev g a) (e : a = b) : Ev g b := e ▸ h
theorem ev_suc {α : Type} {g : Nat → Option α} {r : α} (h : Ev (fun k => g (k + 1)) r) : Ev g r := Ev.step (fun _ => rfl) h
theorem drop_nil {α : Type} {xs : List α} {i : Int} (h0 : 0 ≤ i) (h : xs.drop i.toNat = []) : (xs.length : Int) ≤ i := by
  have := List.drop_eq_nil_iff.1 h
  omega
theorem drop_get {α : Type} {xs : List α} {i : Int} {y : α} {ys : List α} (h0 : 0 ≤ i) (h : xs.drop i.toNat = y :: ys) : i < (xs.length : Int) ∧ (∀ d, xs.getD i.toNat d = y) ∧ xs.drop (i + 1).toNat = ys ∧ xs.take (i + 1).toNat = xs.take i.toNat ++ [y] := by
  have hl : i.toNat < xs.length := by
    rcases Nat.lt_or_ge i.toNat xs.length with hl | hl
    · exact hl
    · rw [List.drop_eq_nil_iff.2 hl] at h; cases h
  have e := List.drop_eq_getElem_cons hl
  rw [h] at e
  injection e with e1 e2
  have h1 : (i + 1).toNat = i.toNat + 1 := by omega
  refine ⟨by omega, fun d => ?_, ?_, ?_⟩
  · rw [List.getD_eq_getElem?_getD, List.getElem?_eq_getElem hl, e1]; rfl
  · rw [h1]; exact e2.symm
  · rw [h1, List.take_add_one, List.getElem?_eq_getElem hl, e1]; rfl
theorem drop_cons {xs : List Int} {i : Int} {y : Int} {ys : List Int} (h0 : 0 ≤ i) (h : xs.drop i.toNat = y :: ys) : i < (xs.length : Int) ∧ rd xs i = y ∧ xs.drop (i + 1).toNat = ys ∧ xs.take (i + 1).toNat = xs.take i.toNat ++ [y] := by
  obtain ⟨h1, h2, h3⟩ := drop_get h0 h
  exact ⟨h1, h2 0, h3⟩
theorem C_take {w : World} {A : Option Addr} {n : Nat} {xs : List Int} (h : Kd.C (Kd.int .i64) w A n xs) (i : Nat) (hi : i ≤ n) : Kd.C (Kd.int .i64) w A i (xs.take i) :=
  Kd.C_of_reads (h1 := fun _ => rfl) (ReadsOf.take_ (d := (0 : Int)) (Kd.reads_of_C h) i hi)
theorem int_eq {a b : Int} (h : a = b) : Value.int .i64 a = Value.int .i64 b := by rw [h]
theorem ret_i {a b : Int} (h : a = b) : Ending.returned (.int .i64 a) = .returned (.int .i64 b) := by rw [h]
theorem ret_b {a b : Bool} (h : a = b) : Ending.returned (.bool a) = .returned (.bool b) := by rw [h]
theorem ret_ib {a b : Int} {c d : Bool} (h : a = b) (h2 : c = d) : Ending.returned (.tuple #[.int .i64 a, .bool c]) = .returned (.tuple #[.int .i64 b, .bool d]) := by rw [h, h2]
theorem ret_iib {a b a' b' : Int} {c d : Bool} (h : a = b) (h' : a' = b') (h2 : c = d) : Ending.returned (.tuple #[.int .i64 a, .int .i64 a', .bool c]) = .returned (.tuple #[.int .i64 b, .int .i64 b', .bool d]) := by rw [h, h', h2]
theorem ret_ibb {a b : Int} {c d c' d' : Bool} (h : a = b) (h' : c' = d') (h2 : c = d) : Ending.returned (.tuple #[.int .i64 a, .bool c', .bool c]) = .returned (.tuple #[.int .i64 b, .bool d', .bool d]) := by rw [h, h', h2]
theorem R_keptS {α : Type} {d : Kd α} {e base : Nat} {W W2 : World} {ok S : Nat → Prop} {v : Value} {xs : List α} (h : d.R e W base ok v xs) (hk : Kept W W2 S) (hne : ∀ k, ok k → ¬ S k) : d.R e W2 base ok v xs :=
  Kd.R_mono (Kd.R_keptB h hk hne) (fun _ h => h.1)
theorem R_C {α : Type} {d : Kd α} {e base : Nat} {W : World} {ok : Nat → Prop} {A : Option Addr} {n c : Nat} {xs : List α} (h : d.R e W base ok (.slice A n c) xs) : d.C W A n xs := by
  have h2 := Kd.R_reads' h
  have h3 := h2.2.2
  rw [← h2.1] at h3
  exact h3
def maxFrom : Int → List Int → Int
  | m, [] => m
  | m, y :: ys => maxFrom (if m < y then y else m) ys
def maxL : List Int → Int
  | [] => 0
  | x :: xs => maxFrom x xs
theorem maxFrom_le (w : Int) : ∀ (ys : List Int) (m : Int), maxFrom m ys ≤ w ↔ m ≤ w ∧ ∀ n ∈ ys, n ≤ w
  | [], m => by simp [maxFrom]
  | y :: ys, m => by
    rw [maxFrom, maxFrom_le w ys]
    simp only [List.mem_cons, forall_eq_or_imp]
    constructor
    · rintro ⟨h1, h2⟩
      split at h1 <;> exact ⟨by omega, by omega, h2⟩
    · rintro ⟨h1, h2, h3⟩
      exact ⟨by split <;> omega, h3⟩
theorem maxL_le (w : Int) (l : List Int) (h : 1 ≤ l.length) : maxL l ≤ w ↔ ∀ n ∈ l, n ≤ w := by
  cases l with
  | nil => simp at h
  | cons x xs => rw [maxL, maxFrom_le]; simp
theorem maxFrom_mem : ∀ (ys : List Int) (m : Int), maxFrom m ys = m ∨ maxFrom m ys ∈ ys
  | [], m => .inl rfl
  | y :: ys, m => by
    rw [maxFrom]
    rcases maxFrom_mem ys (if m < y then y else m) with h | h
    · rw [h]; split
      · exact .inr List.mem_cons_self
      · exact .inl rfl
    · exact .inr (List.mem_cons_of_mem _ h)
theorem maxL_mem (l : List Int) (h : 1 ≤ l.length) : maxL l ∈ l := by
  cases l with
  | nil => simp at h
  | cons x xs =>
    rw [maxL]
    rcases maxFrom_mem xs x with e | e
    · rw [e]; exact List.mem_cons_self
    · exact List.mem_cons_of_mem _ e
def wordsB (xs : List Int) : Bool := decide (1 ≤ (xs.length : Int) ∧ (xs.length : Int) ≤ 30) && decide (∀ n ∈ xs, 1 ≤ n ∧ n ≤ 80)
theorem wordsB_true {xs : List Int} (h : wordsB xs = true) : (1 ≤ (xs.length : Int) ∧ (xs.length : Int) ≤ 30) ∧ ∀ n ∈ xs, 1 ≤ n ∧ n ≤ 80 := by simpa [wordsB] using h
/-- What a line of words needs. -/
def needL (xs : List Int) : Int := xs.sum + xs.length - 1
theorem sum_bd : ∀ (xs : List Int), (∀ n ∈ xs, 1 ≤ n ∧ n ≤ 80) → (xs.length : Int) ≤ xs.sum ∧ xs.sum ≤ 80 * xs.length
  | [], _ => by simp
  | x :: xs, h => by
    have h1 := h x List.mem_cons_self
    have ih := sum_bd xs (fun n hn => h n (List.mem_cons_of_mem _ hn))
    rw [List.sum_cons, List.length_cons]; omega
def settingB (l : List Int) (wide : Int) : Bool := wordsB l && (decide (1 ≤ wide ∧ wide ≤ 80) && decide (∀ n ∈ l, n ≤ wide))
theorem settingB_true {l : List Int} {wide : Int} (h : settingB l wide = true) : wordsB l = true ∧ (1 ≤ wide ∧ wide ≤ 80) ∧ ∀ n ∈ l, n ≤ wide := by simpa [settingB] using h
set_option maxHeartbeats 8000000 in
set_option maxRecDepth 100000 in
theorem Max_go (A0 : Option Addr) (n c0 : Nat) (l0 : List Int) (w : World) (hr0 : Kd.C (Kd.int .i64) w A0 n l0) (hc0 : n ≤ c0) (hn : n < 1073741824) (h1 : 1 ≤ n) :
    Calls Try.prog 59 #[.slice A0 n c0] w fun e w' => e = .returned (.int .i64 (maxL l0)) ∧ Drawn0 w w' := by
  obtain rfl : l0.length = n := hr0.1
  have HR0 := Aside0.mk hr0
  have HN := Aside0.mk hn
  have hN := HN.out
  rcases hl : l0 with _ | ⟨y0, ys0⟩
  · rw [hl] at h1; simp at h1
  rw [← hl]
  have e0 : rd l0 0 = y0 := by rw [hl]; rfl
  have HM : Aside0 (maxFrom y0 (l0.drop 1) = maxL l0) := ⟨by rw [hl]; rfl⟩
  have hpos : (1 : Int) ≤ (l0.length : Int) := by omega
  obtain ⟨ad, rfl, hc⟩ := Kd.at_int HR0.out 0 (by omega) (by omega)
  rw [e0] at hc
  replace hc : w.cell? ad = some (Value.int IntKind.i64 y0) := by simpa [Addr.add] using hc
  have hd : decide ((l0.length : Int) < 1) = false := decide_eq_false (by omega)
  clear hr0 hc0 hn h1 hl e0
  go_enter Try.func59, Try.ntmps59
  go_wp2
  go_loopg [3, 4] (l0.length) (fun kq v3 v4 w' => ∃ x m : Int, v3 = .int .i64 m ∧ v4 = .int .i64 x ∧ Aside0 (1 ≤ x ∧ x + kq = l0.length + 1 ∧ x ≤ l0.length ∧ maxFrom m (l0.drop x.toNat) = maxL l0) ∧ Drawn0 w w')
  case atStart => exact ⟨1, y0, rfl, rfl, ⟨by omega, by omega, by omega, HM.out⟩, (by repeat (first | exact Drawn0.refl _ | apply Drawn0.step))⟩
  case round =>
    obtain ⟨x, m, rfl, rfl, HX, ⟨m1, rfl⟩⟩ := hrel
    have hx0 := HX.out.1
    have hxk := HX.out.2.1
    clear HM
    rcases hdr : l0.drop x.toNat with _ | ⟨y, ys⟩
    · have hlen := drop_nil (by omega) hdr
      have HE : Aside0 (m = maxL l0) := ⟨by have := HX.out.2.2.2; rw [hdr] at this; exact this⟩
      clear hdr hxk
      go_wp2
      go_ret
      exact ⟨ret_i HE.out, (by repeat (first | exact Drawn0.refl _ | apply Drawn0.step))⟩
    · obtain ⟨h1, h2, h3, h4⟩ := drop_cons (by omega) hdr
      obtain ⟨ad2, e3, hc2⟩ := Kd.at_int HR0.out x (by omega) h1
      cases e3
      rw [h2] at hc2
      have HE : Aside0 (maxFrom (if m < y then y else m) (l0.drop (x + 1).toNat) = maxL l0) := ⟨by have := HX.out.2.2.2; rw [hdr] at this; rw [h3]; exact this⟩
      have HXK := Aside0.mk hxk
      clear h2 h3 h4 hdr hxk HX
      by_cases d : m < y
      · rw [if_pos d] at HE
        go_wp2
        cases gk with
        | zero => exact absurd HXK.out (by omega)
        | succ k1 =>
          go_roundg k1
          case measure => omega
          case rel => exact ⟨x + 1, y, rfl, rfl, ⟨by omega, by have := HXK.out; omega, by omega, HE.out⟩, (by repeat (first | exact Drawn0.refl _ | apply Drawn0.step))⟩
      · rw [if_neg d] at HE
        go_wp2
        cases gk with
        | zero => exact absurd HXK.out (by omega)
        | succ k1 =>
          go_roundg k1
          case measure => omega
          case rel => exact ⟨x + 1, m, rfl, rfl, ⟨by omega, by have := HXK.out; omega, by omega, HE.out⟩, (by repeat (first | exact Drawn0.refl _ | apply Drawn0.step))⟩
section
open Go.Proofs.Ytaodhgpkdchknaa.PAreWords
theorem within_eq (a lo hi : Int) : impl_within.f a lo hi = some (decide (lo ≤ a ∧ a ≤ hi)) := by
  unfold impl_within.f
  by_cases h : a ≥ lo
  · rw [if_pos h]; congr 1; simp [show lo ≤ a from h]
  · rw [if_neg h]; congr 1; simp; omega
theorem allWithin_l (lo hi : Int) (xs : List Int) (hn : xs.length < 4611686018427387904) : ∀ (ys : List Int) (i : Int), 0 ≤ i → xs.drop i.toNat = ys →
    Ev (fun k => impl_allWithin.l0 k lo hi xs (xs.length : Int) i) (decide (∀ n ∈ ys, lo ≤ n ∧ n ≤ hi)) := by
  intro ys
  induction ys with
  | nil =>
    intro i h0 h
    have := drop_nil h0 h
    refine Ev.step (fun k => impl_allWithin.l0.eq_2 ..) ?_
    exact ev_neg (by omega) (ev_now (by simp))
  | cons y ys ih =>
    intro i h0 h
    obtain ⟨h1, h2, h3, _⟩ := drop_cons h0 h
    refine Ev.step (fun k => impl_allWithin.l0.eq_2 ..) ?_
    refine ev_pos h1 (ev_pos h0 (ev_pos h1 ?_))
    rw [h2, w64 (by omega) (by omega)]
    refine ev_some (within_eq ..) ?_
    by_cases hy : lo ≤ y ∧ y ≤ hi
    · exact ev_pos (by simpa using hy) (ev_val (ih _ (by omega) h3) (by simp [hy]))
    · exact ev_neg (by simpa using hy) (ev_now (by simp [hy]))
theorem allWithin_ev (xs : List Int) (lo hi : Int) (hn : xs.length < 4611686018427387904) :
    Ev (fun k => impl_allWithin.f k xs lo hi) (decide (∀ n ∈ xs, lo ≤ n ∧ n ≤ hi)) := allWithin_l lo hi xs hn xs 0 (by omega) rfl
theorem AreWords_ev (xs : List Int) (hn : xs.length < 4611686018427387904) : Ev (fun k => impl_AreWords.f k xs) (wordsB xs) := by
  unfold impl_AreWords.f wordsB
  refine ev_some (within_eq ..) ?_
  by_cases h : 1 ≤ (xs.length : Int) ∧ (xs.length : Int) ≤ 30
  · refine ev_pos (by simpa using h) (Ev.bind (allWithin_ev xs 1 80 hn) (ev_now (by simp [h])))
  · exact ev_neg (by simpa using h) (ev_now (by simp [h]))
theorem AreWords_go (A0 : Option Addr) (n c0 : Nat) (l0 : List Int) (r : Bool) (w : World) (hr0 : Kd.C (Kd.int .i64) w A0 n l0) (hc0 : n ≤ c0) (hn : n < 1073741824) (h : wordsB l0 = r) :
    Calls Try.prog 17 #[.slice A0 n c0] w fun e w' => e = .returned (.bool r) ∧ Drawn0 w w' := by
  obtain rfl : l0.length = n := hr0.1
  obtain ⟨k, hk⟩ := (AreWords_ev l0 (by omega)).rounds
  exact impl_AreWords.calls k A0 c0 l0 r w hr0 hc0 (by rw [hk, h])
theorem within_go (a lo hi : Int) (r : Bool) (w : World) (h : decide (lo ≤ a ∧ a ≤ hi) = r) :
    Calls Try.prog 44 #[.int .i64 a, .int .i64 lo, .int .i64 hi] w fun e w' => e = .returned (.bool r) ∧ Drawn0 w w' :=
  impl_within.calls a lo hi r w (by rw [within_eq, h])
end
set_option maxHeartbeats 8000000 in
set_option maxRecDepth 100000 in
theorem isSetting_go (A0 : Option Addr) (n c0 : Nat) (l0 : List Int) (wide : Int) (r : Bool) (w : World) (hr0 : Kd.C (Kd.int .i64) w A0 n l0) (hc0 : n ≤ c0) (hn : n < 1073741824) (h : settingB l0 wide = r) :
    Calls Try.prog 52 #[.slice A0 n c0, .int .i64 wide] w fun e w' => e = .returned (.bool r) ∧ Drawn0 w w' := by
  obtain rfl : l0.length = n := hr0.1
  have HR0 := Aside0.mk hr0
  have HC0 := Aside0.mk hc0
  have HN := Aside0.mk hn
  clear hr0 hc0 hn
  by_cases h1 : wordsB l0 = true
  · have H1 := Aside0.mk h1
    have hw1 := (wordsB_true h1).1.1
    by_cases h2 : 1 ≤ wide ∧ wide ≤ 80
    · have H2 := Aside0.mk (decide_eq_true h2)
      have hm := maxL_le wide l0 (by omega)
      by_cases h3 : maxL l0 ≤ wide
      · have hr : r = true := by rw [← h]; unfold settingB; rw [h1, decide_eq_true h2, decide_eq_true (hm.1 h3)]; rfl
        subst hr
        have H3 := Aside0.mk h1
        have hd : decide (maxL l0 ≤ wide) = true := decide_eq_true h3
        clear h h1 h2 h3 hm
        go_enter Try.func52, Try.ntmps52
        go_wp2_with (first | (go_at_call 17; (with_reducible refine (AreWords_go _ _ _ l0 true _ ?side1 HC0.out HN.out H1.out).mono ?_); (case side1 => repeat (first | exact HR0.out | (with_reducible refine Kd.C_alloc ?_ _) | (with_reducible refine Kd.C_drewN ?_ _) | (with_reducible refine Kd.C_drew ?_))); rintro e w' ⟨rfl, ⟨nd, rfl⟩⟩) | (go_at_call 44; (with_reducible refine (within_go _ _ _ true _ H2.out).mono ?_); rintro e w' ⟨rfl, ⟨nd, rfl⟩⟩) | (go_at_call 59; (with_reducible refine (Max_go _ _ _ l0 _ ?side1 HC0.out HN.out ?side2).mono ?_); (case side1 => repeat (first | exact HR0.out | (with_reducible refine Kd.C_alloc ?_ _) | (with_reducible refine Kd.C_drewN ?_ _) | (with_reducible refine Kd.C_drew ?_))); (case side2 => omega); rintro e w' ⟨rfl, ⟨nd, rfl⟩⟩))
        go_ret
        exact ⟨rfl, (by repeat (first | exact Drawn0.refl _ | apply Drawn0.step))⟩
      · have hr : r = false := by rw [← h]; unfold settingB; rw [decide_eq_false (fun hh => h3 (hm.2 hh))]; simp
        subst hr
        have hd : decide (maxL l0 ≤ wide) = false := decide_eq_false h3
        clear h h1 h2 h3 hm
        go_enter Try.func52, Try.ntmps52
        go_wp2_with (first | (go_at_call 17; (with_reducible refine (AreWords_go _ _ _ l0 true _ ?side1 HC0.out HN.out H1.out).mono ?_); (case side1 => repeat (first | exact HR0.out | (with_reducible refine Kd.C_alloc ?_ _) | (with_reducible refine Kd.C_drewN ?_ _) | (with_reducible refine Kd.C_drew ?_))); rintro e w' ⟨rfl, ⟨nd, rfl⟩⟩) | (go_at_call 44; (with_reducible refine (within_go _ _ _ true _ H2.out).mono ?_); rintro e w' ⟨rfl, ⟨nd, rfl⟩⟩) | (go_at_call 59; (with_reducible refine (Max_go _ _ _ l0 _ ?side1 HC0.out HN.out ?side2).mono ?_); (case side1 => repeat (first | exact HR0.out | (with_reducible refine Kd.C_alloc ?_ _) | (with_reducible refine Kd.C_drewN ?_ _) | (with_reducible refine Kd.C_drew ?_))); (case side2 => omega); rintro e w' ⟨rfl, ⟨nd, rfl⟩⟩))
        go_ret
        exact ⟨rfl, (by repeat (first | exact Drawn0.refl _ | apply Drawn0.step))⟩
    · have H2 := Aside0.mk (decide_eq_false h2)
      have hr : r = false := by rw [← h]; unfold settingB; rw [decide_eq_false h2]; simp
      subst hr
      clear h h1 h2
      go_enter Try.func52, Try.ntmps52
      go_wp2_with (first | (go_at_call 17; (with_reducible refine (AreWords_go _ _ _ l0 true _ ?side1 HC0.out HN.out H1.out).mono ?_); (case side1 => repeat (first | exact HR0.out | (with_reducible refine Kd.C_alloc ?_ _) | (with_reducible refine Kd.C_drewN ?_ _) | (with_reducible refine Kd.C_drew ?_))); rintro e w' ⟨rfl, ⟨nd, rfl⟩⟩) | (go_at_call 44; (with_reducible refine (within_go _ _ _ false _ H2.out).mono ?_); rintro e w' ⟨rfl, ⟨nd, rfl⟩⟩))
      go_ret
      exact ⟨rfl, (by repeat (first | exact Drawn0.refl _ | apply Drawn0.step))⟩
  · have H1 := Aside0.mk (Bool.eq_false_iff.mpr h1)
    have hr : r = false := by rw [← h]; unfold settingB; rw [H1.out]; rfl
    subst hr
    clear h h1
    go_enter Try.func52, Try.ntmps52
    go_wp2_with (go_at_call 17; (with_reducible refine (AreWords_go _ _ _ l0 false _ ?side1 HC0.out HN.out H1.out).mono ?_); (case side1 => repeat (first | exact HR0.out | (with_reducible refine Kd.C_alloc ?_ _) | (with_reducible refine Kd.C_drewN ?_ _) | (with_reducible refine Kd.C_drew ?_))); rintro e w' ⟨rfl, ⟨nd, rfl⟩⟩)
    go_ret
    exact ⟨rfl, (by repeat (first | exact Drawn0.refl _ | apply Drawn0.step))⟩
end Go.Proofs.Ytaodhgpkdchknaa.Own
