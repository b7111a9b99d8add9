/- The models of lines of words: filled lines, the least cost, the least of the greatest rests, the first lines with the least cost; and what is true of them, in plain lists. -/
import Derived.Test.YtpedlkhfeoeogaaDoorWMore
import Derived.Test.YtpedlkhfeoeogaaDoorWLast
import Derived.Deep.OwnRows
import Derived.Test.YtpedlkhfeoeogaaDoorProg
namespace Go.Proofs.YtpedlkhfeoeogaaDoor.Own
open Go.RowKit Go.Proofs.YtpedlkhfeoeogaaDoorW.PrintWords Go.Proofs.YtpedlkhfeoeogaaDoorW.PrintLast Go.Proofs.YtpedlkhfeoeogaaDoorW.PrintMore
set_option linter.unusedVariables false
set_option linter.unusedSimpArgs false
theorem infoI : (Tryd.prog.info? 3).map (fun i => (i.zero, i.size, i.bytes)) = some (some (.int .i64 0), 1, 8) := by kernel_rfl
theorem w64 {x : Int} (h1 : -9223372036854775808 ≤ x) (h2 : x ≤ 9223372036854775807) : wrap64 x = x := by
 unfold wrap64; omega
theorem ev_pos {α : Type} {c : Prop} [Decidable c] {f g : Nat → Option α} {r : α} (hc : c) (h : Ev f r) : Ev (fun k => if c then f k else g k) r := by
 simpa only [if_pos hc] using h
theorem ev_neg {α : Type} {c : Prop} [Decidable c] {f g : Nat → Option α} {r : α} (hc : ¬ c) (h : Ev g r) : Ev (fun k => if c then f k else g k) r := by
 simpa only [if_neg hc] using h
theorem ev_now {α : Type} {r s : α} (h : r = s) : Ev (fun _ => some r) s := h ▸ Ev.now r
theorem ev_some {α β : Type} {x : Option α} {f : Nat → α → Option β} {a : α} {r : β} (h : x = some a) (k : Ev (fun n => f n a) r) : Ev (fun n => x.bind (f n)) r := by
 subst h; exact k
theorem ev_val {α : Type} {g : Nat → Option α} {a b : α} (h : Ev g a) (e : a = b) : Ev g b := e ▸ h
theorem ev_suc {α : Type} {g : Nat → Option α} {r : α} (h : Ev (fun k => g (k + 1)) r) : Ev g r := Ev.step (fun _ => rfl) h
theorem drop_nil {α : Type} {xs : List α} {i : Int} (h0 : 0 ≤ i) (h : xs.drop i.toNat = []) : (xs.length : Int) ≤ i := by
 have := List.drop_eq_nil_iff.1 h
 omega
theorem drop_get {α : Type} {xs : List α} {i : Int} {y : α} {ys : List α} (h0 : 0 ≤ i) (h : xs.drop i.toNat = y :: ys) : i < (xs.length : Int) ∧ (∀ d, xs.getD i.toNat d = y) ∧ xs.drop (i + 1).toNat = ys ∧ xs.take (i + 1).toNat = xs.take i.toNat ++ [y] := by
 have hl : i.toNat < xs.length := by
  rcases Nat.lt_or_ge i.toNat xs.length with hl | hl
  ·exact hl
  ·rw [List.drop_eq_nil_iff.2 hl] at h; cases h
 have e := List.drop_eq_getElem_cons hl
 rw [h] at e
 injection e with e1 e2
 have h1 : (i + 1).toNat = i.toNat + 1 := by omega
 refine ⟨by omega, fun d => ?_, ?_, ?_⟩
 ·rw [List.getD_eq_getElem?_getD, List.getElem?_eq_getElem hl, e1]; rfl
 ·rw [h1]; exact e2.symm
 ·rw [h1, List.take_add_one, List.getElem?_eq_getElem hl, e1]; rfl
theorem drop_cons {xs : List Int} {i : Int} {y : Int} {ys : List Int} (h0 : 0 ≤ i) (h : xs.drop i.toNat = y :: ys) : i < (xs.length : Int) ∧ rd xs i = y ∧ xs.drop (i + 1).toNat = ys ∧ xs.take (i + 1).toNat = xs.take i.toNat ++ [y] := by
 obtain ⟨h1, h2, h3⟩ := drop_get h0 h
 exact ⟨h1, h2 0, h3⟩
theorem C_take {w : World} {A : Option Addr} {n : Nat} {xs : List Int} (h : Kd.C (Kd.int .i64) w A n xs) (i : Nat) (hi : i ≤ n) : Kd.C (Kd.int .i64) w A i (xs.take i) :=
 Kd.C_of_reads (h1 := fun _ => rfl) (ReadsOf.take_ (d := (0 : Int)) (Kd.reads_of_C h) i hi)
theorem int_eq {a b : Int} (h : a = b) : Value.int .i64 a = Value.int .i64 b := by rw [h]
theorem ret_i {a b : Int} (h : a = b) : Ending.returned (.int .i64 a) = .returned (.int .i64 b) := by rw [h]
theorem ret_b {a b : Bool} (h : a = b) : Ending.returned (.bool a) = .returned (.bool b) := by rw [h]
theorem ret_ib {a b : Int} {c d : Bool} (h : a = b) (h2 : c = d) : Ending.returned (.tuple #[.int .i64 a, .bool c]) = .returned (.tuple #[.int .i64 b, .bool d]) := by rw [h, h2]
theorem ret_iib {a b a' b' : Int} {c d : Bool} (h : a = b) (h' : a' = b') (h2 : c = d) : Ending.returned (.tuple #[.int .i64 a, .int .i64 a', .bool c]) = .returned (.tuple #[.int .i64 b, .int .i64 b', .bool d]) := by rw [h, h', h2]
theorem ret_ibb {a b : Int} {c d c' d' : Bool} (h : a = b) (h' : c' = d') (h2 : c = d) : Ending.returned (.tuple #[.int .i64 a, .bool c', .bool c]) = .returned (.tuple #[.int .i64 b, .bool d', .bool d]) := by rw [h, h', h2]
theorem R_keptS {α : Type} {d : Kd α} {e base : Nat} {W W2 : World} {ok S : Nat → Prop} {v : Value} {xs : List α} (h : d.R e W base ok v xs) (hk : Kept W W2 S) (hne : ∀ k, ok k → ¬ S k) : d.R e W2 base ok v xs :=
 Kd.R_mono (Kd.R_keptB h hk hne) (fun _ h => h.1)
theorem R_C {α : Type} {d : Kd α} {e base : Nat} {W : World} {ok : Nat → Prop} {A : Option Addr} {n c : Nat} {xs : List α} (h : d.R e W base ok (.slice A n c) xs) : d.C W A n xs := by
 have h2 := Kd.R_reads' h
 have h3 := h2.2.2
 rw [← h2.1] at h3
 exact h3
def maxFrom : Int → List Int → Int
 | m, [] => m
 | m, y :: ys => maxFrom (if m < y then y else m) ys
def maxL : List Int → Int
 | [] => 0
 | x :: xs => maxFrom x xs
theorem maxFrom_le (w : Int) : ∀ (ys : List Int) (m : Int), maxFrom m ys ≤ w ↔ m ≤ w ∧ ∀ n ∈ ys, n ≤ w
 | [], m => by simp [maxFrom]
 | y :: ys, m => by
  rw [maxFrom, maxFrom_le w ys]
  simp only [List.mem_cons, forall_eq_or_imp]
  constructor
  ·rintro ⟨h1, h2⟩
   split at h1 <;> exact ⟨by omega, by omega, h2⟩
  ·rintro ⟨h1, h2, h3⟩
   exact ⟨by split <;> omega, h3⟩
theorem maxL_le (w : Int) (l : List Int) (h : 1 ≤ l.length) : maxL l ≤ w ↔ ∀ n ∈ l, n ≤ w := by
 cases l with
 | nil => simp at h
 | cons x xs => rw [maxL, maxFrom_le]; simp
theorem maxFrom_mem : ∀ (ys : List Int) (m : Int), maxFrom m ys = m ∨ maxFrom m ys ∈ ys
 | [], m => .inl rfl
 | y :: ys, m => by
  rw [maxFrom]
  rcases maxFrom_mem ys (if m < y then y else m) with h | h
  ·rw [h]; split
   ·exact .inr List.mem_cons_self
   ·exact .inl rfl
  ·exact .inr (List.mem_cons_of_mem _ h)
theorem maxL_mem (l : List Int) (h : 1 ≤ l.length) : maxL l ∈ l := by
 cases l with
 | nil => simp at h
 | cons x xs =>
  rw [maxL]
  rcases maxFrom_mem xs x with e | e
  ·rw [e]; exact List.mem_cons_self
  ·exact List.mem_cons_of_mem _ e
def wordsB (xs : List Int) : Bool := decide (1 ≤ (xs.length : Int) ∧ (xs.length : Int) ≤ 30) && decide (∀ n ∈ xs, 1 ≤ n ∧ n ≤ 80)
theorem wordsB_true {xs : List Int} (h : wordsB xs = true) : (1 ≤ (xs.length : Int) ∧ (xs.length : Int) ≤ 30) ∧ ∀ n ∈ xs, 1 ≤ n ∧ n ≤ 80 := by simpa [wordsB] using h
/-- What a line of words needs. -/
def needL (xs : List Int) : Int := xs.sum + xs.length - 1
theorem sum_bd : ∀ (xs : List Int), (∀ n ∈ xs, 1 ≤ n ∧ n ≤ 80) → (xs.length : Int) ≤ xs.sum ∧ xs.sum ≤ 80 * xs.length
 | [], _ => by simp
 | x :: xs, h => by
  have h1 := h x List.mem_cons_self
  have ih := sum_bd xs (fun n hn => h n (List.mem_cons_of_mem _ hn))
  rw [List.sum_cons, List.length_cons]; omega
def settingB (l : List Int) (wide : Int) : Bool := wordsB l && (decide (1 ≤ wide ∧ wide ≤ 80) && decide (∀ n ∈ l, n ≤ wide))
theorem settingB_true {l : List Int} {wide : Int} (h : settingB l wide = true) : wordsB l = true ∧ (1 ≤ wide ∧ wide ≤ 80) ∧ ∀ n ∈ l, n ≤ wide := by simpa [settingB] using h
section
variable {P : Program} {ops : Array Oper} {rest : List Oper} {o : Oper} {a : Act} {Q : Exit → Act → World → Prop}
/-- append(v, q), the one just laid into a block of its own. -/
theorem R_append1 {w0 W : World} (base : Nat) (hgd : o.guard = none) (s x : Operand) (t e : TypeId)
  (ho : o.op = .call { callee := .builtin .append, args := #[s, x], argTypes := #[t, t] })
  (ht : P.underlying t = some (.slice e)) (hinfo : (P.info? e).map (fun i => (i.zero, i.size, i.bytes)) = some (some (.int .i64 0), 1, 8))
  (v : Value) (xs : List Int) (q : Int) (hs : a.eval s = v) (hx : a.eval x = .slice (some ⟨W.heap.size, 0, none⟩) 1 1)
  (HO : Kd.R (Kd.int .i64) e W base (fun _ => True) v xs) (HB : Below base w0 W) (hbase : base ≤ W.heap.size) (hl : (xs.length + 1) * 8 ≤ 140737488355328)
  (h : ∀ v1 w1, Kd.R (Kd.int .i64) e w1 base (fun _ => True) v1 (xs ++ [q]) → Below base w0 w1 → wpList P ops Q rest (a.put o.dst v1) w1) :
  wpList P ops Q (o :: rest) a (W.alloc (.cells #[.int .i64 q] e)) := by
 refine Kd.R_append (Kd.int .i64) (w0 := w0) base hgd s x t e (.int .i64 0) 8 ho ht hinfo rfl (by decide) (by omega) v xs q [.int .i64 q] (fun _ => True) (fun _ => False) hs hx rfl (fun _ hk => hk.elim) (fun _ _ => trivial) HO HB hbase hl ?_
 intro v1 w1 h1 h2 _ _
 exact h v1 w1 h1 h2
end
def fillK (wide : Int) (ws : List Int) : Nat → Nat → Nat
 | 0, k => k
 | f + 1, k => if needL (ws.take (k + 1)) ≤ wide then fillK wide ws f (k + 1) else k
theorem fillK_ge (wide : Int) (ws : List Int) : ∀ (f k : Nat), k ≤ fillK wide ws f k ∧ fillK wide ws f k ≤ k + f
 | 0, k => by simp [fillK]
 | f + 1, k => by
  rw [fillK]
  split
  ·have := fillK_ge wide ws f (k + 1); omega
  ·omega
def fillL (wide : Int) : Nat → List Int → List Int
 | 0, _ => []
 | _ + 1, [] => []
 | f + 1, w :: ws => (fillK wide (w :: ws) ws.length 1 : Int) :: fillL wide f ((w :: ws).drop (fillK wide (w :: ws) ws.length 1))
theorem fillL_length (wide : Int) : ∀ (f : Nat) (ws : List Int), (fillL wide f ws).length ≤ f
 | 0, _ => by simp [fillL]
 | f + 1, [] => by simp [fillL]
 | f + 1, w :: ws => by
  have := fillL_length wide f ((w :: ws).drop (fillK wide (w :: ws) ws.length 1))
  simp only [fillL, List.length_cons]; omega
def fillM (wide : Int) (ws : List Int) : List Int := fillL wide ws.length ws
/-- What each line needs. -/
def usedL : List Int → List Int → List Int
 | _, [] => []
 | ws, n :: ns => needL (ws.take n.toNat) :: usedL (ws.drop n.toNat) ns
theorem usedL_length : ∀ (ns ws : List Int), (usedL ws ns).length = ns.length
 | [], _ => rfl
 | n :: ns, ws => by simp [usedL, usedL_length ns]
/-- Lines of words. -/
def linesB (ws ls : List Int) : Bool := wordsB ws && (decide (ls.length ≤ ws.length) && (decide (∀ n ∈ ls, 1 ≤ n ∧ n ≤ (ws.length : Int)) && decide (ls.sum = (ws.length : Int))))
theorem linesB_true {ws ls : List Int} (h : linesB ws ls = true) : wordsB ws = true ∧ ls.length ≤ ws.length ∧ (∀ n ∈ ls, 1 ≤ n ∧ n ≤ (ws.length : Int)) ∧ ls.sum = (ws.length : Int) := by simpa [linesB] using h
theorem linesB_of {ws ls : List Int} (h1 : wordsB ws = true) (h2 : ls.length ≤ ws.length) (h3 : ∀ n ∈ ls, 1 ≤ n ∧ n ≤ (ws.length : Int)) (h4 : ls.sum = (ws.length : Int)) : linesB ws ls = true := by
 unfold linesB
 rw [h1, decide_eq_true h2, decide_eq_true h3, decide_eq_true h4]; rfl
theorem sum_ge : ∀ (ls : List Int), (∀ n ∈ ls, 1 ≤ n) → (ls.length : Int) ≤ ls.sum ∧ ∀ n ∈ ls, n ≤ ls.sum
 | [], _ => by simp
 | x :: xs, h => by
  have h1 := h x List.mem_cons_self
  have ih := sum_ge xs (fun n hn => h n (List.mem_cons_of_mem _ hn))
  rw [List.sum_cons, List.length_cons]
  refine ⟨by omega, fun n hn => ?_⟩
  rcases List.mem_cons.1 hn with rfl | hn
  ·have := ih.1; omega
  ·have := ih.2 n hn; omega
/-- As the program tests them. -/
theorem linesB_impl (ws ls : List Int) (h : wordsB ws = true) : linesB ws ls = (decide (∀ n ∈ ls, 1 ≤ n ∧ n ≤ 30) && (decide (ls.length ≤ 30) && decide (ls.sum = (ws.length : Int)))) := by
 obtain ⟨⟨w1, w2⟩, _⟩ := wordsB_true h
 cases hb : linesB ws ls with
 | true =>
  obtain ⟨_, b2, b3, b4⟩ := linesB_true hb
  rw [decide_eq_true (fun n hn => ⟨(b3 n hn).1, by have := (b3 n hn).2; omega⟩ : ∀ n ∈ ls, 1 ≤ n ∧ n ≤ 30), decide_eq_true (by omega : ls.length ≤ 30), decide_eq_true b4]; rfl
 | false =>
  symm
  rw [← Bool.not_eq_true]
  intro hc
  simp only [Bool.and_eq_true, decide_eq_true_eq] at hc
  obtain ⟨c1, c2, c3⟩ := hc
  have hs := sum_ge ls (fun n hn => (c1 n hn).1)
  have := linesB_of h (by omega) (fun n hn => ⟨(c1 n hn).1, by have := hs.2 n hn; omega⟩) c3
  rw [this] at hb; cases hb
/-- In how many ways the words from one on fit: the inner loop, from k words of the first line on. -/
def canK (wide most : Int) (ws rest : List Int) : Nat → Nat → Int → Int
 | 0, _, acc => acc
 | f + 1, k, acc => if needL (ws.take k) ≤ wide then canK wide most ws rest f (k + 1) (if k = ws.length ∨ wide - needL (ws.take k) ≤ most then acc + rest.getD (k - 1) 0 else acc) else acc
def canL (wide most : Int) : List Int → List Int
 | [] => [1]
 | w :: ws => canK wide most (w :: ws) (canL wide most ws) (ws.length + 1) 1 0 :: canL wide most ws
theorem canL_length (wide most : Int) : ∀ l : List Int, (canL wide most l).length = l.length + 1
 | [] => rfl
 | w :: ws => by simp [canL, canL_length wide most ws]
theorem getD_drop_sum (l : List Int) (k : Nat) : l.getD k 0 + (l.drop (k + 1)).sum = (l.drop k).sum := by
 rcases Nat.lt_or_ge k l.length with h | h
 ·rw [List.drop_eq_getElem_cons h, List.sum_cons, List.getD_eq_getElem?_getD, List.getElem?_eq_getElem h]; rfl
 ·rw [List.drop_eq_nil_iff.2 h, List.drop_eq_nil_iff.2 (by omega), List.getD_eq_getElem?_getD, List.getElem?_eq_none h]; rfl
theorem getD_nonneg (l : List Int) (h : ∀ x ∈ l, 0 ≤ x) (k : Nat) : 0 ≤ l.getD k 0 := by
 rcases Nat.lt_or_ge k l.length with hk | hk
 ·rw [List.getD_eq_getElem?_getD, List.getElem?_eq_getElem hk]; exact h _ (List.getElem_mem hk)
 ·rw [List.getD_eq_getElem?_getD, List.getElem?_eq_none hk]; exact Int.le_refl 0
theorem sum_nonneg (l : List Int) (h : ∀ x ∈ l, 0 ≤ x) : 0 ≤ l.sum := by
 induction l with
 | nil => simp
 | cons y ys ih => rw [List.sum_cons]; have := h y List.mem_cons_self; have := ih (fun x hx => h x (List.mem_cons_of_mem _ hx)); omega
theorem canK_bd (wide most : Int) (ws rest : List Int) (hr : ∀ x ∈ rest, 0 ≤ x) : ∀ (f k : Nat) (acc : Int), 1 ≤ k → acc ≤ canK wide most ws rest f k acc ∧ canK wide most ws rest f k acc ≤ acc + (rest.drop (k - 1)).sum := by
 intro f
 induction f with
 | zero => intro k acc hk; have := sum_nonneg (rest.drop (k - 1)) (fun x hx => hr x (List.mem_of_mem_drop hx)); simp only [canK]; omega
 | succ f ih =>
  intro k acc hk
  have h1 := getD_drop_sum rest (k - 1)
  have h2 := getD_nonneg rest hr (k - 1)
  have h3 := sum_nonneg (rest.drop (k - 1)) (fun x hx => hr x (List.mem_of_mem_drop hx))
  rw [show k - 1 + 1 = k from by omega] at h1
  rw [canK]
  split
  ·have := ih (k + 1) (if k = ws.length ∨ wide - needL (ws.take k) ≤ most then acc + rest.getD (k - 1) 0 else acc) (by omega)
   rw [show k + 1 - 1 = k from by omega] at this
   split at this <;> rename_i hc
   ·rw [if_pos hc]; omega
   ·rw [if_neg hc]; omega
  ·omega
theorem canL_bd (wide most : Int) : ∀ l : List Int, (∀ x ∈ canL wide most l, 0 ≤ x) ∧ (canL wide most l).sum ≤ 2 ^ l.length
 | [] => by simp [canL]
 | w :: ws => by
  obtain ⟨h1, h2⟩ := canL_bd wide most ws
  have h3 := canK_bd wide most (w :: ws) (canL wide most ws) h1 (ws.length + 1) 1 0 (by omega)
  simp only [show 1 - 1 = 0 from rfl, List.drop_zero] at h3
  refine ⟨?_, ?_⟩
  ·intro x hx
   rw [canL, List.mem_cons] at hx
   rcases hx with rfl | hx
   ·exact h3.1
   ·exact h1 x hx
  ·rw [canL, List.sum_cons, List.length_cons, Int.pow_succ]; omega
theorem mem_le_sum (l : List Int) (h : ∀ x ∈ l, 0 ≤ x) : ∀ x ∈ l, x ≤ l.sum := by
 induction l with
 | nil => simp
 | cons y ys ih =>
  intro x hx
  rw [List.sum_cons]
  have h1 := h y List.mem_cons_self
  have h2 := sum_nonneg ys (fun x hx => h x (List.mem_cons_of_mem _ hx))
  rcases List.mem_cons.1 hx with rfl | hx
  ·omega
  ·have := ih (fun x hx => h x (List.mem_cons_of_mem _ hx)) x hx; omega
theorem pow_le30 {n : Nat} (h : n ≤ 30) : (2 : Int) ^ n ≤ 1073741824 := by
 have h2 : 2 ^ n ≤ 2 ^ 30 := Nat.pow_le_pow_right (by omega) h
 have h3 : ((2 ^ n : Nat) : Int) ≤ ((2 ^ 30 : Nat) : Int) := by omega
 rw [Int.natCast_pow] at h3
 simpa using h3
theorem canL_le (wide most : Int) (l : List Int) (hl : l.length ≤ 30) (k : Nat) : 0 ≤ (canL wide most l).getD k 0 ∧ (canL wide most l).getD k 0 ≤ 1073741824 := by
 obtain ⟨h1, h2⟩ := canL_bd wide most l
 have h3 := pow_le30 hl
 refine ⟨getD_nonneg _ h1 k, ?_⟩
 rcases Nat.lt_or_ge k (canL wide most l).length with hk | hk
 ·rw [List.getD_eq_getElem?_getD, List.getElem?_eq_getElem hk]
  have := mem_le_sum _ h1 _ (List.getElem_mem hk)
  simp only [Option.getD_some]; omega
 ·rw [List.getD_eq_getElem?_getD, List.getElem?_eq_none hk]; simp
def canM (l : List Int) (wide most : Int) : Int := (canL wide most l).getD 0 0
/-! a row: zeros, the place in hand, the rest -/
def rowAt (i : Nat) (acc : Int) (R : List Int) : List Int := List.replicate i 0 ++ acc :: R
theorem rowAt_length (i : Nat) (acc : Int) (R : List Int) : (rowAt i acc R).length = i + 1 + R.length := by simp [rowAt]; omega
theorem rowAt_rd (i : Nat) (acc : Int) (R : List Int) : rd (rowAt i acc R) (i : Int) = acc := by
 unfold rowAt rd
 rw [Int.toNat_natCast, List.getD_eq_getElem?_getD, List.getElem?_append_right (by simp)]; simp
theorem rowAt_rd2 (i j : Nat) (acc : Int) (R : List Int) (hj : 1 ≤ j) : rd (rowAt i acc R) ((i : Int) + (j : Int)) = R.getD (j - 1) 0 := by
 unfold rowAt rd
 rw [show ((i : Int) + (j : Int)).toNat = i + j from by omega, List.getD_eq_getElem?_getD, List.getD_eq_getElem?_getD, List.getElem?_append_right (by simp)]
 congr 1
 rw [List.length_replicate, show i + j - i = (j - 1) + 1 from by omega, List.getElem?_cons_succ]
theorem rowAt_set (i : Nat) (acc v : Int) (R : List Int) : (rowAt i acc R).set i v = rowAt i v R := by
 unfold rowAt
 rw [List.set_append_right _ _ (by simp)]; simp
theorem rowAt_zero (i : Nat) (R : List Int) : rowAt i 0 R = List.replicate (i + 1) 0 ++ R := by
 unfold rowAt
 rw [List.replicate_succ']; simp
theorem rowAt_new (n : Nat) (v : Int) : (List.replicate (n + 1) (0 : Int)).set n v = rowAt n v [] := by
 rw [← List.append_nil (List.replicate (n + 1) (0 : Int)), ← rowAt_zero, rowAt_set]
/-- The least cost of the words from one on: the inner loop, from k words of the first line on. -/
def bestK (put : Int → Int → Int) (wide : Int) (ws rest : List Int) : Nat → Nat → Int → Int
 | 0, _, acc => acc
 | f + 1, k, acc =>
  if needL (ws.take k) ≤ wide then
   bestK put wide ws rest f (k + 1) (if acc < 0 ∨ (if k < ws.length then put (wide - needL (ws.take k)) (rest.getD (k - 1) 0) else 0) < acc then (if k < ws.length then put (wide - needL (ws.take k)) (rest.getD (k - 1) 0) else 0) else acc)
  else acc
def bestL (put : Int → Int → Int) (wide : Int) : List Int → List Int
 | [] => [0]
 | w :: ws => bestK put wide (w :: ws) (bestL put wide ws) (ws.length + 1) 1 (-1) :: bestL put wide ws
theorem bestL_length (put : Int → Int → Int) (wide : Int) : ∀ l : List Int, (bestL put wide l).length = l.length + 1
 | [] => rfl
 | w :: ws => by simp [bestL, bestL_length put wide ws]
/-- How far a cost may grow by one line. -/
def PutOk (put : Int → Int → Int) : Prop := ∀ r c B : Int, 0 ≤ r → r ≤ 80 → -1 ≤ c → c ≤ B → 0 ≤ B → -1 ≤ put r c ∧ put r c ≤ B + 6400
theorem needL_pos (ws : List Int) (hw : ∀ n ∈ ws, 1 ≤ n ∧ n ≤ 80) (k : Nat) (hk : 1 ≤ k) (hl : 1 ≤ ws.length) : 1 ≤ needL (ws.take k) := by
 have h := sum_bd (ws.take k) (fun n hn => hw n (List.mem_of_mem_take hn))
 have h2 : 1 ≤ (ws.take k).length := by rw [List.length_take]; omega
 unfold needL; omega
theorem bestK_bd (put : Int → Int → Int) (hp : PutOk put) (wide : Int) (hwd : wide ≤ 80) (ws rest : List Int) (hw : ∀ n ∈ ws, 1 ≤ n ∧ n ≤ 80) (hl : 1 ≤ ws.length) (B : Int) (hB : 0 ≤ B) (hr : ∀ k, -1 ≤ rest.getD k 0 ∧ rest.getD k 0 ≤ B) :
  ∀ (f k : Nat) (acc : Int), 1 ≤ k → -1 ≤ acc → acc ≤ B + 6400 → -1 ≤ bestK put wide ws rest f k acc ∧ bestK put wide ws rest f k acc ≤ B + 6400 := by
 intro f
 induction f with
 | zero => intro k acc _ h1 h2; exact ⟨h1, h2⟩
 | succ f ih =>
  intro k acc hk h1 h2
  rw [bestK]
  split
  ·rename_i hc
   have hn := needL_pos ws hw k hk hl
   have hp2 := hp (wide - needL (ws.take k)) (rest.getD (k - 1) 0) B (by omega) (by omega) (hr (k - 1)).1 (hr (k - 1)).2 hB
   refine ih (k + 1) _ (by omega) ?_ ?_
   ·by_cases hkl : k < ws.length
    ·simp only [if_pos hkl]; split <;> omega
    ·simp only [if_neg hkl]; split <;> omega
   ·by_cases hkl : k < ws.length
    ·simp only [if_pos hkl]; split <;> omega
    ·simp only [if_neg hkl]; split <;> omega
  ·exact ⟨h1, h2⟩
theorem bestL_bd (put : Int → Int → Int) (hp : PutOk put) (wide : Int) (hwd : wide ≤ 80) : ∀ l : List Int, (∀ n ∈ l, 1 ≤ n ∧ n ≤ 80) → ∀ k, -1 ≤ (bestL put wide l).getD k 0 ∧ (bestL put wide l).getD k 0 ≤ 6400 * l.length
 | [], _, k => by
  cases k with
  | zero => simp [bestL]
  | succ k => simp [bestL]
 | w :: ws, hw, k => by
  have ih := bestL_bd put hp wide hwd ws (fun n hn => hw n (List.mem_cons_of_mem _ hn))
  rw [bestL, List.length_cons]
  cases k with
  | zero =>
   have := bestK_bd put hp wide hwd (w :: ws) (bestL put wide ws) hw (by simp) (6400 * ws.length) (by omega) ih (ws.length + 1) 1 (-1) (by omega) (by omega) (by omega)
   simp only [List.getD_cons_zero]; omega
  | succ k =>
   rw [List.getD_cons_succ]
   have := ih k; omega
def sqPut (r c : Int) : Int := r * r + c
def maxPut (r c : Int) : Int := if r < c then c else r
theorem sqPut_ok : PutOk sqPut := by
 intro r c B h1 h2 h3 h4 h5
 have h6 := Int.mul_nonneg h1 h1
 have h7 := Int.mul_le_mul h2 h2 h1 (by omega : (0 : Int) ≤ 80)
 unfold sqPut; omega
theorem maxPut_ok : PutOk maxPut := by
 intro r c B h1 h2 h3 h4 h5
 unfold maxPut; split <;> omega
def bestM (put : Int → Int → Int) (l : List Int) (wide : Int) : Int := (bestL put wide l).getD 0 0
theorem rowAt_new0 (n : Nat) : List.replicate (n + 1) (0 : Int) = List.replicate n 0 ++ [0] := List.replicate_succ'
/-- The last one of the ways is that behind all words. -/
theorem canL_last (wide most : Int) : ∀ l : List Int, (canL wide most l).getD l.length 0 = 1
 | [] => rfl
 | w :: ws => by rw [canL, List.length_cons, List.getD_cons_succ]; exact canL_last wide most ws
theorem worst_step {m acc accb cw b : Int} (hm : 0 ≤ m) (h1 : 0 ≤ acc) (h3 : 0 < acc ↔ 0 ≤ accb ∧ accb ≤ m) (h2 : -1 ≤ accb) (hc : 0 ≤ cw) (hb : 0 ≤ b) (hcb : 0 < cw ↔ b ≤ m) (r : Int) (hr : 0 ≤ r) :
  0 < (if r ≤ m then acc + cw else acc) ↔ 0 ≤ (if accb < 0 ∨ maxPut r b < accb then maxPut r b else accb) ∧ (if accb < 0 ∨ maxPut r b < accb then maxPut r b else accb) ≤ m := by
 unfold maxPut
 constructor
 ·intro h
  split at h <;> (repeat' split) <;> omega
 ·intro h
  split <;> (repeat' split at h) <;> omega
theorem worst_K (wide m : Int) (hm : 0 ≤ m) (ws rc rb : List Int) (hw : ∀ n ∈ ws, 1 ≤ n ∧ n ≤ 80) (hl : 1 ≤ ws.length)
  (hk : ∀ k, k + 1 < ws.length → 0 ≤ rc.getD k 0 ∧ 0 ≤ rb.getD k 0 ∧ (0 < rc.getD k 0 ↔ rb.getD k 0 ≤ m)) (hlast : rc.getD (ws.length - 1) 0 = 1) :
  ∀ (f k : Nat) (acc accb : Int), 1 ≤ k → f + k = ws.length + 1 → 0 ≤ acc → -1 ≤ accb → (0 < acc ↔ 0 ≤ accb ∧ accb ≤ m) →
   0 ≤ canK wide m ws rc f k acc ∧ (0 < canK wide m ws rc f k acc ↔ 0 ≤ bestK maxPut wide ws rb f k accb ∧ bestK maxPut wide ws rb f k accb ≤ m) := by
 intro f
 induction f with
 | zero => intro k acc accb _ _ h1 h2 h3; exact ⟨h1, h3⟩
 | succ f ih =>
  intro k acc accb hk1 hfk h1 h2 h3
  rw [canK, bestK]
  by_cases c : needL (ws.take k) ≤ wide
  ·rw [if_pos c, if_pos c]
   have hn := needL_pos ws hw k hk1 hl
   by_cases d : k < ws.length
   ·have hkk := hk (k - 1) (by omega)
    have e : (k = ws.length ∨ wide - needL (ws.take k) ≤ m) ↔ wide - needL (ws.take k) ≤ m := ⟨fun h => h.elim (fun h => by omega) id, Or.inr⟩
    simp only [if_pos d, e]
    have hs := worst_step hm h1 h3 h2 hkk.1 hkk.2.1 hkk.2.2 (wide - needL (ws.take k)) (by omega)
    refine ih (k + 1) _ _ (by omega) (by omega) ?_ ?_ hs
    ·split <;> omega
    ·have : 0 ≤ maxPut (wide - needL (ws.take k)) (rb.getD (k - 1) 0) := by unfold maxPut; split <;> omega
     split <;> omega
   ·have e : k = ws.length := by omega
    simp only [if_neg d, if_pos (Or.inl e : k = ws.length ∨ wide - needL (ws.take k) ≤ m)]
    rw [show k - 1 = ws.length - 1 from by omega, hlast]
    refine ih (k + 1) _ _ (by omega) (by omega) (by omega) ?_ ?_
    ·split <;> omega
    ·constructor
     ·intro _; split <;> omega
     ·intro _; omega
  ·rw [if_neg c, if_neg c]; exact ⟨h1, h3⟩
/-- Once a line has been found, the cost stays one. -/
theorem bestK_nonneg (wide : Int) (ws rb : List Int) (hw : ∀ n ∈ ws, 1 ≤ n ∧ n ≤ 80) (hl : 1 ≤ ws.length) (hb : ∀ k, k + 1 < ws.length → 0 ≤ rb.getD k 0) :
  ∀ (f k : Nat) (acc : Int), 1 ≤ k → 0 ≤ acc → 0 ≤ bestK maxPut wide ws rb f k acc := by
 intro f
 induction f with
 | zero => intro k acc _ h; exact h
 | succ f ih =>
  intro k acc hk h
  rw [bestK]
  split
  ·rename_i c
   have hn := needL_pos ws hw k hk hl
   refine ih (k + 1) _ (by omega) ?_
   by_cases d : k < ws.length
   ·simp only [if_pos d]
    have := hb (k - 1) (by omega)
    have : 0 ≤ maxPut (wide - needL (ws.take k)) (rb.getD (k - 1) 0) := by unfold maxPut; split <;> omega
    split <;> omega
   ·simp only [if_neg d]; split <;> omega
  ·exact h
theorem worst_L (wide m : Int) (hm : 0 ≤ m) : ∀ l : List Int, (∀ n ∈ l, 1 ≤ n ∧ n ≤ 80) → (∀ n ∈ l, n ≤ wide) → ∀ k, k ≤ l.length → 0 ≤ (canL wide m l).getD k 0 ∧ 0 ≤ (bestL maxPut wide l).getD k 0 ∧ (0 < (canL wide m l).getD k 0 ↔ (bestL maxPut wide l).getD k 0 ≤ m)
 | [], _, _, k, hk => by
  obtain rfl : k = 0 := by simpa using hk
  simp [canL, bestL]; omega
 | w :: ws, hw, hf, k, hk => by
  have ih := worst_L wide m hm ws (fun n hn => hw n (List.mem_cons_of_mem _ hn)) (fun n hn => hf n (List.mem_cons_of_mem _ hn))
  rw [canL, bestL]
  cases k with
  | zero =>
   rw [List.getD_cons_zero, List.getD_cons_zero]
   have hl : (w :: ws).length = ws.length + 1 := rfl
   have hK := worst_K wide m hm (w :: ws) (canL wide m ws) (bestL maxPut wide ws) hw (by simp) (fun k h => ih k (by rw [hl] at h; omega)) (by rw [hl, Nat.add_sub_cancel]; exact canL_last wide m ws) (ws.length + 1) 1 0 (-1) (by omega) (by omega) (by omega) (by omega) (by omega)
   have hN : 0 ≤ bestK maxPut wide (w :: ws) (bestL maxPut wide ws) (ws.length + 1) 1 (-1) := by
    have hw1 := hf w List.mem_cons_self
    have hw2 := hw w List.mem_cons_self
    have hn1 : needL ((w :: ws).take 1) = w := by simp [needL]
    rw [bestK, if_pos (by rw [hn1]; exact hw1), if_pos (Or.inl (by omega)), hn1]
    refine bestK_nonneg wide (w :: ws) (bestL maxPut wide ws) hw (by simp) (fun k h => (ih k (by rw [hl] at h; omega)).2.1) _ _ _ (by omega) ?_
    split
    ·unfold maxPut; split <;> omega
    ·omega
   exact ⟨hK.1, hN, hK.2.trans ⟨fun h => h.2, fun h => ⟨hN, h⟩⟩⟩
  | succ k =>
   rw [List.getD_cons_succ, List.getD_cons_succ]
   exact ih k (by rw [List.length_cons] at hk; omega)
theorem worst_M (l : List Int) (wide m : Int) (hs : settingB l wide = true) (hm : 0 ≤ m) : 0 ≤ canM l wide m ∧ 0 ≤ bestM maxPut l wide ∧ (0 < canM l wide m ↔ bestM maxPut l wide ≤ m) := by
 obtain ⟨h1, h2, h3⟩ := settingB_true hs
 exact worst_L wide m hm l (wordsB_true h1).2 h3 0 (by omega)
/-- Where a first line ends: the first number of words whose square and cost behind it are the least cost. -/
def endK (wide : Int) (ws cs : List Int) : Nat → Nat → Nat
 | 0, k => k
 | f + 1, k => if sqPut (wide - needL (ws.take k)) (cs.getD k 0) = cs.getD 0 0 then k else endK wide ws cs f (k + 1)
theorem endK_bd (wide : Int) (ws cs : List Int) : ∀ (f k : Nat), k ≤ endK wide ws cs f k ∧ endK wide ws cs f k ≤ k + f
 | 0, k => ⟨Nat.le_refl _, Nat.le_refl _⟩
 | f + 1, k => by
  rw [endK]
  split
  ·omega
  ·have := endK_bd wide ws cs f (k + 1); omega
def firstL (wide : Int) : Nat → List Int → List Int
 | 0, _ => []
 | _ + 1, [] => []
 | f + 1, w :: ws => (endK wide (w :: ws) (bestL sqPut wide (w :: ws)) ws.length 1 : Int) :: firstL wide f ((w :: ws).drop (endK wide (w :: ws) (bestL sqPut wide (w :: ws)) ws.length 1))
theorem firstL_fuel (wide : Int) : ∀ (f g : Nat) (ws : List Int), ws.length ≤ f → ws.length ≤ g → firstL wide f ws = firstL wide g ws
 | 0, g, ws, hf, _ => by
  obtain rfl : ws = [] := List.length_eq_zero_iff.1 (by omega)
  cases g <;> rfl
 | f + 1, 0, ws, _, hg => by
  obtain rfl : ws = [] := List.length_eq_zero_iff.1 (by omega)
  rfl
 | f + 1, g + 1, [], _, _ => rfl
 | f + 1, g + 1, w :: ws, hf, hg => by
  have hb := endK_bd wide (w :: ws) (bestL sqPut wide (w :: ws)) ws.length 1
  simp only [List.length_cons] at hf hg
  rw [firstL, firstL, firstL_fuel wide f g _ (by rw [List.length_drop, List.length_cons]; omega) (by rw [List.length_drop, List.length_cons]; omega)]
def firstS (wide : Int) (ws : List Int) : List Int := firstL wide ws.length ws
theorem firstS_nil (wide : Int) : firstS wide [] = [] := rfl
theorem firstS_step (wide : Int) (ws : List Int) (hl : 1 ≤ ws.length) : firstS wide ws = (endK wide ws (bestL sqPut wide ws) (ws.length - 1) 1 : Int) :: firstS wide (ws.drop (endK wide ws (bestL sqPut wide ws) (ws.length - 1) 1)) := by
 cases ws with
 | nil => simp at hl
 | cons w ws =>
  have hb := endK_bd wide (w :: ws) (bestL sqPut wide (w :: ws)) ws.length 1
  unfold firstS
  rw [List.length_cons, Nat.add_sub_cancel, firstL, firstL_fuel wide ws.length _ ((w :: ws).drop _) (by rw [List.length_drop, List.length_cons]; omega) (Nat.le_refl _)]
theorem firstL_length (wide : Int) : ∀ (f : Nat) (ws : List Int), (firstL wide f ws).length ≤ f
 | 0, _ => by simp [firstL]
 | _ + 1, [] => by simp [firstL]
 | f + 1, w :: ws => by rw [firstL, List.length_cons]; have := firstL_length wide f ((w :: ws).drop (endK wide (w :: ws) (bestL sqPut wide (w :: ws)) ws.length 1)); omega
theorem bestL_drop (put : Int → Int → Int) (wide : Int) : ∀ (i : Nat) (l : List Int), i ≤ l.length → ∀ k, (bestL put wide l).getD (i + k) 0 = (bestL put wide (l.drop i)).getD k 0
 | 0, l, _, k => by simp
 | i + 1, [], h, k => by simp at h
 | i + 1, w :: ws, h, k => by
  rw [show i + 1 + k = (i + k) + 1 from by omega, bestL, List.getD_cons_succ, List.drop_succ_cons]
  exact bestL_drop put wide i ws (by simpa using h) k
def firstM (l : List Int) (wide : Int) : List Int := if settingB l wide = true then firstS wide l else []
theorem firstM_small (l : List Int) (wide : Int) : (firstM l wide).length ≤ 1048576 := by
 unfold firstM
 split
 ·rename_i h
  have := (wordsB_true (settingB_true h).1).1
  have h2 := firstL_length wide l.length l
  unfold firstS; omega
 ·simp
/-- A row's cells. -/
def RowCells (W : World) (g : Nat) (cs : List Int) : Prop := g < W.heap.size ∧ ∀ i : Nat, i < cs.length → W.cell? ⟨g, i, none⟩ = some (.int .i64 (cs.getD i 0))
theorem RowCells.drewN {W : World} {g : Nat} {cs : List Int} (h : RowCells W g cs) (m : Nat) : RowCells (W.drewN m) g cs := ⟨h.1, fun i hi => h.2 i hi⟩
theorem RowCells.grown {W w1 : World} {g : Nat} {cs : List Int} {row : Option Nat} (h : RowCells W g cs) (hg : W.grownBy w1 row) (hne : row ≠ some g) : RowCells w1 g cs :=
 ⟨Nat.lt_of_lt_of_le h.1 hg.size, fun i hi => hg.cell (h.2 i hi) (fun he => hne he.symm)⟩
section
variable {P : Program} {ops : Array Oper} {rest : List Oper} {o : Oper} {a : Act} {Q : Exit → Act → World → Prop}
/-- append(v, q), the one just laid into a block of its own; and what stays. -/
theorem R_append1k {w0 W : World} (base : Nat) (hgd : o.guard = none) (s x : Operand) (t e : TypeId)
  (ho : o.op = .call { callee := .builtin .append, args := #[s, x], argTypes := #[t, t] })
  (ht : P.underlying t = some (.slice e)) (hinfo : (P.info? e).map (fun i => (i.zero, i.size, i.bytes)) = some (some (.int .i64 0), 1, 8))
  (v : Value) (xs : List Int) (q : Int) (hs : a.eval s = v) (hx : a.eval x = .slice (some ⟨W.heap.size, 0, none⟩) 1 1)
  (HO : Kd.R (Kd.int .i64) e W base (fun _ => True) v xs) (HB : Below base w0 W) (hbase : base ≤ W.heap.size) (hl : (xs.length + 1) * 8 ≤ 140737488355328)
  (h : ∀ v1 w1, Kd.R (Kd.int .i64) e w1 base (fun _ => True) v1 (xs ++ [q]) → Below base w0 w1 → W.grownBy w1 v.ownBlock → (v1.ownBlock = v.ownBlock ∨ ∃ b, v1.ownBlock = some b ∧ W.heap.size ≤ b) → wpList P ops Q rest (a.put o.dst v1) w1) :
  wpList P ops Q (o :: rest) a (W.alloc (.cells #[.int .i64 q] e)) :=
 Kd.R_append (Kd.int .i64) (w0 := w0) base hgd s x t e (.int .i64 0) 8 ho ht hinfo rfl (by decide) (by omega) v xs q [.int .i64 q] (fun _ => True) (fun _ => False) hs hx rfl (fun _ hk => hk.elim) (fun _ _ => trivial) HO HB hbase hl h
end
/-! ### What lines of words are, and which are the best and the fewest -/
/-- Lines take all words, each one at least. -/
def LinesOf : List Int → List Int → Prop
 | ws, [] => ws = []
 | ws, n :: ns => (1 ≤ n ∧ n ≤ (ws.length : Int)) ∧ LinesOf (ws.drop n.toNat) ns
theorem LinesOf_iff : ∀ (ls ws : List Int), LinesOf ws ls ↔ (∀ n ∈ ls, 1 ≤ n) ∧ ls.sum = (ws.length : Int)
 | [], ws => by
  simp only [LinesOf, List.sum_nil]
  constructor
  ·rintro rfl; simp
  ·rintro ⟨_, h⟩; exact List.eq_nil_of_length_eq_zero (by omega)
 | n :: ns, ws => by
  rw [LinesOf, LinesOf_iff ns, List.sum_cons, List.length_drop]
  constructor
  ·rintro ⟨⟨h1, h2⟩, h3, h4⟩
   exact ⟨fun m hm => (List.mem_cons.1 hm).elim (fun e => e ▸ h1) (h3 m), by omega⟩
  ·rintro ⟨h1, h2⟩
   have hn := h1 n List.mem_cons_self
   have hs := sum_ge ns (fun m hm => h1 m (List.mem_cons_of_mem _ hm))
   exact ⟨⟨hn, by omega⟩, fun m hm => h1 m (List.mem_cons_of_mem _ hm), by omega⟩
theorem linesB_iff {ws ls : List Int} (hw : wordsB ws = true) : linesB ws ls = true ↔ LinesOf ws ls := by
 rw [LinesOf_iff]
 constructor
 ·intro h
  obtain ⟨_, _, h3, h4⟩ := linesB_true h
  exact ⟨fun n hn => (h3 n hn).1, h4⟩
 ·rintro ⟨h1, h2⟩
  have hs := sum_ge ls h1
  exact linesB_of hw (by omega) (fun n hn => ⟨h1 n hn, by have := hs.2 n hn; omega⟩) h2
theorem need_mono {ws : List Int} (hw : ∀ n ∈ ws, 1 ≤ n ∧ n ≤ 80) {i j : Nat} (h : i ≤ j) : needL (ws.take i) ≤ needL (ws.take j) := by
 have e : ws.take j = ws.take i ++ (ws.take j).drop i := by
  have := (List.take_append_drop i (ws.take j)).symm
  rwa [List.take_take, Nat.min_eq_left h] at this
 have hs := sum_bd ((ws.take j).drop i) (fun n hn => hw n (List.mem_of_mem_take (List.mem_of_mem_drop hn)))
 have hl : (ws.take j).length = (ws.take i).length + ((ws.take j).drop i).length := by rw [← List.length_append, ← e]
 have hsum : (ws.take j).sum = (ws.take i).sum + ((ws.take j).drop i).sum := by rw [← List.sum_append, ← e]
 unfold needL; omega
theorem need_succ (ws : List Int) (k : Nat) (h : k < ws.length) : needL (ws.take (k + 1)) = needL (ws.take k) + 1 + ws.getD k 0 := by
 have e : ws.take (k + 1) = ws.take k ++ [ws.getD k 0] := by rw [List.take_add_one, List.getElem?_eq_getElem h, List.getD_eq_getElem?_getD, List.getElem?_eq_getElem h]; rfl
 rw [e]
 unfold needL
 rw [List.sum_append, List.length_append]
 simp; omega
theorem need_one (w : Int) (ws : List Int) : needL ((w :: ws).take 1) = w := by simp [needL]
theorem need_drop {ws : List Int} (hw : ∀ n ∈ ws, 1 ≤ n ∧ n ≤ 80) (w : Int) (hw1 : 1 ≤ w) (k : Nat) : needL (ws.take k) ≤ needL ((w :: ws).take (k + 1)) := by
 rw [List.take_succ_cons]; unfold needL; rw [List.sum_cons, List.length_cons]; omega
/-! the filled lines -/
theorem fillK_fits (wide : Int) (ws : List Int) : ∀ (f k : Nat), needL (ws.take k) ≤ wide → needL (ws.take (fillK wide ws f k)) ≤ wide
 | 0, k, h => h
 | f + 1, k, h => by
  rw [fillK]; split
  ·rename_i c; exact fillK_fits wide ws f (k + 1) c
  ·exact h
theorem fillK_stop (wide : Int) (ws : List Int) : ∀ (f k : Nat), fillK wide ws f k < k + f → wide < needL (ws.take (fillK wide ws f k + 1))
 | 0, k, h => by simp [fillK] at h
 | f + 1, k, h => by
  rw [fillK] at h ⊢
  split at h
  ·rename_i c; rw [if_pos c]; exact fillK_stop wide ws f (k + 1) (by omega)
  ·rename_i c; rw [if_neg c]; omega
theorem fillL_fuel (wide : Int) : ∀ (f g : Nat) (ws : List Int), ws.length ≤ f → ws.length ≤ g → fillL wide f ws = fillL wide g ws
 | 0, g, ws, hf, _ => by
  obtain rfl : ws = [] := List.length_eq_zero_iff.1 (by omega)
  cases g <;> rfl
 | f + 1, 0, ws, _, hg => by
  obtain rfl : ws = [] := List.length_eq_zero_iff.1 (by omega)
  rfl
 | f + 1, g + 1, [], _, _ => rfl
 | f + 1, g + 1, w :: ws, hf, hg => by
  have hb := fillK_ge wide (w :: ws) ws.length 1
  simp only [List.length_cons] at hf hg
  rw [fillL, fillL, fillL_fuel wide f g _ (by rw [List.length_drop, List.length_cons]; omega) (by rw [List.length_drop, List.length_cons]; omega)]
/-- How many words the first filled line takes. -/
def fillN (wide : Int) (ws : List Int) : Nat := fillK wide ws (ws.length - 1) 1
theorem fillM_nil (wide : Int) : fillM wide [] = [] := rfl
theorem fillM_cons (wide : Int) (ws : List Int) (h : 1 ≤ ws.length) : fillM wide ws = (fillN wide ws : Int) :: fillM wide (ws.drop (fillN wide ws)) ∧ 1 ≤ fillN wide ws ∧ fillN wide ws ≤ ws.length := by
 cases ws with
 | nil => simp at h
 | cons w ws =>
  have hb := fillK_ge wide (w :: ws) ws.length 1
  unfold fillM fillN
  rw [List.length_cons, Nat.add_sub_cancel, fillL]
  exact ⟨by rw [fillL_fuel wide ws.length _ _ (by rw [List.length_drop, List.length_cons]; omega) (Nat.le_refl _)], by omega, by omega⟩
theorem fillN_fits (wide : Int) (ws : List Int) (hf : ∀ n ∈ ws, n ≤ wide) (h : 1 ≤ ws.length) : needL (ws.take (fillN wide ws)) ≤ wide := by
 cases ws with
 | nil => simp at h
 | cons w ws => exact fillK_fits wide _ _ 1 (by rw [need_one]; exact hf w List.mem_cons_self)
theorem fillN_stop (wide : Int) (ws : List Int) (h : fillN wide ws < ws.length) : wide < needL (ws.take (fillN wide ws + 1)) :=
 fillK_stop wide ws (ws.length - 1) 1 (by unfold fillN at h; omega)
theorem fillN_max (wide : Int) (ws : List Int) (hw : ∀ n ∈ ws, 1 ≤ n ∧ n ≤ 80) (j : Nat) (hj : j ≤ ws.length) (hn : needL (ws.take j) ≤ wide) : j ≤ fillN wide ws := by
 rcases Nat.lt_or_ge (fillN wide ws) j with h | h
 ·have h1 := fillN_stop wide ws (by omega)
  have h2 := need_mono hw (show fillN wide ws + 1 ≤ j by omega)
  omega
 ·exact h
/-- All lines are filled as far as they can be. -/
def Greedy (wide : Int) : List Int → List Int → Prop
 | _, [] => True
 | ws, n :: ns => (needL (ws.take n.toNat) ≤ wide ∧ (n < (ws.length : Int) → wide < needL (ws.take n.toNat) + 1 + ws.getD n.toNat 0)) ∧ Greedy wide (ws.drop n.toNat) ns
theorem fill_lines (wide : Int) : ∀ (m : Nat) (ws : List Int), ws.length ≤ m → (∀ n ∈ ws, n ≤ wide) → LinesOf ws (fillM wide ws) ∧ (∀ u ∈ usedL ws (fillM wide ws), u ≤ wide) ∧ Greedy wide ws (fillM wide ws)
 | 0, ws, h, _ => by
  obtain rfl : ws = [] := List.eq_nil_of_length_eq_zero (by omega)
  simp [fillM_nil, LinesOf, usedL, Greedy]
 | m + 1, ws, h, hf => by
  rcases Nat.eq_zero_or_pos ws.length with h0 | h0
  ·obtain rfl : ws = [] := List.eq_nil_of_length_eq_zero h0
   simp [fillM_nil, LinesOf, usedL, Greedy]
  ·obtain ⟨e, h1, h2⟩ := fillM_cons wide ws h0
   have hfit := fillN_fits wide ws hf h0
   have hstop := fillN_stop wide ws
   obtain ⟨i1, i2, i3⟩ := fill_lines wide m (ws.drop (fillN wide ws)) (by rw [List.length_drop]; omega) (fun n hn => hf n (List.mem_of_mem_drop hn))
   rw [e]
   refine ⟨⟨by omega, by rw [Int.toNat_natCast]; exact i1⟩, ?_, ⟨by rw [Int.toNat_natCast]; exact hfit, fun q => ?_⟩, by rw [Int.toNat_natCast]; exact i3⟩
   ·intro u hu
    rw [usedL, Int.toNat_natCast] at hu
    rcases List.mem_cons.1 hu with rfl | hu
    ·exact hfit
    ·exact i2 u hu
   ·have hq : fillN wide ws < ws.length := by omega
    have := hstop hq
    rw [need_succ ws _ hq] at this
    rw [Int.toNat_natCast]; exact this
theorem fill_suffix (wide : Int) : ∀ (m : Nat) (l : List Int), l.length ≤ m → (∀ n ∈ l, 1 ≤ n ∧ n ≤ 80) → (∀ n ∈ l, n ≤ wide) → ∀ j, (fillM wide (l.drop j)).length ≤ (fillM wide l).length := by
 intro m
 induction m with
 | zero =>
  intro l h _ _ j
  obtain rfl : l = [] := List.eq_nil_of_length_eq_zero (by omega)
  simp
 | succ m ih =>
  intro l h hw hf j
  cases l with
  | nil => simp
  | cons w ws =>
   have hw2 : ∀ n ∈ ws, 1 ≤ n ∧ n ≤ 80 := fun n hn => hw n (List.mem_cons_of_mem _ hn)
   have hf2 : ∀ n ∈ ws, n ≤ wide := fun n hn => hf n (List.mem_cons_of_mem _ hn)
   have hw1 := hw w List.mem_cons_self
   simp only [List.length_cons] at h
   have one : (fillM wide ws).length ≤ (fillM wide (w :: ws)).length := by
    rcases Nat.eq_zero_or_pos ws.length with h0 | h0
    ·obtain rfl : ws = [] := List.eq_nil_of_length_eq_zero h0
     simp [fillM_nil]
    ·obtain ⟨e, k1, k2⟩ := fillM_cons wide (w :: ws) (by simp)
     obtain ⟨e2, q1, q2⟩ := fillM_cons wide ws h0
     have hfit := fillN_fits wide (w :: ws) hf (by simp)
     simp only [List.length_cons] at k2
     obtain ⟨K, hK⟩ : ∃ K, fillN wide (w :: ws) = K + 1 := ⟨fillN wide (w :: ws) - 1, by omega⟩
     rw [hK] at hfit
     have hmax := fillN_max wide ws hw2 K (by omega) (Int.le_trans (need_drop hw2 w hw1.1 K) hfit)
     have hi := ih (ws.drop K) (by rw [List.length_drop]; omega) (fun n hn => hw2 n (List.mem_of_mem_drop hn)) (fun n hn => hf2 n (List.mem_of_mem_drop hn)) (fillN wide ws - K)
     rw [List.drop_drop, show K + (fillN wide ws - K) = fillN wide ws from by omega] at hi
     rw [e, e2, List.length_cons, List.length_cons, hK, List.drop_succ_cons]
     omega
   cases j with
   | zero => simp
   | succ j =>
    rw [List.drop_succ_cons]
    exact Nat.le_trans (ih ws (by omega) hw2 hf2 j) one
theorem fill_fewest (wide : Int) : ∀ (ls ws : List Int), (∀ n ∈ ws, 1 ≤ n ∧ n ≤ 80) → (∀ n ∈ ws, n ≤ wide) → LinesOf ws ls → (∀ u ∈ usedL ws ls, u ≤ wide) → (fillM wide ws).length ≤ ls.length
 | [], ws, _, _, h, _ => by
  obtain rfl : ws = [] := h
  simp [fillM_nil]
 | n :: ns, ws, hw, hf, h, hu => by
  obtain ⟨⟨h1, h2⟩, h3⟩ := h
  rw [usedL] at hu
  have hn := hu _ List.mem_cons_self
  have ih := fill_fewest wide ns (ws.drop n.toNat) (fun m hm => hw m (List.mem_of_mem_drop hm)) (fun m hm => hf m (List.mem_of_mem_drop hm)) h3 (fun u h => hu u (List.mem_cons_of_mem _ h))
  obtain ⟨e, k1, k2⟩ := fillM_cons wide ws (by omega)
  have hmax := fillN_max wide ws hw n.toNat (by omega) hn
  have hs := fill_suffix wide _ (ws.drop n.toNat) (Nat.le_refl _) (fun m hm => hw m (List.mem_of_mem_drop hm)) (fun m hm => hf m (List.mem_of_mem_drop hm)) (fillN wide ws - n.toNat)
  rw [List.drop_drop, show n.toNat + (fillN wide ws - n.toNat) = fillN wide ws from by omega] at hs
  rw [e, List.length_cons, List.length_cons]
  omega
/-! lines that fit: each word fits -/
theorem fits_words (wide : Int) : ∀ (ls ws : List Int), (∀ n ∈ ws, 1 ≤ n ∧ n ≤ 80) → LinesOf ws ls → (∀ u ∈ usedL ws ls, u ≤ wide) → ∀ n ∈ ws, n ≤ wide
 | [], ws, _, h, _, n, hn => by
  obtain rfl : ws = [] := h
  simp at hn
 | k :: ks, ws, hw, h, hu, n, hn => by
  obtain ⟨⟨h1, h2⟩, h3⟩ := h
  rw [usedL] at hu
  have hk := hu _ List.mem_cons_self
  rw [← List.take_append_drop k.toNat ws] at hn
  rcases List.mem_append.1 hn with hn | hn
  ·have hwt : ∀ n ∈ ws.take k.toNat, 1 ≤ n ∧ n ≤ 80 := fun n hn => hw n (List.mem_of_mem_take hn)
   have hs := (sum_ge (ws.take k.toNat) (fun n hn => (hwt n hn).1)).2 n hn
   have hl : 1 ≤ (ws.take k.toNat).length := List.length_pos_of_mem hn
   unfold needL at hk; omega
  ·exact fits_words wide ks _ (fun m hm => hw m (List.mem_of_mem_drop hm)) h3 (fun u h => hu u (List.mem_cons_of_mem _ h)) n hn
theorem used_sum : ∀ (ls ws : List Int), LinesOf ws ls → (usedL ws ls).sum = ws.sum + ws.length - ls.length
 | [], ws, h => by
  obtain rfl : ws = [] := h
  simp [usedL]
 | k :: ks, ws, h => by
  obtain ⟨⟨h1, h2⟩, h3⟩ := h
  have ih := used_sum ks _ h3
  have e : ws.sum = (ws.take k.toNat).sum + (ws.drop k.toNat).sum := by rw [← List.sum_append, List.take_append_drop]
  have el : ws.length = (ws.take k.toNat).length + (ws.drop k.toNat).length := by rw [← List.length_append, List.take_append_drop]
  rw [usedL, List.sum_cons, ih, List.length_cons]
  unfold needL; omega
/-! the least cost -/
/-- The cost of lines: the squares of all rests but the last one. -/
def costL (wide : Int) : List Int → Int
 | [] => 0
 | [_] => 0
 | x :: y :: ys => (wide - x) * (wide - x) + costL wide (y :: ys)
theorem costL_cons (wide x : Int) (ys : List Int) (h : ys ≠ []) : costL wide (x :: ys) = (wide - x) * (wide - x) + costL wide ys := by
 cases ys with
 | nil => exact absurd rfl h
 | cons y ys => rfl
theorem costL_nn (wide : Int) : ∀ l : List Int, 0 ≤ costL wide l
 | [] => Int.le_refl _
 | [_] => Int.le_refl _
 | x :: y :: ys => by
  have h1 := costL_nn wide (y :: ys)
  have h2 : 0 ≤ (wide - x) * (wide - x) := by
   rcases Int.le_total 0 (wide - x) with h | h
   ·exact Int.mul_nonneg h h
   ·exact Int.mul_nonneg_of_nonpos_of_nonpos h h
  rw [costL]; omega
/-- What a first line of j words costs, with all that comes behind it. -/
def chK (put : Int → Int → Int) (wide : Int) (ws rest : List Int) (j : Nat) : Int := if j < ws.length then put (wide - needL (ws.take j)) (rest.getD (j - 1) 0) else 0
theorem bestK_min (put : Int → Int → Int) (wide : Int) (ws rest : List Int) (hw : ∀ n ∈ ws, 1 ≤ n ∧ n ≤ 80) (hc : ∀ j, 1 ≤ j → j ≤ ws.length → needL (ws.take j) ≤ wide → 0 ≤ chK put wide ws rest j) :
  ∀ (f k : Nat) (acc : Int), 1 ≤ k → f + k = ws.length + 1 → -1 ≤ acc →
   (bestK put wide ws rest f k acc = acc ∨ ∃ j, k ≤ j ∧ j ≤ ws.length ∧ needL (ws.take j) ≤ wide ∧ bestK put wide ws rest f k acc = chK put wide ws rest j) ∧
   (0 ≤ acc → 0 ≤ bestK put wide ws rest f k acc ∧ bestK put wide ws rest f k acc ≤ acc) ∧
   (∀ j, k ≤ j → j ≤ ws.length → needL (ws.take j) ≤ wide → 0 ≤ bestK put wide ws rest f k acc ∧ bestK put wide ws rest f k acc ≤ chK put wide ws rest j) := by
 intro f
 induction f with
 | zero =>
  intro k acc hk hfk ha
  exact ⟨.inl rfl, fun h => ⟨h, Int.le_refl _⟩, fun j h1 h2 _ => by omega⟩
 | succ f ih =>
  intro k acc hk hfk ha
  rw [bestK]
  have e : (if k < ws.length then put (wide - needL (ws.take k)) (rest.getD (k - 1) 0) else 0) = chK put wide ws rest k := rfl
  rw [e]
  by_cases c : needL (ws.take k) ≤ wide
  ·rw [if_pos c]
   have h0 := hc k hk (by omega) c
   obtain ⟨acc', hacc⟩ : ∃ a, (if acc < 0 ∨ chK put wide ws rest k < acc then chK put wide ws rest k else acc) = a := ⟨_, rfl⟩
   rw [hacc]
   have hacc1 : 0 ≤ acc' ∧ acc' ≤ chK put wide ws rest k ∧ (0 ≤ acc → acc' ≤ acc) ∧ (acc' = acc ∨ acc' = chK put wide ws rest k) := by
    rw [← hacc]; split
    ·exact ⟨h0, Int.le_refl _, fun h => by omega, .inr rfl⟩
    ·exact ⟨by omega, by omega, fun _ => Int.le_refl _, .inl rfl⟩
   obtain ⟨i1, i2, i3⟩ := ih (k + 1) acc' (by omega) (by omega) (by omega)
   have i2' := i2 hacc1.1
   refine ⟨?_, fun h => ⟨i2'.1, by have := hacc1.2.2.1 h; omega⟩, fun j hj1 hj2 hj3 => ?_⟩
   ·rcases i1 with i1 | ⟨j, j1, j2, j3, j4⟩
    ·rcases hacc1.2.2.2 with q | q
     ·exact .inl (i1.trans q)
     ·exact .inr ⟨k, Nat.le_refl _, by omega, c, i1.trans q⟩
    ·exact .inr ⟨j, by omega, j2, j3, j4⟩
   ·rcases Nat.eq_or_lt_of_le hj1 with rfl | hj
    ·exact ⟨i2'.1, by omega⟩
    ·exact i3 j hj hj2 hj3
  ·rw [if_neg c]
   refine ⟨.inl rfl, fun h => ⟨h, Int.le_refl _⟩, fun j hj1 _ hj3 => ?_⟩
   have := need_mono hw hj1
   omega
theorem bestM_cons (put : Int → Int → Int) (wide : Int) (w : Int) (ws : List Int) : bestM put (w :: ws) wide = bestK put wide (w :: ws) (bestL put wide ws) (ws.length + 1) 1 (-1) := rfl
theorem bestM_drop (put : Int → Int → Int) (wide : Int) (w : Int) (ws : List Int) (j : Nat) (hj : 1 ≤ j) (hl : j ≤ ws.length + 1) : (bestL put wide ws).getD (j - 1) 0 = bestM put ((w :: ws).drop j) wide := by
 obtain ⟨i, rfl⟩ : ∃ i, j = i + 1 := ⟨j - 1, by omega⟩
 have := bestL_drop put wide i ws (by omega) 0
 rw [Nat.add_sub_cancel, List.drop_succ_cons]
 exact this
theorem sq_nn (x : Int) : 0 ≤ x * x := by
 rcases Int.le_total 0 x with h | h
 ·exact Int.mul_nonneg h h
 ·exact Int.mul_nonneg_of_nonpos_of_nonpos h h
theorem sqPut_eq (r c : Int) : sqPut r c = r * r + c := rfl
/-- What a cost is made of: not negative, none less, and one way has it. -/
theorem best_spec (wide : Int) : ∀ (m : Nat) (ws : List Int), ws.length ≤ m → (∀ n ∈ ws, 1 ≤ n ∧ n ≤ 80) → (∀ n ∈ ws, n ≤ wide) → 0 ≤ bestM sqPut ws wide ∧
  (1 ≤ ws.length → (∀ j, 1 ≤ j → j ≤ ws.length → needL (ws.take j) ≤ wide → bestM sqPut ws wide ≤ (if j < ws.length then sqPut (wide - needL (ws.take j)) (bestM sqPut (ws.drop j) wide) else 0)) ∧
   ∃ j, 1 ≤ j ∧ j ≤ ws.length ∧ needL (ws.take j) ≤ wide ∧ bestM sqPut ws wide = (if j < ws.length then sqPut (wide - needL (ws.take j)) (bestM sqPut (ws.drop j) wide) else 0)) := by
 intro m
 induction m with
 | zero =>
  intro ws h _ _
  obtain rfl : ws = [] := List.eq_nil_of_length_eq_zero (by omega)
  exact ⟨by simp [bestM, bestL], fun h => by simp at h⟩
 | succ m ih =>
  intro ws h hw hf
  cases ws with
  | nil => exact ⟨by simp [bestM, bestL], fun h => by simp at h⟩
  | cons w ws =>
   simp only [List.length_cons] at h
   have ech : ∀ j, 1 ≤ j → j ≤ (w :: ws).length → chK sqPut wide (w :: ws) (bestL sqPut wide ws) j = (if j < (w :: ws).length then sqPut (wide - needL ((w :: ws).take j)) (bestM sqPut ((w :: ws).drop j) wide) else 0) := fun j j1 j2 => by
    unfold chK
    rw [bestM_drop sqPut wide w ws j j1 j2]
   have hnn : ∀ j, 1 ≤ j → 0 ≤ bestM sqPut ((w :: ws).drop j) wide := fun j j1 =>
    (ih ((w :: ws).drop j) (by rw [List.length_drop, List.length_cons]; omega) (fun n hn => hw n (List.mem_of_mem_drop hn)) (fun n hn => hf n (List.mem_of_mem_drop hn))).1
   have hc : ∀ j, 1 ≤ j → j ≤ (w :: ws).length → needL ((w :: ws).take j) ≤ wide → 0 ≤ chK sqPut wide (w :: ws) (bestL sqPut wide ws) j := fun j j1 j2 _ => by
    rw [ech j j1 j2]
    split
    ·have h5 := hnn j j1; have h6 := sq_nn (wide - needL ((w :: ws).take j)); rw [sqPut_eq]; omega
    ·exact Int.le_refl _
   obtain ⟨k1, _, k3⟩ := bestK_min sqPut wide (w :: ws) (bestL sqPut wide ws) hw hc (ws.length + 1) 1 (-1) (by omega) (by simp) (by omega)
   have h1 := k3 1 (by omega) (by simp) (by rw [need_one]; exact hf w List.mem_cons_self)
   rw [bestM_cons]
   refine ⟨h1.1, fun _ => ⟨fun j j1 j2 j3 => by rw [← ech j j1 j2]; exact (k3 j j1 j2 j3).2, ?_⟩⟩
   rcases k1 with k1 | ⟨j, j1, j2, j3, j4⟩
   ·rw [k1] at h1; omega
   ·exact ⟨j, j1, j2, j3, by rw [← ech j j1 j2]; exact j4⟩
theorem best_least (wide : Int) : ∀ (ls ws : List Int), (∀ n ∈ ws, 1 ≤ n ∧ n ≤ 80) → 1 ≤ ws.length → LinesOf ws ls → (∀ u ∈ usedL ws ls, u ≤ wide) → bestM sqPut ws wide ≤ costL wide (usedL ws ls)
 | [], ws, _, hl, h, _ => by
  obtain rfl : ws = [] := h
  simp at hl
 | n :: ns, ws, hw, hl, h, hu => by
  have hf := fits_words wide (n :: ns) ws hw h hu
  obtain ⟨⟨h1, h2⟩, h3⟩ := h
  rw [usedL] at hu ⊢
  have hn := hu _ List.mem_cons_self
  obtain ⟨_, hb⟩ := best_spec wide ws.length ws (Nat.le_refl _) hw hf
  have hj := (hb hl).1 n.toNat (by omega) (by omega) hn
  by_cases c : n.toNat < ws.length
  ·rw [if_pos c] at hj
   have ih := best_least wide ns (ws.drop n.toNat) (fun m hm => hw m (List.mem_of_mem_drop hm)) (by rw [List.length_drop]; omega) h3 (fun u h => hu u (List.mem_cons_of_mem _ h))
   have hne : usedL (ws.drop n.toNat) ns ≠ [] := by
    intro q
    have q2 := congrArg List.length q
    rw [usedL_length] at q2
    have : ns = [] := List.eq_nil_of_length_eq_zero (by simpa using q2)
    subst this
    have q3 := congrArg List.length h3
    rw [List.length_drop] at q3
    simp at q3; omega
   rw [costL_cons _ _ _ hne]
   rw [sqPut_eq] at hj; omega
  ·rw [if_neg c] at hj
   have := costL_nn wide (needL (ws.take n.toNat) :: usedL (ws.drop n.toNat) ns)
   omega
theorem endK_spec (wide : Int) (ws cs : List Int) : ∀ (f k : Nat), endK wide ws cs f k < k + f → sqPut (wide - needL (ws.take (endK wide ws cs f k))) (cs.getD (endK wide ws cs f k) 0) = cs.getD 0 0
 | 0, k, h => by simp [endK] at h
 | f + 1, k, h => by
  rw [endK] at h ⊢
  split
  ·rename_i c; exact c
  ·rename_i c
   rw [if_neg c] at h
   exact endK_spec wide ws cs f (k + 1) (by omega)
theorem endK_le (wide : Int) (ws cs : List Int) : ∀ (f k j : Nat), k ≤ j → j < k + f → sqPut (wide - needL (ws.take j)) (cs.getD j 0) = cs.getD 0 0 → endK wide ws cs f k ≤ j
 | 0, k, j, h1, h2, _ => by omega
 | f + 1, k, j, h1, h2, h3 => by
  rw [endK]
  split
  ·exact h1
  ·rename_i c
   rcases Nat.eq_or_lt_of_le h1 with rfl | h1
   ·exact absurd h3 c
   ·exact endK_le wide ws cs f (k + 1) j h1 (by omega) h3
theorem first_lines (wide : Int) : ∀ (m : Nat) (ws : List Int), ws.length ≤ m → (∀ n ∈ ws, 1 ≤ n ∧ n ≤ 80) → (∀ n ∈ ws, n ≤ wide) → LinesOf ws (firstS wide ws) ∧ (∀ u ∈ usedL ws (firstS wide ws), u ≤ wide) ∧ (1 ≤ ws.length → costL wide (usedL ws (firstS wide ws)) = bestM sqPut ws wide)
 | 0, ws, h, _, _ => by
  obtain rfl : ws = [] := List.eq_nil_of_length_eq_zero (by omega)
  simp [firstS_nil, LinesOf, usedL]
 | m + 1, ws, h, hw, hf => by
  rcases Nat.eq_zero_or_pos ws.length with h0 | h0
  ·obtain rfl : ws = [] := List.eq_nil_of_length_eq_zero h0
   simp [firstS_nil, LinesOf, usedL]
  ·obtain ⟨_, hb⟩ := best_spec wide ws.length ws (Nat.le_refl _) hw hf
   obtain ⟨_, j, j1, j2, j3, j4⟩ := hb h0
   have hd : ∀ k, k ≤ ws.length → (bestL sqPut wide ws).getD k 0 = bestM sqPut (ws.drop k) wide := fun k hk => bestL_drop sqPut wide k ws hk 0
   have hbd := endK_bd wide ws (bestL sqPut wide ws) (ws.length - 1) 1
   obtain ⟨K, hK⟩ : ∃ K, endK wide ws (bestL sqPut wide ws) (ws.length - 1) 1 = K := ⟨_, rfl⟩
   have hsp := endK_spec wide ws (bestL sqPut wide ws) (ws.length - 1) 1
   have hle := endK_le wide ws (bestL sqPut wide ws) (ws.length - 1) 1 j j1
   have hst := firstS_step wide ws h0
   rw [hK] at hbd hsp hle hst
   have h00 : (bestL sqPut wide ws).getD 0 0 = bestM sqPut ws wide := rfl
   have hKj : K ≤ j := by
    by_cases c : j < ws.length
    ·rw [if_pos c] at j4
     exact hle (by omega) (by rw [hd j (by omega), h00, j4])
    ·omega
   have hfit : needL (ws.take K) ≤ wide := Int.le_trans (need_mono hw hKj) j3
   obtain ⟨i1, i2, i3⟩ := first_lines wide m (ws.drop K) (by rw [List.length_drop]; omega) (fun n hn => hw n (List.mem_of_mem_drop hn)) (fun n hn => hf n (List.mem_of_mem_drop hn))
   rw [hst]
   refine ⟨⟨by omega, by rw [Int.toNat_natCast]; exact i1⟩, ?_, fun _ => ?_⟩
   ·intro u hu
    rw [usedL, Int.toNat_natCast] at hu
    rcases List.mem_cons.1 hu with rfl | hu
    ·exact hfit
    ·exact i2 u hu
   ·rw [usedL, Int.toNat_natCast]
    by_cases c : K < ws.length
    ·have e1 := hsp (by omega)
     rw [hd K (by omega), h00] at e1
     have e2 := i3 (by rw [List.length_drop]; omega)
     have hne : usedL (ws.drop K) (firstS wide (ws.drop K)) ≠ [] := by
      intro q
      have q2 := congrArg List.length q
      rw [usedL_length, firstS_step wide _ (by rw [List.length_drop]; omega)] at q2
      simp at q2
     rw [costL_cons _ _ _ hne, e2, ← e1]; rfl
    ·have hd0 : ws.drop K = [] := List.drop_eq_nil_iff.2 (by omega)
     have hj : ¬ j < ws.length := by omega
     rw [if_neg hj] at j4
     rw [hd0, firstS_nil, usedL, costL, j4]
/-! the least of the greatest rests -/
theorem sq_le {a b : Int} (h0 : 0 ≤ a) (h : a ≤ b) : a * a ≤ b * b := Int.mul_le_mul h h h0 (by omega)
theorem worst_sq_K (wide : Int) (ws rm rs : List Int) (hw : ∀ n ∈ ws, 1 ≤ n ∧ n ≤ 80) (hl : 1 ≤ ws.length) (hr : ∀ k, k + 1 < ws.length → 0 ≤ rm.getD k 0 ∧ rm.getD k 0 ≤ wide - 1 ∧ rm.getD k 0 * rm.getD k 0 ≤ rs.getD k 0) (hwd : 1 ≤ wide) :
  ∀ (f k : Nat) (am av : Int), 1 ≤ k → f + k = ws.length + 1 → (am = -1 ∧ av = -1 ∨ 0 ≤ am ∧ am ≤ wide - 1 ∧ am * am ≤ av) →
   (bestK maxPut wide ws rm f k am = -1 ∧ bestK sqPut wide ws rs f k av = -1 ∨ 0 ≤ bestK maxPut wide ws rm f k am ∧ bestK maxPut wide ws rm f k am ≤ wide - 1 ∧ bestK maxPut wide ws rm f k am * bestK maxPut wide ws rm f k am ≤ bestK sqPut wide ws rs f k av) := by
 intro f
 induction f with
 | zero => intro k am av _ _ h; exact h
 | succ f ih =>
  intro k am av hk hfk h
  rw [bestK, bestK]
  by_cases c : needL (ws.take k) ≤ wide
  ·rw [if_pos c, if_pos c]
   refine ih (k + 1) _ _ (by omega) (by omega) (.inr ?_)
   have hn := needL_pos ws hw k hk hl
   have key : ∃ cm cs : Int, (if k < ws.length then maxPut (wide - needL (ws.take k)) (rm.getD (k - 1) 0) else 0) = cm ∧ (if k < ws.length then sqPut (wide - needL (ws.take k)) (rs.getD (k - 1) 0) else 0) = cs ∧ 0 ≤ cm ∧ cm ≤ wide - 1 ∧ cm * cm ≤ cs := by
    by_cases d : k < ws.length
    ·obtain ⟨r1, r2, r3⟩ := hr (k - 1) (by omega)
     refine ⟨_, _, rfl, rfl, ?_⟩
     rw [if_pos d, if_pos d]
     have s1 := sq_nn (wide - needL (ws.take k))
     have s2 := sq_nn (rm.getD (k - 1) 0)
     rw [sqPut_eq]; unfold maxPut
     split <;> exact ⟨by omega, by omega, by omega⟩
    ·exact ⟨0, 0, by rw [if_neg d], by rw [if_neg d], by omega, by omega, by omega⟩
   obtain ⟨cm, cs, e1, e2, k1, k2, k3⟩ := key
   rw [e1, e2]
   have s0 := sq_nn cm
   rcases h with ⟨rfl, rfl⟩ | ⟨h1, h2, h3⟩
   ·rw [if_pos (Or.inl (by omega)), if_pos (Or.inl (by omega))]
    exact ⟨k1, k2, k3⟩
   ·have s1 := sq_nn am
    by_cases d1 : cm < am
    ·rw [if_pos (Or.inr d1)]
     have := sq_le k1 (show cm ≤ am by omega)
     refine ⟨k1, k2, ?_⟩
     split <;> omega
    ·rw [if_neg (by omega)]
     have := sq_le h1 (show am ≤ cm by omega)
     refine ⟨h1, h2, ?_⟩
     split <;> omega
  ·rw [if_neg c, if_neg c]; exact h
theorem worst_sq_L (wide : Int) (hwd : 1 ≤ wide) : ∀ l : List Int, (∀ n ∈ l, 1 ≤ n ∧ n ≤ 80) → (∀ n ∈ l, n ≤ wide) → ∀ k, k ≤ l.length → 0 ≤ (bestL maxPut wide l).getD k 0 ∧ (bestL maxPut wide l).getD k 0 ≤ wide - 1 ∧ (bestL maxPut wide l).getD k 0 * (bestL maxPut wide l).getD k 0 ≤ (bestL sqPut wide l).getD k 0
 | [], _, _, k, hk => by
  obtain rfl : k = 0 := by simpa using hk
  simp [bestL]; omega
 | w :: ws, hw, hf, k, hk => by
  have ih := worst_sq_L wide hwd ws (fun n hn => hw n (List.mem_cons_of_mem _ hn)) (fun n hn => hf n (List.mem_cons_of_mem _ hn))
  rw [bestL, bestL]
  cases k with
  | zero =>
   rw [List.getD_cons_zero, List.getD_cons_zero]
   have hK := worst_sq_K wide (w :: ws) (bestL maxPut wide ws) (bestL sqPut wide ws) hw (by simp) (fun k h => ih k (by simp only [List.length_cons] at h; omega)) hwd (ws.length + 1) 1 (-1) (-1) (by omega) (by simp) (.inl ⟨rfl, rfl⟩)
   have hN := (best_spec wide (w :: ws).length (w :: ws) (Nat.le_refl _) hw hf).1
   rw [bestM_cons] at hN
   rcases hK with ⟨_, h2⟩ | h
   ·omega
   ·exact h
  | succ k =>
   rw [List.getD_cons_succ, List.getD_cons_succ]
   exact ih k (by simpa using hk)
theorem worst_facts {l : List Int} {wide : Int} (hs : settingB l wide = true) : 0 ≤ bestM maxPut l wide ∧ bestM maxPut l wide < wide ∧ bestM maxPut l wide * bestM maxPut l wide ≤ bestM sqPut l wide ∧ 1 ≤ canM l wide wide := by
 obtain ⟨h1, h2, h3⟩ := settingB_true hs
 obtain ⟨k1, k2, k3⟩ := worst_sq_L wide h2.1 l (wordsB_true h1).2 h3 0 (by omega)
 have hm := worst_M l wide wide hs (by omega)
 have e : bestM maxPut l wide = (bestL maxPut wide l).getD 0 0 := rfl
 have e2 : bestM sqPut l wide = (bestL sqPut wide l).getD 0 0 := rfl
 refine ⟨by omega, by omega, by rw [e, e2]; exact k3, ?_⟩
 have := hm.2.2.2 (by omega)
 omega
/-! the least width -/
/-- The least width from one on. -/
def leastFrom (l : List Int) (k : Int) : Nat → Int → Int × Bool
 | 0, _ => (0, false)
 | f + 1, x => if ((fillM x l).length : Int) ≤ k then (x, true) else leastFrom l k f (x + 1)
def leastB (l : List Int) (k : Int) : Bool := wordsB l && decide (1 ≤ k ∧ k ≤ 30)
def leastW (l : List Int) (k : Int) : Int × Bool := if leastB l k = true then leastFrom l k (81 - maxL l).toNat (maxL l) else (0, false)
theorem leastFrom_spec (l : List Int) (k : Int) : ∀ (f : Nat) (x : Int), (leastFrom l k f x).2 = true → x ≤ (leastFrom l k f x).1 ∧ (leastFrom l k f x).1 < x + f ∧ ((fillM (leastFrom l k f x).1 l).length : Int) ≤ k ∧ ∀ y, x ≤ y → y < (leastFrom l k f x).1 → ¬ ((fillM y l).length : Int) ≤ k
 | 0, x, h => by simp [leastFrom] at h
 | f + 1, x, h => by
  rw [leastFrom] at h ⊢
  by_cases c : ((fillM x l).length : Int) ≤ k
  ·rw [if_pos c]
   exact ⟨Int.le_refl _, by simp only; omega, c, fun y h1 h2 => by simp only at h2; omega⟩
  ·rw [if_neg c] at h ⊢
   obtain ⟨h1, h2, h3, h4⟩ := leastFrom_spec l k f (x + 1) h
   refine ⟨by omega, by omega, h3, fun y y1 y2 => ?_⟩
   by_cases e : y = x
   ·subst e; exact c
   ·exact h4 y (by omega) y2
theorem leastFrom_has (l : List Int) (k : Int) : ∀ (f : Nat) (x y : Int), x ≤ y → y < x + f → ((fillM y l).length : Int) ≤ k → (leastFrom l k f x).2 = true ∧ (leastFrom l k f x).1 ≤ y
 | 0, x, y, h1, h2, _ => by omega
 | f + 1, x, y, h1, h2, h3 => by
  rw [leastFrom]
  by_cases c : ((fillM x l).length : Int) ≤ k
  ·rw [if_pos c]; exact ⟨rfl, h1⟩
  ·rw [if_neg c]
   have : x ≠ y := fun e => c (e ▸ h3)
   exact leastFrom_has l k f (x + 1) y (by omega) (by omega) h3
theorem leastW_facts {l : List Int} {k : Int} (h : (leastW l k).2 = true) : settingB l (leastW l k).1 = true ∧ ((fillM (leastW l k).1 l).length : Int) ≤ k ∧ ∀ y, y < (leastW l k).1 → settingB l y = true → ¬ ((fillM y l).length : Int) ≤ k := by
 have hb : leastB l k = true := by
  by_cases q : leastB l k = true
  ·exact q
  ·unfold leastW at h; rw [if_neg q] at h; cases h
 have e : leastW l k = leastFrom l k (81 - maxL l).toNat (maxL l) := if_pos hb
 rw [e] at h ⊢
 unfold leastB at hb
 simp only [Bool.and_eq_true, decide_eq_true_eq] at hb
 obtain ⟨hw, hk⟩ := hb
 have hwt := wordsB_true hw
 obtain ⟨h1, h2, h3, h4⟩ := leastFrom_spec l k _ _ h
 have hm := maxL_mem l (by omega)
 have hmb := hwt.2 _ hm
 refine ⟨?_, h3, fun y y1 y2 => h4 y ?_ y1⟩
 ·unfold settingB
  rw [hw, decide_eq_true ⟨by omega, by omega⟩, decide_eq_true ((maxL_le _ l (by omega)).1 h1)]; rfl
 ·exact (maxL_le y l (by omega)).2 (settingB_true y2).2.2
theorem leastW_has {l : List Int} {wide : Int} (hs : settingB l wide = true) (hk : ((fillM wide l).length : Int) ≤ 30) (hk1 : 1 ≤ ((fillM wide l).length : Int)) : (leastW l ((fillM wide l).length : Int)).2 = true ∧ (leastW l ((fillM wide l).length : Int)).1 ≤ wide := by
 obtain ⟨h1, h2, h3⟩ := settingB_true hs
 have hwt := wordsB_true h1
 have hb : leastB l ((fillM wide l).length : Int) = true := by unfold leastB; rw [h1, decide_eq_true ⟨hk1, hk⟩]; rfl
 have e : leastW l ((fillM wide l).length : Int) = leastFrom l ((fillM wide l).length : Int) (81 - maxL l).toNat (maxL l) := if_pos hb
 have hm := (maxL_le wide l (by omega)).2 h3
 have hmb := hwt.2 _ (maxL_mem l (by omega))
 rw [e]
 exact leastFrom_has l _ _ _ wide hm (by omega) (Int.le_refl _)
theorem bw_ {B : Nat} {w w' : World} (h : Below B w w' := by repeat (first | (with_reducible first | exact HB.out | apply below_alloc | apply pw_below_drewN | apply below_drew1) | exact HB.out)) : Below B w w' := h
theorem rs_ {p : Prop} (h : p := by first | rfl | (simp; done) | (simp [*]; done)) : p := h
theorem rr_ {p q : Prop} (a : p) (h : p → q := by intro h_; (with_reducible repeat (first | apply Kd.R_alloc | apply Kd.R_drewN | apply Kd.R_drew)); exact h_) : q := h a
theorem cr_ {p q : Prop} (a : p) (h : p → q := by intro h_; repeat (first | exact h_ | (with_reducible refine Kd.C_alloc ?_ _) | (with_reducible refine Kd.C_drewN ?_ _) | (with_reducible refine Kd.C_drew ?_))) : q := h a
theorem dd_ {p : Prop} (h : p := by first | exact ⟨rfl, _, World.drewN_drewN _ _ _⟩ | exact ⟨rfl, _, Eq.trans (World.drewN_drewN _ _ _) (congrArg (World.drewN _) (Nat.add_assoc _ _ _))⟩) : p := h
theorem bx_ {a b : Bool} (h : (a != (!b)) = false) : (a == b) = false ∧ ((!a) == (!b)) = false := by cases a <;> cases b <;> simp_all
theorem bg_ {B : Nat} {w w' : World} (h : Below B w w' := by repeat (first | (with_reducible first | exact HB.out | apply below_alloc | apply pw_below_drewN | apply below_drew1 | refine below_set ?_ GB.out) | exact HB.out)) : Below B w w' := h
end Go.Proofs.YtpedlkhfeoeogaaDoor.Own
