/- FnVolumesSplit: what the functions of volumes, contents and Roman numbers answer. -/
import Derived.Test.YtpedlkhfeoeogaaDoorPFnVolumesSplitx10
import Derived.Laws.Bits64b
namespace Go.Proofs.YtpedlkhfeoeogaaDoor.Pure
open Go.RowKit Go.Proofs.YtpedlkhfeoeogaaDoor.PFnVolumesSplit Go.Proofs.YtpedlkhfeoeogaaDoorW.PrintWords Go.Proofs.YtpedlkhfeoeogaaDoorW.PrintLast

theorem w64 {x : Int} (h1 : -9223372036854775808 ≤ x) (h2 : x ≤ 9223372036854775807) : wrap64 x = x := by
 unfold wrap64; omega
theorem ev_pos {α : Type} {c : Prop} [Decidable c] {f g : Nat → Option α} {r : α} (hc : c) (h : Ev f r) : Ev (fun k => if c then f k else g k) r := by
 simpa only [if_pos hc] using h
theorem ev_neg {α : Type} {c : Prop} [Decidable c] {f g : Nat → Option α} {r : α} (hc : ¬ c) (h : Ev g r) : Ev (fun k => if c then f k else g k) r := by
 simpa only [if_neg hc] using h
theorem ev_now {α : Type} {r s : α} (h : r = s) : Ev (fun _ => some r) s := h ▸ Ev.now r
theorem ev_some {α β : Type} {x : Option α} {f : Nat → α → Option β} {a : α} {r : β} (h : x = some a) (k : Ev (fun n => f n a) r) : Ev (fun n => x.bind (f n)) r := by
 subst h; exact k
theorem ev_val {α : Type} {g : Nat → Option α} {a b : α} (h : Ev g a) (e : a = b) : Ev g b := e ▸ h
theorem ev_suc {α : Type} {g : Nat → Option α} {r : α} (h : Ev (fun k => g (k + 1)) r) : Ev g r := Ev.step (fun _ => rfl) h
theorem drop_nil {α : Type} {xs : List α} {i : Int} (h0 : 0 ≤ i) (h : xs.drop i.toNat = []) : (xs.length : Int) ≤ i := by
 have := List.drop_eq_nil_iff.1 h
 omega
theorem drop_get {α : Type} {xs : List α} {i : Int} {y : α} {ys : List α} (h0 : 0 ≤ i) (h : xs.drop i.toNat = y :: ys) : i < (xs.length : Int) ∧ (∀ d, xs.getD i.toNat d = y) ∧ xs.drop (i + 1).toNat = ys ∧ xs.take (i + 1).toNat = xs.take i.toNat ++ [y] := by
 have hl : i.toNat < xs.length := by
  rcases Nat.lt_or_ge i.toNat xs.length with hl | hl
  ·exact hl
  ·rw [List.drop_eq_nil_iff.2 hl] at h; cases h
 have e := List.drop_eq_getElem_cons hl
 rw [h] at e
 injection e with e1 e2
 have h1 : (i + 1).toNat = i.toNat + 1 := by omega
 refine ⟨by omega, fun d => ?_, ?_, ?_⟩
 ·rw [List.getD_eq_getElem?_getD, List.getElem?_eq_getElem hl, e1]; rfl
 ·rw [h1]; exact e2.symm
 ·rw [h1, List.take_add_one, List.getElem?_eq_getElem hl, e1]; rfl
theorem drop_cons {xs : List Int} {i : Int} {y : Int} {ys : List Int} (h0 : 0 ≤ i) (h : xs.drop i.toNat = y :: ys) : i < (xs.length : Int) ∧ rd xs i = y ∧ xs.drop (i + 1).toNat = ys ∧ xs.take (i + 1).toNat = xs.take i.toNat ++ [y] := by
 obtain ⟨h1, h2, h3⟩ := drop_get h0 h
 exact ⟨h1, h2 0, h3⟩

theorem sum_nn : ∀ {xs : List Int}, (∀ n ∈ xs, 1 ≤ n) → 0 ≤ xs.sum
 | [], _ => by simp
 | x :: xs, h => by
  have h1 := h x List.mem_cons_self
  have h2 := sum_nn (xs := xs) (fun n hn => h n (List.mem_cons_of_mem _ hn))
  rw [List.sum_cons]; omega
theorem mem_sum : ∀ {xs : List Int}, (∀ n ∈ xs, 1 ≤ n) → ∀ n ∈ xs, n ≤ xs.sum
 | [], _, n, hn => by simp at hn
 | x :: xs, h, n, hn => by
  have h1 := h x List.mem_cons_self
  have h2 := sum_nn (xs := xs) (fun n hn => h n (List.mem_cons_of_mem _ hn))
  rw [List.sum_cons]
  rcases List.mem_cons.1 hn with rfl | q
  ·omega
  ·have := mem_sum (xs := xs) (fun n hn => h n (List.mem_cons_of_mem _ hn)) n q; omega
theorem sum_split (k : Nat) (xs : List Int) : xs.sum = (xs.take k).sum + (xs.drop k).sum := by
 rw [← List.sum_append, List.take_append_drop]
def gV (m : Int) : List Int → Int → Int
 | [], _ => 0
 | n :: ns, l => if n > l then 1 + gV m ns (m - n) else gV m ns (l - n)
theorem gV_nn (m : Int) : ∀ (xs : List Int) (l : Int), 0 ≤ gV m xs l
 | [], _ => by simp [gV]
 | n :: ns, l => by
  rw [gV]
  have h1 := gV_nn m ns (m - n)
  have h2 := gV_nn m ns (l - n)
  split <;> omega
theorem gV_len (m : Int) : ∀ (xs : List Int) (l : Int), gV m xs l ≤ (xs.length : Int)
 | [], _ => by simp [gV]
 | n :: ns, l => by
  rw [gV]
  have h1 := gV_len m ns (m - n)
  have h2 := gV_len m ns (l - n)
  simp only [List.length_cons]
  split <;> omega
theorem gV_mono (m : Int) : ∀ (xs : List Int) (l l' : Int), (∀ n ∈ xs, 1 ≤ n ∧ n ≤ m) → l ≤ l' → l' ≤ m → gV m xs l' ≤ gV m xs l ∧ gV m xs l ≤ 1 + gV m xs l'
 | [], l, l', _, _, _ => by simp [gV]
 | n :: ns, l, l', h, h1, h2 => by
  have hn := h n List.mem_cons_self
  have ht : ∀ x ∈ ns, 1 ≤ x ∧ x ≤ m := fun x hx => h x (List.mem_cons_of_mem _ hx)
  rw [gV, gV]
  by_cases c1 : n > l'
  ·rw [if_pos c1, if_pos (by omega)]; omega
  ·rw [if_neg c1]
   by_cases c2 : n > l
   ·rw [if_pos c2]
    have := gV_mono m ns (l' - n) (m - n) ht (by omega) (by omega)
    omega
   ·rw [if_neg c2]
    exact gV_mono m ns (l - n) (l' - n) ht (by omega) (by omega)
theorem gV_take (m : Int) : ∀ (k : Nat) (xs : List Int) (l : Int), (∀ n ∈ xs, 1 ≤ n) → (xs.take k).sum ≤ l → gV m xs l = gV m (xs.drop k) (l - (xs.take k).sum)
 | 0, xs, l, _, _ => by simp
 | k + 1, [], l, _, _ => by simp [gV]
 | k + 1, n :: ns, l, h, hs => by
  have ht : ∀ x ∈ ns, 1 ≤ x := fun x hx => h x (List.mem_cons_of_mem _ hx)
  rw [List.take_succ_cons, List.sum_cons] at hs ⊢
  rw [List.drop_succ_cons]
  have hq : 0 ≤ (ns.take k).sum := sum_nn (fun x hx => ht x (List.mem_of_mem_take hx))
  rw [gV, if_neg (by omega), gV_take m k ns (l - n) ht (by omega)]
  congr 1; omega
theorem gV_sum (m : Int) : ∀ (xs : List Int) (l : Int), (∀ n ∈ xs, 1 ≤ n ∧ n ≤ m) → 0 ≤ l → xs.sum ≤ l + gV m xs l * m
 | [], l, _, h => by simp [gV]; exact h
 | n :: ns, l, h, h0 => by
  have hn := h n List.mem_cons_self
  have ht : ∀ x ∈ ns, 1 ≤ x ∧ x ≤ m := fun x hx => h x (List.mem_cons_of_mem _ hx)
  rw [gV, List.sum_cons]
  split
  ·have := gV_sum m ns (m - n) ht (by omega)
   rw [Int.add_mul, Int.one_mul]; omega
  ·have := gV_sum m ns (l - n) ht (by omega)
   omega
def Fit (m : Int) : Nat → List Int → Prop
 | 0, _ => False
 | 1, xs => xs.sum ≤ m
 | v + 2, xs => ∃ k : Nat, 1 ≤ k ∧ k + (v + 1) ≤ xs.length ∧ (xs.take k).sum ≤ m ∧ Fit m (v + 1) (xs.drop k)
theorem fit_le (m : Int) : ∀ (v : Nat) (xs : List Int), (∀ n ∈ xs, 1 ≤ n) → Fit m (v + 1) xs → ∀ n ∈ xs, n ≤ m
 | 0, xs, h, f, n, hn => Int.le_trans (mem_sum h n hn) f
 | v + 1, xs, h, f, n, hn => by
  obtain ⟨k, _, _, k3, k4⟩ := f
  rw [← List.take_append_drop k xs] at hn
  rcases List.mem_append.1 hn with q | q
  ·exact Int.le_trans (mem_sum (fun x hx => h x (List.mem_of_mem_take hx)) n q) k3
  ·exact fit_le m v _ (fun x hx => h x (List.mem_of_mem_drop hx)) k4 n q
theorem fit_g (m : Int) : ∀ (v : Nat) (xs : List Int), (∀ n ∈ xs, 1 ≤ n ∧ n ≤ m) → 0 ≤ m → Fit m (v + 1) xs → gV m xs 0 ≤ (v : Int) + 1
 | 0, xs, h, hm, f => by
  have h1 := (gV_mono m xs 0 m h hm (by omega)).2
  have h2 := gV_take m xs.length xs m (fun n hn => (h n hn).1) (by rw [List.take_length]; exact f)
  rw [List.drop_length] at h2
  simp only [gV] at h2
  omega
 | v + 1, xs, h, hm, f => by
  obtain ⟨k, _, _, k3, k4⟩ := f
  have h1 := (gV_mono m xs 0 m h hm (by omega)).2
  have h2 := gV_take m k xs m (fun n hn => (h n hn).1) k3
  have h3 : ∀ n ∈ xs.drop k, 1 ≤ n ∧ n ≤ m := fun n hn => h n (List.mem_of_mem_drop hn)
  have h4 := (gV_mono m (xs.drop k) 0 (m - (xs.take k).sum) h3 (by omega) (by have := sum_nn (xs := xs.take k) (fun n hn => (h n (List.mem_of_mem_take hn)).1); omega)).1
  have h5 := fit_g m v (xs.drop k) h3 hm k4
  omega
/-- how many chapters are left out till the rest goes into v volumes -/
def fz (m v : Int) : List Int → Nat
 | [] => 0
 | n :: ns => if gV m (n :: ns) 0 ≤ v then 0 else 1 + fz m v ns
theorem fz_at (m v : Int) (hv : 0 ≤ v) : ∀ (xs : List Int), gV m (xs.drop (fz m v xs)) 0 ≤ v
 | [] => by simpa [fz, gV] using hv
 | n :: ns => by
  rw [fz]
  split
  ·rename_i h; exact h
  ·rw [Nat.add_comm, List.drop_succ_cons]; exact fz_at m v hv ns
theorem fz_le (m v : Int) : ∀ (xs : List Int), fz m v xs ≤ xs.length
 | [] => by simp [fz]
 | n :: ns => by
  rw [fz]
  have := fz_le m v ns
  simp only [List.length_cons]
  split <;> omega
theorem fz_min (m v : Int) : ∀ (xs : List Int) (k : Nat), k < fz m v xs → v < gV m (xs.drop k) 0
 | [], k, h => by simp [fz] at h
 | n :: ns, k, h => by
  rw [fz] at h
  split at h
  ·omega
  ·rename_i q
   cases k with
   | zero => rw [List.drop_zero]; omega
   | succ k => rw [List.drop_succ_cons]; exact fz_min m v ns k (by omega)
theorem fz_len (m v : Int) : ∀ (xs : List Int), v ≤ (xs.length : Int) → v + (fz m v xs : Int) ≤ (xs.length : Int)
 | [], h => by simpa [fz] using h
 | n :: ns, h => by
  rw [fz]
  split
  ·simpa using h
  ·rename_i q
   have h1 := gV_len m (n :: ns) 0
   simp only [List.length_cons] at h1 h ⊢
   have h2 := fz_len m v ns (by omega)
   omega
theorem fz_sum (m v : Int) : ∀ (xs : List Int) (l : Int), (∀ n ∈ xs, 1 ≤ n ∧ n ≤ m) → 0 ≤ l → gV m xs l ≤ v → (xs.take (fz m v xs)).sum ≤ l
 | [], l, _, h, _ => by simpa using h
 | n :: ns, l, h, h0, hg => by
  have hn := h n List.mem_cons_self
  have ht : ∀ x ∈ ns, 1 ≤ x ∧ x ≤ m := fun x hx => h x (List.mem_cons_of_mem _ hx)
  rw [fz]
  split
  ·simpa using h0
  ·rename_i q
   rw [gV, if_pos (by omega)] at q
   rw [gV] at hg
   by_cases c : n > l
   ·rw [if_pos c] at hg; omega
   ·rw [if_neg c] at hg
    have := fz_sum m v ns (l - n) ht (by omega) hg
    rw [Nat.add_comm, List.take_succ_cons, List.sum_cons]; omega
def fk (m v : Int) (xs : List Int) : Nat := 1 + fz m v xs.tail
theorem fk_facts (m v : Int) (hv : 0 ≤ v) (xs : List Int) (hx : ∀ n ∈ xs, 1 ≤ n ∧ n ≤ m) (hl : v + 1 ≤ (xs.length : Int)) (hg : gV m xs 0 ≤ v + 1) :
  1 ≤ fk m v xs ∧ v + (fk m v xs : Int) ≤ (xs.length : Int) ∧ (xs.take (fk m v xs)).sum ≤ m ∧ gV m (xs.drop (fk m v xs)) 0 ≤ v ∧ ∀ k : Nat, 1 ≤ k → k < fk m v xs → v < gV m (xs.drop k) 0 := by
 cases xs with
 | nil => simp only [List.length_nil] at hl; omega
 | cons n ns =>
  have hn := hx n List.mem_cons_self
  have ht : ∀ x ∈ ns, 1 ≤ x ∧ x ≤ m := fun x hx' => hx x (List.mem_cons_of_mem _ hx')
  simp only [List.length_cons] at hl ⊢
  rw [gV, if_pos (by omega)] at hg
  have h1 := fz_len m v ns (by omega)
  have h2 := fz_sum m v ns (m - n) ht (by omega) (by omega)
  have h3 := fz_at m v hv ns
  have e : fk m v (n :: ns) = fz m v ns + 1 := by unfold fk; rw [List.tail_cons, Nat.add_comm]
  rw [e]
  refine ⟨by omega, by omega, ?_, ?_, fun k hk hk2 => ?_⟩
  ·rw [List.take_succ_cons, List.sum_cons]; omega
  ·rw [List.drop_succ_cons]; exact h3
  ·obtain ⟨j, rfl⟩ : ∃ j, k = j + 1 := ⟨k - 1, by omega⟩
   rw [List.drop_succ_cons]
   exact fz_min m v ns j (by omega)
theorem g_fit (m : Int) : ∀ (v : Nat) (xs : List Int), (∀ n ∈ xs, 1 ≤ n ∧ n ≤ m) → v + 1 ≤ xs.length → gV m xs 0 ≤ (v : Int) + 1 → Fit m (v + 1) xs
 | 0, xs, h, hl, hg => by
  cases xs with
  | nil => simp at hl
  | cons n ns =>
   have hn := h n List.mem_cons_self
   have ht : ∀ x ∈ ns, 1 ≤ x ∧ x ≤ m := fun x hx' => h x (List.mem_cons_of_mem _ hx')
   rw [gV, if_pos (by omega)] at hg
   have h0 := gV_nn m ns (m - n)
   have h1 := gV_sum m ns (m - n) ht (by omega)
   rw [show gV m ns (m - n) = 0 from by omega, Int.zero_mul] at h1
   show (n :: ns).sum ≤ m
   rw [List.sum_cons]; omega
 | v + 1, xs, h, hl, hg => by
  obtain ⟨f1, f2, f3, f4, _⟩ := fk_facts m ((v : Int) + 1) (by omega) xs h (by omega) (by simpa using hg)
  refine ⟨fk m ((v : Int) + 1) xs, f1, by omega, f3, g_fit m v _ (fun n hn => h n (List.mem_of_mem_drop hn)) (by rw [List.length_drop]; omega) f4⟩
theorem fit_sum : ∀ (v : Nat) (xs : List Int) (m : Int), (∀ n ∈ xs, 1 ≤ n) → v + 1 ≤ xs.length → xs.sum ≤ m → Fit m (v + 1) xs
 | 0, xs, m, _, _, h => h
 | v + 1, xs, m, hx, hl, h => by
  cases xs with
  | nil => simp at hl
  | cons n ns =>
   have hn := hx n List.mem_cons_self
   have ht : ∀ x ∈ ns, 1 ≤ x := fun x hx' => hx x (List.mem_cons_of_mem _ hx')
   have h0 := sum_nn ht
   rw [List.sum_cons] at h
   simp only [List.length_cons] at hl
   refine ⟨1, by omega, by simp only [List.length_cons]; omega, by simp; omega, ?_⟩
   rw [List.drop_succ_cons, List.drop_zero]
   exact fit_sum v ns m ht (by omega) (by omega)
theorem fit_mul (m : Int) : ∀ (v : Nat) (xs : List Int), Fit m (v + 1) xs → xs.sum ≤ m * ((v : Int) + 1)
 | 0, xs, h => by simpa using (show xs.sum ≤ m from h)
 | v + 1, xs, h => by
  obtain ⟨k, _, _, k3, k4⟩ := h
  have := fit_mul m v _ k4
  rw [sum_split k xs, show m * (((v + 1 : Nat) : Int) + 1) = m + m * ((v : Int) + 1) from by rw [Int.mul_add m _ 1]; push_cast; rw [Int.mul_one]; omega]
  omega
/-- the first split -/
def fvs (m : Int) : Nat → List Int → List Int
 | 0, xs => [(xs.length : Int)]
 | v + 1, xs => (fk m ((v : Int) + 1) xs : Int) :: fvs m v (xs.drop (fk m ((v : Int) + 1) xs))
theorem fvs_len (m : Int) : ∀ (v : Nat) (xs : List Int), (fvs m v xs).length = v + 1
 | 0, xs => rfl
 | v + 1, xs => by rw [fvs, List.length_cons, fvs_len m v]
theorem fvs_good (m : Int) : ∀ (v : Nat) (xs : List Int), (∀ n ∈ xs, 1 ≤ n ∧ n ≤ m) → v + 1 ≤ xs.length → gV m xs 0 ≤ (v : Int) + 1 → (fvs m v xs).sum = (xs.length : Int) ∧ ∀ k ∈ fvs m v xs, 1 ≤ k ∧ k ≤ (xs.length : Int)
 | 0, xs, _, hl, _ => by simp [fvs]; omega
 | v + 1, xs, h, hl, hg => by
  obtain ⟨f1, f2, f3, f4, _⟩ := fk_facts m ((v : Int) + 1) (by omega) xs h (by omega) (by simpa using hg)
  have hd : (xs.drop (fk m ((v : Int) + 1) xs)).length = xs.length - fk m ((v : Int) + 1) xs := List.length_drop
  obtain ⟨h1, h2⟩ := fvs_good m v (xs.drop (fk m ((v : Int) + 1) xs)) (fun n hn => h n (List.mem_of_mem_drop hn)) (by omega) f4
  rw [fvs]
  refine ⟨by rw [List.sum_cons, h1]; omega, fun k hk => ?_⟩
  rcases List.mem_cons.1 hk with rfl | q
  ·omega
  ·have := h2 k q; omega
/-- the greatest part -/
def grt : List Int → List Int → Int → Int
 | [], _, c => c
 | k :: ks, xs, c => grt ks (xs.drop k.toNat) (if (xs.take k.toNat).sum > c then (xs.take k.toNat).sum else c)
theorem grt_ge : ∀ (ks xs : List Int) (c : Int), c ≤ grt ks xs c
 | [], _, c => by simp [grt]
 | k :: ks, xs, c => by
  rw [grt]
  have := grt_ge ks (xs.drop k.toNat) (if (xs.take k.toNat).sum > c then (xs.take k.toNat).sum else c)
  split at this <;> rename_i q
  ·rw [if_pos q]; omega
  ·rw [if_neg q]; omega
theorem grt_le (m : Int) : ∀ (v : Nat) (xs : List Int) (c : Int), (∀ n ∈ xs, 1 ≤ n ∧ n ≤ m) → v + 1 ≤ xs.length → gV m xs 0 ≤ (v : Int) + 1 → c ≤ m → grt (fvs m v xs) xs c ≤ m
 | 0, xs, c, h, hl, hg, hc => by
  have hs := g_fit m 0 xs h hl hg
  have hs : xs.sum ≤ m := hs
  simp only [fvs, grt, Int.toNat_natCast, List.take_length]
  split <;> omega
 | v + 1, xs, c, h, hl, hg, hc => by
  obtain ⟨f1, f2, f3, f4, _⟩ := fk_facts m ((v : Int) + 1) (by omega) xs h (by omega) (by simpa using hg)
  have hd : (xs.drop (fk m ((v : Int) + 1) xs)).length = xs.length - fk m ((v : Int) + 1) xs := List.length_drop
  rw [fvs, grt, Int.toNat_natCast]
  refine grt_le m v _ _ (fun n hn => h n (List.mem_of_mem_drop hn)) (by omega) f4 ?_
  split <;> omega
theorem grt_fit (m : Int) : ∀ (v : Nat) (xs : List Int) (c g : Int), (∀ n ∈ xs, 1 ≤ n ∧ n ≤ m) → v + 1 ≤ xs.length → gV m xs 0 ≤ (v : Int) + 1 → grt (fvs m v xs) xs c ≤ g → Fit g (v + 1) xs
 | 0, xs, c, g, h, hl, hg, hc => by
  simp only [fvs, grt, Int.toNat_natCast, List.take_length] at hc
  show xs.sum ≤ g
  split at hc <;> omega
 | v + 1, xs, c, g, h, hl, hg, hc => by
  obtain ⟨f1, f2, f3, f4, _⟩ := fk_facts m ((v : Int) + 1) (by omega) xs h (by omega) (by simpa using hg)
  have hd : (xs.drop (fk m ((v : Int) + 1) xs)).length = xs.length - fk m ((v : Int) + 1) xs := List.length_drop
  rw [fvs, grt, Int.toNat_natCast] at hc
  have hge := grt_ge (fvs m v (xs.drop (fk m ((v : Int) + 1) xs))) (xs.drop (fk m ((v : Int) + 1) xs)) (if (xs.take (fk m ((v : Int) + 1) xs)).sum > c then (xs.take (fk m ((v : Int) + 1) xs)).sum else c)
  have hle : (xs.take (fk m ((v : Int) + 1) xs)).sum ≤ (if (xs.take (fk m ((v : Int) + 1) xs)).sum > c then (xs.take (fk m ((v : Int) + 1) xs)).sum else c) := by split <;> omega
  exact ⟨fk m ((v : Int) + 1) xs, f1, by omega, Int.le_trans hle (Int.le_trans hge hc), grt_fit m v _ _ g (fun n hn => h n (List.mem_of_mem_drop hn)) (by omega) f4 hc⟩

theorem within_eq (a lo hi : Int) : impl_within.f a lo hi = some (decide (lo ≤ a ∧ a ≤ hi)) := by
 unfold impl_within.f
 by_cases h : a ≥ lo
 ·rw [if_pos h]; congr 1; simp [show lo ≤ a from h]
 ·rw [if_neg h]; congr 1; simp; omega

theorem allWithin_l (lo hi : Int) (xs : List Int) (hn : xs.length < 4611686018427387904) : ∀ (ys : List Int) (i : Int), 0 ≤ i → xs.drop i.toNat = ys →
  Ev (fun k => impl_allWithin.l0 k lo hi xs (xs.length : Int) i) (decide (∀ n ∈ ys, lo ≤ n ∧ n ≤ hi)) := by
 intro ys
 induction ys with
 | nil =>
  intro i h0 h
  have := drop_nil h0 h
  refine Ev.step (fun k => impl_allWithin.l0.eq_2 ..) ?_
  exact ev_neg (by omega) (ev_now (by simp))
 | cons y ys ih =>
  intro i h0 h
  obtain ⟨h1, h2, h3, _⟩ := drop_cons h0 h
  refine Ev.step (fun k => impl_allWithin.l0.eq_2 ..) ?_
  refine ev_pos h1 (ev_pos h0 (ev_pos h1 ?_))
  rw [h2, w64 (by omega) (by omega)]
  refine ev_some (within_eq ..) ?_
  by_cases hy : lo ≤ y ∧ y ≤ hi
  ·exact ev_pos (by simpa using hy) (ev_val (ih _ (by omega) h3) (by simp [hy]))
  ·exact ev_neg (by simpa using hy) (ev_now (by simp [hy]))
theorem allWithin_ev (xs : List Int) (lo hi : Int) (hn : xs.length < 4611686018427387904) :
  Ev (fun k => impl_allWithin.f k xs lo hi) (decide (∀ n ∈ xs, lo ≤ n ∧ n ≤ hi)) := allWithin_l lo hi xs hn xs 0 (by omega) rfl

theorem l1In_eq (a lo hi : Int) : spec_l1In.f a lo hi = some (decide (lo ≤ a ∧ a ≤ hi)) := by
 unfold spec_l1In.f
 by_cases h : a ≥ lo
 ·rw [if_pos h]; congr 1; simp [show lo ≤ a from h]
 ·rw [if_neg h]; congr 1; simp; omega

theorem l1All_l (lo hi : Int) (xs : List Int) (hn : xs.length < 4611686018427387904) : ∀ (ys : List Int) (i : Int), 0 ≤ i → xs.drop i.toNat = ys →
  Ev (fun k => spec_l1All.l0 k lo hi xs (xs.length : Int) i) (decide (∀ n ∈ ys, lo ≤ n ∧ n ≤ hi)) := by
 intro ys
 induction ys with
 | nil =>
  intro i h0 h
  have := drop_nil h0 h
  refine Ev.step (fun k => spec_l1All.l0.eq_2 ..) ?_
  exact ev_neg (by omega) (ev_now (by simp))
 | cons y ys ih =>
  intro i h0 h
  obtain ⟨h1, h2, h3, _⟩ := drop_cons h0 h
  refine Ev.step (fun k => spec_l1All.l0.eq_2 ..) ?_
  refine ev_pos h1 (ev_pos h0 (ev_pos h1 ?_))
  rw [h2, w64 (by omega) (by omega)]
  refine ev_some (l1In_eq ..) ?_
  by_cases hy : lo ≤ y ∧ y ≤ hi
  ·exact ev_pos (by simpa using hy) (ev_val (ih _ (by omega) h3) (by simp [hy]))
  ·exact ev_neg (by simpa using hy) (ev_now (by simp [hy]))
theorem l1All_ev (xs : List Int) (lo hi : Int) (hn : xs.length < 4611686018427387904) :
  Ev (fun k => spec_l1All.f k xs lo hi) (decide (∀ n ∈ xs, lo ≤ n ∧ n ≤ hi)) := l1All_l lo hi xs hn xs 0 (by omega) rfl

def goodC (xs : List Int) : Bool := decide (1 ≤ xs.length ∧ xs.length ≤ 12) && decide (∀ n ∈ xs, 1 ≤ n ∧ n ≤ 120)
theorem goodC_true {xs : List Int} (h : goodC xs = true) : 1 ≤ xs.length ∧ xs.length ≤ 12 ∧ ∀ n ∈ xs, 1 ≤ n ∧ n ≤ 120 := by
 simp only [goodC, Bool.and_eq_true, decide_eq_true_eq] at h
 exact ⟨h.1.1, h.1.2, h.2⟩
theorem caGood_ev (xs : List Int) (hn : xs.length ≤ 1048576) : Ev (fun k => spec_caGood.f k xs) (goodC xs) := by
 unfold spec_caGood.f goodC
 refine ev_some (l1In_eq ..) ?_
 by_cases h : 1 ≤ (xs.length : Int) ∧ (xs.length : Int) ≤ 12
 ·have e : (1 ≤ xs.length ∧ xs.length ≤ 12) := by omega
  refine ev_pos (decide_eq_true h) (Ev.bind (l1All_ev xs 1 120 (by omega)) (ev_now ?_))
  rw [decide_eq_true e, Bool.true_and]
 ·have e : ¬ (1 ≤ xs.length ∧ xs.length ≤ 12) := by omega
  refine ev_neg (by rw [decide_eq_false h]; simp) (ev_now ?_)
  rw [decide_eq_false e, Bool.false_and]
theorem areCh_ev (xs : List Int) (hn : xs.length ≤ 1048576) : Ev (fun k => impl_AreChapters.f k xs) (goodC xs) := by
 unfold impl_AreChapters.f goodC
 refine ev_some (within_eq ..) ?_
 by_cases h : 1 ≤ (xs.length : Int) ∧ (xs.length : Int) ≤ 12
 ·have e : (1 ≤ xs.length ∧ xs.length ≤ 12) := by omega
  refine ev_pos (decide_eq_true h) (Ev.bind (allWithin_ev xs 1 120 (by omega)) (ev_now ?_))
  rw [decide_eq_true e, Bool.true_and]
 ·have e : ¬ (1 ≤ xs.length ∧ xs.length ≤ 12) := by omega
  refine ev_neg (by rw [decide_eq_false h]; simp) (ev_now ?_)
  rw [decide_eq_false e, Bool.false_and]

theorem sum_120 : ∀ (xs : List Int), (∀ n ∈ xs, 1 ≤ n ∧ n ≤ 120) → xs.sum ≤ 120 * (xs.length : Int)
 | [], _ => by simp
 | x :: xs, h => by
  have h1 := h x List.mem_cons_self
  have h2 := sum_120 xs (fun n hn => h n (List.mem_cons_of_mem _ hn))
  simp only [List.sum_cons, List.length_cons]; omega
theorem total_lc (xs : List Int) (hn : xs.length ≤ 1000) (hin : ∀ n ∈ xs, 1 ≤ n ∧ n ≤ 120) : ∀ (ys : List Int) (i s : Int), 0 ≤ i → xs.drop i.toNat = ys → 0 ≤ s → s + 120 * ys.length ≤ 1000000 →
  Ev (fun k => impl_total.l0 k s xs (xs.length : Int) i) (s + ys.sum) := by
 intro ys
 induction ys with
 | nil =>
  intro i s h0 h _ _
  have := drop_nil h0 h
  refine Ev.step (fun k => impl_total.l0.eq_2 ..) ?_
  exact ev_neg (by omega) (ev_now (by simp))
 | cons y ys ih =>
  intro i s h0 h hs hb
  obtain ⟨h1, h2, h3, _⟩ := drop_cons h0 h
  have hy := hin y (List.mem_of_mem_drop (by rw [h]; exact List.mem_cons_self))
  simp only [List.length_cons] at hb
  refine Ev.step (fun k => impl_total.l0.eq_2 ..) ?_
  refine ev_pos h1 (ev_pos h0 (ev_pos h1 ?_))
  rw [h2, w64 (x := i + 1) (by omega) (by omega), w64 (by omega) (by omega)]
  exact ev_val (ih (i + 1) (s + y) (by omega) h3 (by omega) (by omega)) (by rw [List.sum_cons]; omega)
theorem totalC_ev (xs : List Int) (hn : xs.length ≤ 1000) (hin : ∀ n ∈ xs, 1 ≤ n ∧ n ≤ 120) : Ev (fun k => impl_total.f k xs) xs.sum :=
 ev_val (total_lc xs hn hin xs 0 0 (by omega) rfl (by omega) (by omega)) (by omega)
def okC (xs : List Int) : Prop := xs.length ≤ 12 ∧ ∀ n ∈ xs, 1 ≤ n ∧ n ≤ 120
theorem okC_drop {xs : List Int} (h : okC xs) (k : Nat) : okC (xs.drop k) := ⟨by rw [List.length_drop]; have := h.1; omega, fun n hn => h.2 n (List.mem_of_mem_drop hn)⟩
theorem okC_take {xs : List Int} (h : okC xs) (k : Nat) : okC (xs.take k) := ⟨by rw [List.length_take]; have := h.1; omega, fun n hn => h.2 n (List.mem_of_mem_take hn)⟩
/-- the least number of pages of the greatest of v + 1 volumes -/
def IsLeast (v : Nat) (xs : List Int) (r : Int) : Prop := ∀ m, r ≤ m ↔ Fit m (v + 1) xs
theorem lv_ev : ∀ (v : Nat) (xs : List Int), okC xs → v + 1 ≤ xs.length → ∃ r, Ev (fun k => impl_leastVolume.f k xs ((v : Int) + 1)) r ∧ IsLeast v xs r := by
 intro v
 induction v with
 | zero =>
  intro xs ho hl
  have h12 := ho.1
  exact ⟨xs.sum, Ev.step (fun k => impl_leastVolume.f.eq_2 ..) (ev_pos (by omega) (Ev.bind (totalC_ev xs (by omega) ho.2) (ev_now rfl))), fun m => Iff.rfl⟩
 | succ v ihv =>
  intro xs ho hl
  have h12 := ho.1
  have hpos : ∀ n ∈ xs, 1 ≤ n := fun n hn => (ho.2 n hn).1
  have loop : ∀ (d i : Nat) (b : Int), i + d = xs.length - (v + 1) + 1 → 1 ≤ i → (∀ m, b ≤ m ↔ xs.sum ≤ m ∨ ∃ k : Nat, 1 ≤ k ∧ k < i ∧ (xs.take k).sum ≤ m ∧ Fit m (v + 1) (xs.drop k)) →
    ∃ r, Ev (fun k => impl_leastVolume.l0 k xs (((v + 1 : Nat) : Int) + 1) b (i : Int)) r ∧ ∀ m, r ≤ m ↔ xs.sum ≤ m ∨ ∃ k : Nat, 1 ≤ k ∧ k < xs.length - (v + 1) + 1 ∧ (xs.take k).sum ≤ m ∧ Fit m (v + 1) (xs.drop k) := by
   intro d
   induction d with
   | zero =>
    intro i b hi h1 hb
    refine ⟨b, Ev.step (fun k => impl_leastVolume.l0.eq_2 ..) (ev_neg (by rw [w64 (x := (xs.length : Int) - (((v + 1 : Nat) : Int) + 1)) (by omega) (by omega), w64 (by omega) (by omega)]; omega) (ev_now rfl)), fun m => ?_⟩
    rw [hb, show i = xs.length - (v + 1) + 1 from by omega]
   | succ d ih =>
    intro i b hi h1 hb
    obtain ⟨r', hr, hr2⟩ := ihv (xs.drop i) (okC_drop ho i) (by rw [List.length_drop]; omega)
    have ht := totalC_ev (xs.take i) (by have := (okC_take ho i).1; omega) (okC_take ho i).2
    obtain ⟨r, e, hp⟩ := ih (i + 1) (mn b (mx (xs.take i).sum r')) (by omega) (by omega) (fun m => by
     have q := hb m
     have q2 := hr2 m
     have hmn : mn b (mx (xs.take i).sum r') ≤ m ↔ b ≤ m ∨ ((xs.take i).sum ≤ m ∧ r' ≤ m) := by
      unfold mn mx
      split <;> split <;> omega
     rw [hmn, q, q2]
     constructor
     ·rintro ((h | ⟨k, k1, k2, k3, k4⟩) | ⟨h, h'⟩)
      ·exact .inl h
      ·exact .inr ⟨k, k1, by omega, k3, k4⟩
      ·exact .inr ⟨i, h1, by omega, h, h'⟩
     ·rintro (h | ⟨k, k1, k2, k3, k4⟩)
      ·exact .inl (.inl h)
      ·by_cases c : k = i
       ·subst c; exact .inr ⟨k3, k4⟩
       ·exact .inl (.inr ⟨k, k1, by omega, k3, k4⟩))
    refine ⟨r, Ev.step (fun k => impl_leastVolume.l0.eq_2 ..) (ev_pos (by rw [w64 (x := (xs.length : Int) - (((v + 1 : Nat) : Int) + 1)) (by omega) (by omega), w64 (by omega) (by omega)]; omega) (ev_pos (by omega) (ev_pos (by omega) ?_))), hp⟩
    rw [Int.toNat_natCast]
    refine Ev.bind ht ?_
    have e1 : wrap64 (((v + 1 : Nat) : Int) + 1 - 1) = (v : Int) + 1 := by rw [w64 (by omega) (by omega)]; omega
    have e2 : wrap64 ((i : Int) + 1) = ((i + 1 : Nat) : Int) := by rw [w64 (by omega) (by omega)]; omega
    rw [e1, e2]
    exact Ev.bind hr e
  obtain ⟨r, e, hp⟩ := loop (xs.length - (v + 1)) 1 xs.sum (by omega) (by omega) (fun m => ⟨fun h => .inl h, fun h => h.elim id (fun ⟨k, k1, k2, _⟩ => by omega)⟩)
  refine ⟨r, Ev.step (fun k => impl_leastVolume.f.eq_2 ..) (ev_neg (by omega) (Ev.bind (totalC_ev xs (by omega) ho.2) e)), fun m => ?_⟩
  rw [hp]
  constructor
  ·rintro (h | ⟨k, k1, k2, k3, k4⟩)
   ·exact fit_sum (v + 1) xs m hpos hl h
   ·exact ⟨k, k1, by omega, k3, k4⟩
  ·rintro ⟨k, k1, k2, k3, k4⟩
   exact .inr ⟨k, k1, by omega, k3, k4⟩
theorem least_facts {v : Nat} {xs : List Int} {r : Int} (ho : okC xs) (hl : v + 1 ≤ xs.length) (h : IsLeast v xs r) : (∀ n ∈ xs, 1 ≤ n ∧ n ≤ r) ∧ 1 ≤ r ∧ r ≤ 1440 ∧ gV r xs 0 ≤ (v : Int) + 1 := by
 have hpos : ∀ n ∈ xs, 1 ≤ n := fun n hn => (ho.2 n hn).1
 have h12 := ho.1
 have hf := (h r).1 (Int.le_refl _)
 have hle := fit_le r v xs hpos hf
 have ha : ∀ n ∈ xs, 1 ≤ n ∧ n ≤ r := fun n hn => ⟨hpos n hn, hle n hn⟩
 have h1 : 1 ≤ r := by
  cases xs with
  | nil => simp at hl
  | cons n ns => have := ha n List.mem_cons_self; omega
 have h2 := (h xs.sum).2 (fit_sum v xs xs.sum hpos hl (Int.le_refl _))
 have h3 := sum_120 xs ho.2
 exact ⟨ha, h1, by omega, fit_g r v xs ha (by omega) hf⟩
theorem gV_pos (m : Int) : ∀ (xs : List Int), (∀ n ∈ xs, 1 ≤ n) → 1 ≤ xs.length → 1 ≤ gV m xs 0
 | [], _, h => by simp at h
 | n :: ns, h, _ => by
  have := h n List.mem_cons_self
  have := gV_nn m ns (m - n)
  rw [gV, if_pos (by omega)]; omega
theorem gV_first (m : Int) : ∀ (xs : List Int), (∀ n ∈ xs, 1 ≤ n ∧ n ≤ m) → 1 ≤ xs.length → 1 + gV m xs m = gV m xs 0
 | [], _, h => by simp at h
 | n :: ns, h, _ => by
  have := h n List.mem_cons_self
  rw [gV, gV, if_neg (by omega), if_pos (by omega)]
def volM (m : Int) (xs : List Int) : Int := if ∀ n ∈ xs, n ≤ m then gV m xs 0 else 0
theorem caVol_l (m : Int) (hm : 0 ≤ m ∧ m ≤ 100000) (xs : List Int) (hn : xs.length ≤ 1000) (hin : ∀ n ∈ xs, 1 ≤ n ∧ n ≤ 120) : ∀ (ys : List Int) (i c l : Int), 0 ≤ i → xs.drop i.toNat = ys → 0 ≤ c → c + ys.length ≤ 100000 → 0 ≤ l → l ≤ m →
  Ev (fun k => spec_caVolumes.l0 k m c l xs (xs.length : Int) i) (if ∀ n ∈ ys, n ≤ m then c + gV m ys l else 0) := by
 intro ys
 induction ys with
 | nil =>
  intro i c l h0 h _ _ _ _
  have := drop_nil h0 h
  refine Ev.step (fun k => spec_caVolumes.l0.eq_2 ..) (ev_neg (by omega) (ev_now ?_))
  rw [if_pos (by simp)]; simp [gV]
 | cons y ys ih =>
  intro i c l h0 h hc hb hl hlm
  obtain ⟨h1, h2, h3, _⟩ := drop_cons h0 h
  have hy := hin y (List.mem_of_mem_drop (by rw [h]; exact List.mem_cons_self))
  simp only [List.length_cons] at hb
  refine Ev.step (fun k => spec_caVolumes.l0.eq_2 ..) (ev_pos h1 (ev_pos h0 (ev_pos h1 ?_)))
  rw [h2, w64 (x := i + 1) (by omega) (by omega)]
  by_cases c1 : y > m
  ·refine ev_pos c1 (ev_now ?_)
   rw [if_neg (fun q => by have := q y List.mem_cons_self; omega)]
  ·have e : (∀ n ∈ y :: ys, n ≤ m) ↔ ∀ n ∈ ys, n ≤ m := ⟨fun q n hn => q n (List.mem_cons_of_mem _ hn), fun q n hn => by
    rcases List.mem_cons.1 hn with rfl | z
    ·omega
    ·exact q n z⟩
   refine ev_neg c1 ?_
   by_cases c2 : y > l
   ·refine ev_pos c2 ?_
    rw [w64 (x := c + 1) (by omega) (by omega), w64 (x := m - y) (by omega) (by omega)]
    refine ev_val (ih (i + 1) (c + 1) (m - y) (by omega) h3 (by omega) (by omega) (by omega) (by omega)) ?_
    rw [gV, if_pos c2]
    by_cases q : ∀ n ∈ ys, n ≤ m
    ·rw [if_pos q, if_pos (e.2 q)]; omega
    ·rw [if_neg q, if_neg (fun z => q (e.1 z))]
   ·refine ev_neg c2 ?_
    rw [w64 (x := l - y) (by omega) (by omega)]
    refine ev_val (ih (i + 1) c (l - y) (by omega) h3 (by omega) (by omega) (by omega) (by omega)) ?_
    rw [gV, if_neg c2]
    by_cases q : ∀ n ∈ ys, n ≤ m
    ·rw [if_pos q, if_pos (e.2 q)]
    ·rw [if_neg q, if_neg (fun z => q (e.1 z))]
theorem caVol_ev (m : Int) (hm : 0 ≤ m ∧ m ≤ 100000) (xs : List Int) (ho : okC xs) : Ev (fun k => spec_caVolumes.f k xs m) (volM m xs) := by
 have h12 := ho.1
 refine ev_val (caVol_l m hm xs (by omega) ho.2 xs 0 0 0 (by omega) rfl (by omega) (by omega) (by omega) (by omega)) ?_
 unfold volM
 by_cases q : ∀ n ∈ xs, n ≤ m
 ·rw [if_pos q, if_pos q]; omega
 ·rw [if_neg q, if_neg q]
theorem caLeast_ev (v : Nat) (xs : List Int) (r : Int) (ho : okC xs) (hl : v + 1 ≤ xs.length) (h : IsLeast v xs r) : Ev (fun k => spec_caLeast.f k xs ((v : Int) + 1)) r := by
 obtain ⟨ha, h1, h2, h3⟩ := least_facts ho hl h
 have hpos : ∀ n ∈ xs, 1 ≤ n := fun n hn => (ho.2 n hn).1
 have h12 := ho.1
 have loop : ∀ (d : Nat) (m : Int), m + d = r → 1 ≤ m → Ev (fun k => spec_caLeast.l0 k xs ((v : Int) + 1) m (volM m xs)) r := by
  intro d
  induction d with
  | zero =>
   intro m e _
   have e : m = r := by omega
   subst e
   have hp := gV_pos m xs hpos (by omega)
   have ev : volM m xs = gV m xs 0 := if_pos (fun n hn => (ha n hn).2)
   exact Ev.step (fun k => spec_caLeast.l0.eq_2 ..) (ev_neg (by omega) (ev_neg (by omega) (ev_now rfl)))
  | succ d ih =>
   intro m e hm
   have nx := ih (m + 1) (by omega) (by omega)
   have hv := caVol_ev (m + 1) (by omega) xs ho
   have hno : ¬ Fit m (v + 1) xs := fun f => by have := (h m).2 f; omega
   refine Ev.step (fun k => spec_caLeast.l0.eq_2 ..) ?_
   rw [w64 (x := m + 1) (by omega) (by omega)]
   by_cases c1 : volM m xs = 0
   ·exact ev_pos c1 (Ev.bind hv nx)
   ·refine ev_neg c1 (ev_pos ?_ (Ev.bind hv nx))
    by_cases q : ∀ n ∈ xs, n ≤ m
    ·have ev : volM m xs = gV m xs 0 := if_pos q
     have : ¬ gV m xs 0 ≤ (v : Int) + 1 := fun z => hno (g_fit m v xs (fun n hn => ⟨hpos n hn, q n hn⟩) hl z)
     omega
    ·exact absurd (if_neg q) c1
 unfold spec_caLeast.f
 exact Ev.bind (caVol_ev 1 (by omega) xs ho) (loop (r - 1).toNat 1 (by omega) (by omega))
theorem specFV_loop (r a b : Int) (hr : 0 ≤ r ∧ r ≤ 100000) (xs out : List Int) (ho : okC xs) (F : Nat) (hF : F ≤ xs.length) (ha : ¬ a = 1) (hab : wrap64 (a - 1) = b) (R : List Int × Bool) (hlt : ∀ k, 1 ≤ k → k < F → volM r (xs.drop k) > b) (hat : ¬ volM r (xs.drop F) > b) (hout : out.length ≤ 1000)
  (hend : Ev (fun k => spec_FirstVolumes.l0 k (xs.drop F) b r (out ++ [(F : Int)])) R) : ∀ (d i : Nat), i + d = F → 1 ≤ i → Ev (fun k => spec_FirstVolumes.l1 k xs a r out (i : Int)) R := by
 have h12 := ho.1
 intro d
 induction d with
 | zero =>
  intro i e h1
  have e : i = F := e
  subst e
  have hl : (i : Int) ≤ (xs.length : Int) := by omega
  have hol : out.length < 17592186044416 := by omega
  refine Ev.step (fun k => spec_FirstVolumes.l1.eq_2 ..) (ev_neg ha (ev_pos (Int.natCast_nonneg _) (ev_pos hl ?_)))
  rw [Int.toNat_natCast, hab]
  exact Ev.bind (caVol_ev r hr (xs.drop i) (okC_drop ho i)) (ev_neg hat (ev_pos hol hend))
 | succ d ih =>
  intro i e h1
  have e2 : wrap64 ((i : Int) + 1) = ((i + 1 : Nat) : Int) := by rw [w64 (by omega) (by omega)]; omega
  have hl : (i : Int) ≤ (xs.length : Int) := by omega
  have nx := ih (i + 1) (by omega) (by omega)
  have hg := hlt i h1 (by omega)
  refine Ev.step (fun k => spec_FirstVolumes.l1.eq_2 ..) (ev_neg ha (ev_pos (Int.natCast_nonneg _) (ev_pos hl ?_)))
  rw [Int.toNat_natCast, hab, e2]
  exact Ev.bind (caVol_ev r hr (xs.drop i) (okC_drop ho i)) (ev_pos hg nx)
theorem specFV_last (r a : Int) (hr : 0 ≤ r ∧ r ≤ 100000) (xs out : List Int) (ho : okC xs) (ha : a = 1) (hout : out.length ≤ 1000) : ∀ (d i : Nat), i + d = xs.length → 1 ≤ i → Ev (fun k => spec_FirstVolumes.l1 k xs a r out (i : Int)) (out ++ [(xs.length : Int)], true) := by
 have h12 := ho.1
 have ew : wrap64 (a - 1) = 0 := by rw [w64 (by omega) (by omega)]; omega
 have hol : out.length < 17592186044416 := by omega
 intro d
 induction d with
 | zero =>
  intro i e h1
  have e : i = xs.length := e
  have hv := caVol_ev r hr (xs.drop i) (okC_drop ho i)
  have e0 : xs.drop i = [] := List.drop_eq_nil_iff.2 (by omega)
  have e1 : volM r (xs.drop i) = 0 := by rw [e0]; simp [volM, gV]
  rw [e1] at hv
  have hl : (i : Int) ≤ (xs.length : Int) := by omega
  have hnl : ¬ (i : Int) < (xs.length : Int) := by omega
  refine Ev.step (fun k => spec_FirstVolumes.l1.eq_2 ..) (ev_pos ha (ev_neg hnl (ev_pos (Int.natCast_nonneg _) (ev_pos hl ?_))))
  rw [Int.toNat_natCast, ew]
  refine Ev.bind hv (ev_neg (by decide) (ev_pos hol (Ev.step (fun k => spec_FirstVolumes.l0.eq_2 ..) (ev_neg (by decide) (ev_now ?_)))))
  rw [e]
 | succ d ih =>
  intro i e h1
  have e2 : wrap64 ((i : Int) + 1) = ((i + 1 : Nat) : Int) := by rw [w64 (by omega) (by omega)]; omega
  have nx := ih (i + 1) (by omega) (by omega)
  have hl : (i : Int) < (xs.length : Int) := by omega
  refine Ev.step (fun k => spec_FirstVolumes.l1.eq_2 ..) (ev_pos ha (ev_pos hl ?_))
  rw [e2]
  exact nx
theorem one_cast : (1 : Int) = ((1 : Nat) : Int) := rfl
theorem specFV_l (r : Int) (hr : 0 ≤ r ∧ r ≤ 100000) : ∀ (v : Nat) (xs out : List Int) (a : Int), a = (v : Int) + 1 → okC xs → (∀ n ∈ xs, 1 ≤ n ∧ n ≤ r) → v + 1 ≤ xs.length → gV r xs 0 ≤ (v : Int) + 1 → out.length + v ≤ 1000 →
  Ev (fun k => spec_FirstVolumes.l0 k xs a r out) (out ++ fvs r v xs, true) := by
 intro v
 induction v with
 | zero =>
  intro xs out a ea ho hx hl hg hb
  have ha : a = 1 := ea
  have hp : a > 0 := by rw [ha]; decide
  have h := specFV_last r a hr xs out ho ha (by omega) (xs.length - 1) 1 (by omega) (by omega)
  rw [← one_cast] at h
  exact Ev.step (fun k => spec_FirstVolumes.l0.eq_2 ..) (ev_pos hp h)
 | succ v ihv =>
  intro xs out a ea ho hx hl hg hb
  have hg' : gV r xs 0 ≤ (v : Int) + 1 + 1 := hg
  have hl' : (v : Int) + 1 + 1 ≤ (xs.length : Int) := by clear hg hg' ihv; omega
  obtain ⟨f1, f2, f3, f4, f5⟩ := fk_facts r ((v : Int) + 1) (by clear hg hg' ihv; omega) xs hx hl' hg'
  have hv1 : (((v + 1 : Nat) : Int)) = (v : Int) + 1 := rfl
  rw [fvs]
  generalize fk r ((v : Int) + 1) xs = F at f1 f2 f3 f4 f5 ⊢
  clear hg hg'
  have hd : (xs.drop F).length = xs.length - F := List.length_drop
  have hld : v + 1 ≤ (xs.drop F).length := by clear f3 f4 f5 ihv; omega
  have hFl : F ≤ xs.length := by clear f3 f4 f5 ihv; omega
  have hp : a > 0 := by clear f3 f4 f5 ihv; omega
  have hne : ¬ a = 1 := by clear f3 f4 f5 ihv; omega
  have hab : wrap64 (a - 1) = (v : Int) + 1 := by
   clear f3 f4 f5 ihv
   rw [w64 (by omega) (by omega)]; omega
  have hxd : ∀ k, ∀ n ∈ xs.drop k, 1 ≤ n ∧ n ≤ r := fun k n hn => hx n (List.mem_of_mem_drop hn)
  have hvm : ∀ k, volM r (xs.drop k) = gV r (xs.drop k) 0 := fun k => if_pos (fun n hn => (hxd k n hn).2)
  have hend := ihv (xs.drop F) (out ++ [(F : Int)]) ((v : Int) + 1) rfl (okC_drop ho F) (hxd F) hld f4 (by rw [List.length_append, List.length_singleton]; clear f3 f4 f5 ihv; omega)
  rw [List.append_assoc] at hend
  have h := specFV_loop r a ((v : Int) + 1) hr xs out ho F hFl hne hab (out ++ ((F : Int) :: fvs r v (xs.drop F)), true) (fun k k1 k2 => by rw [hvm]; exact f5 k k1 k2) (by rw [hvm]; exact Int.not_lt.2 f4) (by clear f3 f4 f5 ihv; omega) hend (F - 1) 1 (by clear f3 f4 f5 ihv; omega) (Nat.le_refl _)
  rw [← one_cast] at h
  exact Ev.step (fun k => spec_FirstVolumes.l0.eq_2 ..) (ev_pos hp h)
theorem implFV_loop (r a b : Int) (xs out : List Int) (ho : okC xs) (F : Nat) (hF : F ≤ xs.length) (hab : wrap64 (a - 1) = b) (R : List Int × Bool)
  (hlt : ∀ k, 1 ≤ k → k < F → (xs.length : Int) - (k : Int) < a ∨ (xs.take k).sum > r ∨ ∃ q, Ev (fun n => impl_leastVolume.f n (xs.drop k) a) q ∧ q > r)
  (hat1 : ¬ (xs.length : Int) - (F : Int) < a) (hat2 : ¬ (xs.take F).sum > r) (hat3 : ∃ q, Ev (fun n => impl_leastVolume.f n (xs.drop F) a) q ∧ ¬ q > r) (hout : out.length ≤ 1000)
  (hend : Ev (fun k => impl_FirstVolumes.l0 k r (out ++ [(F : Int)]) (xs.drop F) b) R) : ∀ (d i : Nat), i + d = F → 1 ≤ i → Ev (fun k => impl_FirstVolumes.l1 k r out xs a (i : Int)) R := by
 have h12 := ho.1
 have ht : ∀ k, Ev (fun n => impl_total.f n (xs.take k)) (xs.take k).sum := fun k => totalC_ev (xs.take k) (by have := (okC_take ho k).1; omega) (okC_take ho k).2
 intro d
 induction d with
 | zero =>
  intro i e h1
  have e : i = F := e
  subst e
  obtain ⟨q, hq, hq2⟩ := hat3
  have hl : (i : Int) ≤ (xs.length : Int) := by omega
  have hol : out.length < 17592186044416 := by omega
  have ew : wrap64 ((xs.length : Int) - (i : Int)) = (xs.length : Int) - (i : Int) := w64 (by omega) (by omega)
  refine Ev.step (fun k => impl_FirstVolumes.l1.eq_2 ..) ?_
  rw [ew]
  refine ev_neg hat1 (ev_pos (Int.natCast_nonneg _) (ev_pos hl ?_))
  rw [Int.toNat_natCast, hab]
  exact Ev.bind (ht i) (ev_neg hat2 (Ev.bind hq (ev_neg hq2 (ev_pos hol hend))))
 | succ d ih =>
  intro i e h1
  have hiF : i < F := by omega
  have hl : (i : Int) ≤ (xs.length : Int) := by omega
  have hi1 : -9223372036854775808 ≤ (xs.length : Int) - (i : Int) ∧ (xs.length : Int) - (i : Int) ≤ 9223372036854775807 := by omega
  have hi2 : -9223372036854775808 ≤ (i : Int) + 1 ∧ (i : Int) + 1 ≤ 9223372036854775807 := by omega
  have nx := ih (i + 1) (by omega) (by omega)
  have hg := hlt i h1 hiF
  have ew : wrap64 ((xs.length : Int) - (i : Int)) = (xs.length : Int) - (i : Int) := w64 hi1.1 hi1.2
  have e2 : wrap64 ((i : Int) + 1) = ((i + 1 : Nat) : Int) := (w64 hi2.1 hi2.2).trans (Int.natCast_add i 1).symm
  refine Ev.step (fun k => impl_FirstVolumes.l1.eq_2 ..) ?_
  rw [ew, e2]
  by_cases c1 : (xs.length : Int) - (i : Int) < a
  ·exact ev_pos c1 nx
  refine ev_neg c1 (ev_pos (Int.natCast_nonneg _) (ev_pos hl ?_))
  rw [Int.toNat_natCast]
  refine Ev.bind (ht i) ?_
  by_cases c2 : (xs.take i).sum > r
  ·exact ev_pos c2 nx
  rcases hg with q | q | ⟨q, hq, hq2⟩
  ·exact absurd q c1
  ·exact absurd q c2
  ·exact ev_neg c2 (Ev.bind hq (ev_pos hq2 nx))
theorem implFV_l (r : Int) (hr : 0 ≤ r ∧ r ≤ 100000) : ∀ (v : Nat) (xs out : List Int) (a : Int), a = (v : Int) → okC xs → (∀ n ∈ xs, 1 ≤ n ∧ n ≤ r) → v + 1 ≤ xs.length → gV r xs 0 ≤ (v : Int) + 1 → out.length + v ≤ 1000 →
  Ev (fun k => impl_FirstVolumes.l0 k r out xs a) (out ++ fvs r v xs, true) := by
 intro v
 induction v with
 | zero =>
  intro xs out a ea ho hx hl hg hb
  have hz : ¬ a > 0 := by rw [ea]; decide
  have hol : out.length < 17592186044416 := by omega
  exact Ev.step (fun k => impl_FirstVolumes.l0.eq_2 ..) (ev_neg hz (ev_pos hol (ev_now rfl)))
 | succ v ihv =>
  intro xs out a ea ho hx hl hg hb
  have hg' : gV r xs 0 ≤ (v : Int) + 1 + 1 := hg
  have hl' : (v : Int) + 1 + 1 ≤ (xs.length : Int) := by clear hg hg' ihv; omega
  obtain ⟨f1, f2, f3, f4, f5⟩ := fk_facts r ((v : Int) + 1) (by clear hg hg' ihv; omega) xs hx hl' hg'
  rw [fvs]
  generalize fk r ((v : Int) + 1) xs = F at f1 f2 f3 f4 f5 ⊢
  clear hg hg'
  have ea1 : a = (v : Int) + 1 := ea
  have hd : ∀ k, (xs.drop k).length = xs.length - k := fun k => List.length_drop
  have hld : v + 1 ≤ (xs.drop F).length := by rw [hd]; clear f3 f4 f5 ihv; omega
  have hFl : F ≤ xs.length := by clear f3 f4 f5 ihv; omega
  have hp : a > 0 := by clear f3 f4 f5 ihv; omega
  have hab : wrap64 (a - 1) = (v : Int) := by
   clear f3 f4 f5 ihv
   rw [w64 (by omega) (by omega)]; omega
  have hxd : ∀ k, ∀ n ∈ xs.drop k, 1 ≤ n ∧ n ≤ r := fun k n hn => hx n (List.mem_of_mem_drop hn)
  have hlv : ∀ k, v + 1 ≤ (xs.drop k).length → ∃ q, Ev (fun n => impl_leastVolume.f n (xs.drop k) a) q ∧ IsLeast v (xs.drop k) q := fun k hk => by
   rw [ea1]; exact lv_ev v (xs.drop k) (okC_drop ho k) hk
  have hend := ihv (xs.drop F) (out ++ [(F : Int)]) (v : Int) rfl (okC_drop ho F) (hxd F) hld f4 (by rw [List.length_append, List.length_singleton]; clear f3 f4 f5 ihv; omega)
  rw [List.append_assoc] at hend
  have h := implFV_loop r a (v : Int) xs out ho F hFl hab (out ++ ((F : Int) :: fvs r v (xs.drop F)), true) (fun k k1 k2 => by
    by_cases c1 : (xs.length : Int) - (k : Int) < a
    ·exact .inl c1
    ·have hk : v + 1 ≤ (xs.drop k).length := by rw [hd]; clear f3 f4 f5 ihv hend; omega
     obtain ⟨q, hq, hq2⟩ := hlv k hk
     refine .inr (.inr ⟨q, hq, Int.not_le.1 fun c3 => ?_⟩)
     exact absurd (fit_g r v _ (hxd k) hr.1 ((hq2 r).1 c3)) (Int.not_le.2 (f5 k k1 k2)))
   (by clear f3 f4 f5 ihv hend; omega) (Int.not_lt.2 f3) (by
    obtain ⟨q, hq, hq2⟩ := hlv F hld
    exact ⟨q, hq, Int.not_lt.2 ((hq2 r).2 (g_fit r v _ (hxd F) hld f4))⟩) (by clear f3 f4 f5 ihv hend; omega) hend (F - 1) 1 (by clear f3 f4 f5 ihv hend; omega) (Nat.le_refl _)
  rw [← one_cast] at h
  exact Ev.step (fun k => impl_FirstVolumes.l0.eq_2 ..) (ev_pos hp h)
def askedB (xs : List Int) (a : Int) : Bool := goodC xs && decide (1 ≤ a ∧ a ≤ 5 ∧ a ≤ (xs.length : Int))
theorem areVol_ev (xs : List Int) (a : Int) (hn : xs.length ≤ 1048576) : Ev (fun k => impl_areVolumes.f k xs a) (askedB xs a) := by
 unfold impl_areVolumes.f askedB
 refine Ev.bind (areCh_ev xs hn) ?_
 by_cases h : goodC xs = true
 ·rw [h]
  refine ev_pos rfl (ev_some (within_eq _ _ _) (ev_now ?_))
  rw [Bool.true_and, decide_eq_decide]
  unfold mn
  split <;> omega
 ·rw [Bool.eq_false_iff.2 h]
  exact ev_neg (by simp) (ev_now rfl)
theorem caAsked_ev (xs : List Int) (a : Int) (hn : xs.length ≤ 1048576) : Ev (fun k => spec_caAsked.f k xs a) (askedB xs a) := by
 unfold spec_caAsked.f askedB
 refine Ev.bind (caGood_ev xs hn) ?_
 by_cases h : goodC xs = true
 ·rw [h]
  unfold spec_l1Least.f
  by_cases c : (5 : Int) < (xs.length : Int)
  ·refine ev_pos rfl (ev_some (if_pos c) (ev_some (l1In_eq _ _ _) (ev_now ?_)))
   rw [Bool.true_and, decide_eq_decide]; omega
  ·refine ev_pos rfl (ev_some (if_neg c) (ev_some (l1In_eq _ _ _) (ev_now ?_)))
   rw [Bool.true_and, decide_eq_decide]; omega
 ·rw [Bool.eq_false_iff.2 h]
  exact ev_neg (by simp) (ev_now rfl)
theorem askedB_true {xs : List Int} {a : Int} (h : askedB xs a = true) : okC xs ∧ ∃ v : Nat, a = (v : Int) + 1 ∧ v + 1 ≤ xs.length ∧ v ≤ 4 := by
 unfold askedB at h
 simp only [Bool.and_eq_true, decide_eq_true_eq] at h
 obtain ⟨h1, h2, h3, h4⟩ := h
 obtain ⟨g1, g2, g3⟩ := goodC_true h1
 exact ⟨⟨g2, g3⟩, (a - 1).toNat, by omega, by omega, by omega⟩
/-- what the four functions of volumes tell -/
theorem volAll (xs : List Int) (a : Int) (hn : xs.length ≤ 1048576) :
  (askedB xs a = false ∧ Ev (fun k => impl_FirstVolumes.f k xs a) ([], false) ∧ Ev (fun k => spec_FirstVolumes.f k xs a) ([], false) ∧ Ev (fun k => impl_LeastVolume.f k xs a) (0, false) ∧ Ev (fun k => spec_LeastVolume.f k xs a) (0, false)) ∨
  ∃ (v : Nat) (r : Int), okC xs ∧ goodC xs = true ∧ a = (v : Int) + 1 ∧ v + 1 ≤ xs.length ∧ v ≤ 4 ∧ IsLeast v xs r ∧ Ev (fun k => impl_FirstVolumes.f k xs a) (fvs r v xs, true) ∧ Ev (fun k => spec_FirstVolumes.f k xs a) (fvs r v xs, true) ∧ Ev (fun k => impl_LeastVolume.f k xs a) (r, true) ∧ Ev (fun k => spec_LeastVolume.f k xs a) (r, true) := by
 have h1 := areVol_ev xs a hn
 have h2 := caAsked_ev xs a hn
 unfold impl_FirstVolumes.f spec_FirstVolumes.f impl_LeastVolume.f spec_LeastVolume.f
 by_cases h : askedB xs a = true
 ·right
  have hgc : goodC xs = true := by unfold askedB at h; simp only [Bool.and_eq_true] at h; exact h.1
  obtain ⟨ho, v, rfl, hl, hv⟩ := askedB_true h
  obtain ⟨r, hr, hr2⟩ := lv_ev v xs ho hl
  obtain ⟨ha, g1, g2, g3⟩ := least_facts ho hl hr2
  have hs := caLeast_ev v xs r ho hl hr2
  have hi := implFV_l r (by omega) v xs [] _ rfl ho ha hl g3 (by simp; omega)
  have hp := specFV_l r (by omega) v xs [] _ rfl ho ha hl g3 (by simp; omega)
  rw [List.nil_append] at hi hp
  rw [h] at h1 h2
  refine ⟨v, r, ho, hgc, rfl, hl, hv, hr2, Ev.bind h1 (ev_pos rfl (Ev.bind hr ?_)), Ev.bind h2 (ev_pos rfl (Ev.bind hs hp)), Ev.bind h1 (ev_pos rfl (Ev.bind hr (ev_now rfl))), Ev.bind h2 (ev_pos rfl (Ev.bind hs (ev_now rfl)))⟩
  rw [show wrap64 ((v : Int) + 1 - 1) = (v : Int) from by rw [w64 (by omega) (by omega)]; omega]
  exact hi
 ·left
  rw [Bool.eq_false_iff.2 h] at h1 h2
  exact ⟨Bool.eq_false_iff.2 h, Ev.bind h1 (ev_neg (by simp) (ev_now rfl)), Ev.bind h2 (ev_neg (by simp) (ev_now rfl)), Ev.bind h1 (ev_neg (by simp) (ev_now rfl)), Ev.bind h2 (ev_neg (by simp) (ev_now rfl))⟩

/-! ### Texts as lists of bytes -/
def mkB (l : List UInt8) : ByteArray := ⟨l.toArray⟩
theorem mkB_data (l : List UInt8) : (mkB l).data.toList = l := by simp [mkB]
theorem mkB_size (l : List UInt8) : (mkB l).size = l.length := by simp [mkB, ByteArray.size]
theorem mkB_eq (s : ByteArray) : mkB s.data.toList = s := by cases s; simp [mkB]
theorem mkB_append (a b : List UInt8) : mkB a ++ mkB b = mkB (a ++ b) := by
 apply ByteArray.ext
 simp [mkB, ByteArray.data_append]
theorem mkB_drop (l : List UInt8) (i : Nat) : (mkB l).extract i (mkB l).size = mkB (l.drop i) := by
 apply ByteArray.ext
 apply Array.toList_inj.1
 rw [mkB_size]
 simp only [mkB, ByteArray.data_extract, List.extract_toArray, List.extract_eq_take_drop]
 rw [List.take_of_length_le (by rw [List.length_drop]; exact Nat.le_refl _)]
theorem mkB_slice (l : List UInt8) (i j : Nat) : (mkB l).extract i j = mkB ((l.take j).drop i) := by
 apply ByteArray.ext
 apply Array.toList_inj.1
 simp [mkB, ByteArray.data_extract, List.drop_take]
theorem mkB_nums (xs : List Int) : strOfNums xs = mkB (xs.map fun n => UInt8.ofNat n.toNat) := rfl
theorem mkB_inj {a b : List UInt8} (h : mkB a = mkB b) : a = b := by
 have := congrArg (fun s => s.data.toList) h
 simpa [mkB] using this
theorem bt_mkB {l : List UInt8} {i : Nat} {x : UInt8} {xs : List UInt8} (h : l.drop i = x :: xs) : bt (mkB l) (i : Int) = (x.toNat : Int) := by
 have hl : i < l.length := by
  rcases Nat.lt_or_ge i l.length with g | g
  ·exact g
  ·rw [List.drop_eq_nil_iff.2 g] at h; cases h
 have e : l[i] = x := by
  have := List.drop_eq_getElem_cons hl
  rw [h] at this
  injection this with h1 _
  exact h1.symm
 have hs : (i : Int).toNat < (mkB l).size := by rw [Int.toNat_natCast, mkB_size]; exact hl
 rw [← bt_at _ _ hs, ← e]
 rfl
theorem drop_step {α : Type} {l : List α} {i : Nat} {x : α} {xs : List α} (h : l.drop i = x :: xs) : i < l.length ∧ l.drop (i + 1) = xs := by
 have hl : i < l.length := by
  rcases Nat.lt_or_ge i l.length with g | g
  ·exact g
  ·rw [List.drop_eq_nil_iff.2 g] at h; cases h
 have := List.drop_eq_getElem_cons hl
 rw [h] at this
 injection this with _ h2
 exact ⟨hl, h2.symm⟩

theorem repeat_eq (o : List UInt8) (d : Nat) (ho : o.length ≤ 1048576) (hd : d ≤ 1048576) : strings_Repeat.f (mkB o) (d : Int) = some (mkB (Lib.repeatL o d)) := by
 unfold strings_Repeat.f
 rw [if_pos (by omega), if_pos (by omega), if_pos (by rw [mkB_size]; exact ho), Int.toNat_natCast, mkB_data]
 rfl
theorem repeatL_len (o : List UInt8) (c : Nat) : (Lib.repeatL o c).length = c * o.length := Lib.repeatL_length o c

def partM (d : Nat) (o f t : List UInt8) : List UInt8 :=
 if d = 9 then o ++ t else if 5 ≤ d then f ++ Lib.repeatL o (d - 5) else if d = 4 then o ++ f else Lib.repeatL o d
theorem partM_len (d : Nat) (hd : d ≤ 9) (o f t : List UInt8) (ho : o.length ≤ 1) (hf : f.length ≤ 1) (ht : t.length ≤ 1) : (partM d o f t).length ≤ 20 := by
 have e1 := repeatL_len o (d - 5)
 have e2 := repeatL_len o d
 have m1 : (d - 5) * o.length ≤ 9 * 1 := Nat.mul_le_mul (by omega) ho
 have m2 : d * o.length ≤ 9 * 1 := Nat.mul_le_mul hd ho
 unfold partM
 split
 ·rw [List.length_append]; omega
 ·split
  ·rw [List.length_append]; omega
  ·split
   ·rw [List.length_append]; omega
   ·omega
theorem caPart_l (o : List UInt8) (ho : o.length ≤ 1) : ∀ (d : Nat) (acc : List UInt8), acc.length + d ≤ 1000 →
  Ev (fun k => spec_caPart.l0 k (d : Int) (mkB o) (mkB acc)) (mkB (acc ++ Lib.repeatL o d)) := by
 intro d
 induction d with
 | zero =>
  intro acc _
  refine Ev.step (fun k => spec_caPart.l0.eq_2 ..) ?_
  exact ev_neg (by omega) (ev_now (by simp [Lib.repeatL]))
 | succ d ih =>
  intro acc ha
  refine Ev.step (fun k => spec_caPart.l0.eq_2 ..) ?_
  rw [w64 (x := ((d + 1 : Nat) : Int) - 1) (by omega) (by omega), show ((d + 1 : Nat) : Int) - 1 = (d : Int) from by omega, mkB_append, mkB_size, mkB_size]
  exact ev_pos (by omega) (ev_pos (by omega) (ev_val (ih (acc ++ o) (by rw [List.length_append]; omega)) (by rw [Lib.repeatL, List.append_assoc])))
theorem specPart_ev (d : Nat) (hd : d ≤ 9) (o f t : List UInt8) (ho : o.length ≤ 1) (hf : f.length ≤ 1) (ht : t.length ≤ 1) : Ev (fun k => spec_caPart.f k (d : Int) (mkB o) (mkB f) (mkB t)) (mkB (partM d o f t)) := by
 have e0 : (⟨#[]⟩ : ByteArray) = mkB [] := rfl
 unfold spec_caPart.f partM
 rw [mkB_append, mkB_append, mkB_size, mkB_size, mkB_size, e0]
 by_cases h4 : d = 4
 ·refine ev_pos (by omega) (ev_pos (by omega) (ev_now ?_))
  rw [if_neg (by omega), if_neg (by omega), if_pos h4]
 refine ev_neg (by omega) ?_
 by_cases h9 : d = 9
 ·exact ev_pos (by omega) (ev_pos (by omega) (ev_now (by rw [if_pos h9])))
 refine ev_neg (by omega) ?_
 rw [if_neg h9]
 by_cases h5 : 5 ≤ d
 ·rw [if_pos h5, w64 (x := (d : Int) - 5) (by omega) (by omega), show (d : Int) - 5 = ((d - 5 : Nat) : Int) from by omega]
  exact ev_pos (by omega) (Ev.step (fun k => spec_caPart.j0.eq_2 ..) (caPart_l o ho (d - 5) f (by omega)))
 ·rw [if_neg h5, if_neg h4]
  refine ev_neg (by omega) (Ev.step (fun k => spec_caPart.j0.eq_2 ..) ?_)
  exact ev_val (caPart_l o ho d [] (by simp; omega)) (by rw [List.nil_append])
theorem implDigit_eq (d : Nat) (hd : d ≤ 9) (o f t : List UInt8) (ho : o.length ≤ 1) (hf : f.length ≤ 1) (ht : t.length ≤ 1) : impl_digitOf.f (d : Int) (mkB o) (mkB f) (mkB t) = some (mkB (partM d o f t)) := by
 unfold impl_digitOf.f partM
 rw [mkB_append, mkB_append, mkB_size, mkB_size, mkB_size]
 by_cases h9 : d = 9
 ·rw [if_pos (by omega), if_pos (by omega), if_pos h9]
 rw [if_neg (by omega), if_neg h9]
 by_cases h5 : 5 ≤ d
 ·rw [if_pos (by omega), if_pos h5, w64 (x := (d : Int) - 5) (by omega) (by omega), show (d : Int) - 5 = ((d - 5 : Nat) : Int) from by omega, repeat_eq o (d - 5) (by omega) (by omega)]
  simp only [Option.bind_some]
  have e := repeatL_len o (d - 5)
  have m : (d - 5) * o.length ≤ 9 * 1 := Nat.mul_le_mul (by omega) ho
  rw [mkB_size, mkB_append, if_pos (by omega)]
 ·rw [if_neg (by omega), if_neg h5]
  by_cases h4 : d = 4
  ·rw [if_pos (by omega), if_pos (by omega), if_pos h4]
  ·rw [if_neg (by omega), if_neg h4, repeat_eq o d (by omega) (by omega)]
   rfl
def romanL (n : Nat) : List UInt8 := (Lib.repeatL [99] (n / 100) ++ partM (n / 10 % 10) [120] [108] [99]) ++ partM (n % 10) [105] [118] [120]
theorem specRoman_ev (n : Nat) (hn : n ≤ 399) : Ev (fun k => spec_caRoman.f k (n : Int)) (mkB (romanL n)) := by
 unfold spec_caRoman.f
 have e1 : Int.tdiv (n : Int) 100 = ((n / 100 : Nat) : Int) := by rw [Int.tdiv_eq_ediv_of_nonneg (by omega)]; omega
 have e2 : Int.tdiv (n : Int) 10 = ((n / 10 : Nat) : Int) := by rw [Int.tdiv_eq_ediv_of_nonneg (by omega)]; omega
 rw [e1, e2, w64 (x := ((n / 100 : Nat) : Int)) (by omega) (by omega), w64 (x := ((n / 10 : Nat) : Int)) (by omega) (by omega)]
 have e3 : Int.tmod ((n / 10 : Nat) : Int) 10 = ((n / 10 % 10 : Nat) : Int) := by rw [Int.tmod_eq_emod_of_nonneg (by omega)]; omega
 have e4 : Int.tmod (n : Int) 10 = ((n % 10 : Nat) : Int) := by rw [Int.tmod_eq_emod_of_nonneg (by omega)]; omega
 rw [e3, e4]
 have p1 := specPart_ev (n / 100) (by omega) [99] [100] [] (by simp) (by simp) (by simp)
 have p2 := specPart_ev (n / 10 % 10) (by omega) [120] [108] [99] (by simp) (by simp) (by simp)
 have p3 := specPart_ev (n % 10) (by omega) [105] [118] [120] (by simp) (by simp) (by simp)
 have l1 := partM_len (n / 100) (by omega) [99] [100] [] (by simp) (by simp) (by simp)
 have l2 := partM_len (n / 10 % 10) (by omega) [120] [108] [99] (by simp) (by simp) (by simp)
 have l3 := partM_len (n % 10) (by omega) [105] [118] [120] (by simp) (by simp) (by simp)
 have q : partM (n / 100) [99] [100] [] = Lib.repeatL [99] (n / 100) := by unfold partM; rw [if_neg (by omega), if_neg (by omega), if_neg (by omega)]
 rw [q] at p1 l1
 refine Ev.bind p1 (Ev.bind p2 ?_)
 rw [mkB_size, mkB_size, mkB_append]
 refine ev_pos (by omega) (Ev.bind p3 ?_)
 rw [mkB_size, mkB_size, mkB_append]
 refine ev_pos (by rw [List.length_append]; omega) (ev_now ?_)
 unfold romanL
 rfl
theorem implRoman_eq (n : Nat) (hn : n ≤ 399) : impl_roman.f (n : Int) = some (mkB (romanL n)) := by
 unfold impl_roman.f
 have e1 : Int.tdiv (n : Int) 100 = ((n / 100 : Nat) : Int) := by rw [Int.tdiv_eq_ediv_of_nonneg (by omega)]; omega
 have e2 : Int.tdiv (n : Int) 10 = ((n / 10 : Nat) : Int) := by rw [Int.tdiv_eq_ediv_of_nonneg (by omega)]; omega
 rw [e1, e2, w64 (x := ((n / 100 : Nat) : Int)) (by omega) (by omega), w64 (x := ((n / 10 : Nat) : Int)) (by omega) (by omega)]
 have e3 : Int.tmod ((n / 10 : Nat) : Int) 10 = ((n / 10 % 10 : Nat) : Int) := by rw [Int.tmod_eq_emod_of_nonneg (by omega)]; omega
 have e4 : Int.tmod (n : Int) 10 = ((n % 10 : Nat) : Int) := by rw [Int.tmod_eq_emod_of_nonneg (by omega)]; omega
 rw [e3, e4]
 have p1 : strings_Repeat.f (⟨#[99]⟩ : ByteArray) ((n / 100 : Nat) : Int) = some (mkB (Lib.repeatL [99] (n / 100))) := repeat_eq [99] (n / 100) (by simp) (by omega)
 have p2 : impl_digitOf.f ((n / 10 % 10 : Nat) : Int) (⟨#[120]⟩ : ByteArray) (⟨#[108]⟩ : ByteArray) (⟨#[99]⟩ : ByteArray) = _ := implDigit_eq (n / 10 % 10) (by omega) [120] [108] [99] (by simp) (by simp) (by simp)
 have p3 : impl_digitOf.f ((n % 10 : Nat) : Int) (⟨#[105]⟩ : ByteArray) (⟨#[118]⟩ : ByteArray) (⟨#[120]⟩ : ByteArray) = _ := implDigit_eq (n % 10) (by omega) [105] [118] [120] (by simp) (by simp) (by simp)
 have l1 := repeatL_len [99] (n / 100)
 have l2 := partM_len (n / 10 % 10) (by omega) [120] [108] [99] (by simp) (by simp) (by simp)
 have l3 := partM_len (n % 10) (by omega) [105] [118] [120] (by simp) (by simp) (by simp)
 simp only [List.length_cons, List.length_nil] at l1
 rw [p1]
 simp only [Option.bind_some]
 rw [p2]
 simp only [Option.bind_some]
 rw [mkB_size, mkB_size, mkB_append, if_pos (by omega), p3]
 simp only [Option.bind_some]
 rw [mkB_size, mkB_size, mkB_append, if_pos (by rw [List.length_append]; omega)]
 unfold romanL
 rfl

theorem foldMax_le (w : Int) : ∀ (zs : List Int) (a : Int), zs.foldl max a ≤ w ↔ a ≤ w ∧ ∀ n ∈ zs, n ≤ w
 | [], a => by simp
 | z :: zs, a => by
  rw [List.foldl_cons, foldMax_le w zs (max a z)]
  simp only [List.mem_cons, forall_eq_or_imp]
  constructor
  ·intro h; exact ⟨by omega, by omega, h.2⟩
  ·intro h; exact ⟨by omega, h.2.2⟩
theorem maxOf_le (w : Int) (zs : List Int) (h : 0 < zs.length) : Lib.maxOf zs ≤ w ↔ ∀ n ∈ zs, n ≤ w := by
 unfold Lib.maxOf
 rw [foldMax_le]
 rcases zs with _ | ⟨z, zs⟩
 ·simp at h
 ·simp only [List.headD_cons, List.mem_cons, forall_eq_or_imp]
  constructor
  ·intro q; exact ⟨q.1, q.2.2⟩
  ·intro q; exact ⟨q.1, q.1, q.2⟩
theorem romanOf_eq (n : Int) : impl_RomanOf.f n = some (if 1 ≤ n ∧ n ≤ 399 then (mkB (romanL n.toNat), true) else (⟨#[]⟩, false)) := by
 unfold impl_RomanOf.f impl_isRoman.f
 rw [within_eq]
 by_cases h : 1 ≤ n ∧ n ≤ 399
 ·have hi := implRoman_eq n.toNat (by omega)
  rw [Int.toNat_of_nonneg (by omega)] at hi
  rw [decide_eq_true h, Option.bind_some, Option.bind_some, if_pos rfl, if_pos h, hi, Option.bind_some]
 ·rw [decide_eq_false h, Option.bind_some, Option.bind_some, if_neg (by simp), if_neg h]
def romM (n : Int) : ByteArray × Bool := if 1 ≤ n ∧ n ≤ 399 then (mkB (romanL n.toNat), true) else (⟨#[]⟩, false)
theorem specRomOf_ev (n : Int) : Ev (fun k => spec_RomanOf.f k n) (romM n) := by
 unfold spec_RomanOf.f spec_caNumber.f romM
 have e : ((spec_l1In.f n 1 399).bind fun t => (some t)) = some (decide (1 ≤ n ∧ n ≤ 399)) := by rw [l1In_eq]; rfl
 refine ev_some e ?_
 by_cases h : 1 ≤ n ∧ n ≤ 399
 ·have hs := specRoman_ev n.toNat (by omega)
  rw [Int.toNat_of_nonneg (by omega)] at hs
  rw [if_pos h]
  exact ev_pos (decide_eq_true h) (Ev.bind hs (ev_now rfl))
 ·rw [if_neg h]
  exact ev_neg (by simpa using h) (ev_now rfl)
theorem longR_l (n : Nat) (hn : n ≤ 399) : ∀ (d : Nat) (i : Nat) (a b : Int), i + d = n + 1 → 1 ≤ i → 0 ≤ b → (∀ j, 1 ≤ j → j < i → ((romanL j).length : Int) ≤ b) → (0 < b → 1 ≤ a ∧ a < i ∧ b = ((romanL a.toNat).length : Int)) →
  ∃ a' b', Ev (fun k => spec_LongestRoman.l0 k (n : Int) a b (i : Int)) (a', b', true) ∧ Ev (fun k => impl_LongestRoman.l0 k (n : Int) a b (i : Int)) (a', b', true) ∧ 0 ≤ b' ∧ (∀ j, 1 ≤ j → j < n + 1 → ((romanL j).length : Int) ≤ b') ∧ (0 < b' → 1 ≤ a' ∧ a' < ((n + 1 : Nat) : Int) ∧ b' = ((romanL a'.toNat).length : Int)) := by
 intro d
 induction d with
 | zero =>
  intro i a b h h1 hb hj ha
  have e : i = n + 1 := by omega
  subst e
  exact ⟨a, b, Ev.step (fun k => spec_LongestRoman.l0.eq_2 ..) (ev_neg (by omega) (ev_now rfl)), Ev.step (fun k => impl_LongestRoman.l0.eq_2 ..) (ev_neg (by omega) (ev_now rfl)), hb, hj, ha⟩
 | succ d ih =>
  intro i a b h h1 hb hj ha
  have hs := specRoman_ev i (by omega)
  have hi := implRoman_eq i (by omega)
  have e : wrap64 ((i : Int) + 1) = ((i + 1 : Nat) : Int) := by rw [w64 (by omega) (by omega)]; omega
  have hsz : ((mkB (romanL i)).size : Int) = ((romanL i).length : Int) := by rw [mkB_size]
  by_cases c : ((mkB (romanL i)).size : Int) > b
  ·obtain ⟨a', b', g1, g2, g3, g4, g5⟩ := ih (i + 1) (i : Int) ((mkB (romanL i)).size : Int) (by omega) (by omega) (by omega) (fun j j1 j2 => by
    by_cases q : j = i
    ·subst q; omega
    ·have := hj j j1 (by omega); omega) (fun _ => ⟨by omega, by omega, by rw [hsz, Int.toNat_natCast]⟩)
   refine ⟨a', b', Ev.step (fun k => spec_LongestRoman.l0.eq_2 ..) (ev_pos (by omega) (Ev.bind hs (ev_pos c ?_))), Ev.step (fun k => impl_LongestRoman.l0.eq_2 ..) (ev_pos (by omega) (ev_some hi (ev_pos c ?_))), g3, g4, g5⟩
   ·rw [e]; exact g1
   ·rw [e]; exact g2
  ·obtain ⟨a', b', g1, g2, g3, g4, g5⟩ := ih (i + 1) a b (by omega) (by omega) hb (fun j j1 j2 => by
    by_cases q : j = i
    ·subst q; omega
    ·exact hj j j1 (by omega)) (fun z => by have := ha z; exact ⟨this.1, by omega, this.2.2⟩)
   refine ⟨a', b', Ev.step (fun k => spec_LongestRoman.l0.eq_2 ..) (ev_pos (by omega) (Ev.bind hs (ev_neg c ?_))), Ev.step (fun k => impl_LongestRoman.l0.eq_2 ..) (ev_pos (by omega) (ev_some hi (ev_neg c ?_))), g3, g4, g5⟩
   ·rw [e]; exact g1
   ·rw [e]; exact g2
theorem longRom (n : Int) : ∃ a b, Ev (fun k => impl_LongestRoman.f k n) (a, b, decide (1 ≤ n ∧ n ≤ 399)) ∧ Ev (fun k => spec_LongestRoman.f k n) (a, b, decide (1 ≤ n ∧ n ≤ 399)) ∧ (1 ≤ n ∧ n ≤ 399 → 1 ≤ a ∧ a ≤ n ∧ b = ((romanL a.toNat).length : Int) ∧ ((romanL n.toNat).length : Int) ≤ b) := by
 unfold spec_LongestRoman.f impl_LongestRoman.f spec_caNumber.f impl_isRoman.f
 have e1 : ((spec_l1In.f n 1 399).bind fun t => (some t)) = some (decide (1 ≤ n ∧ n ≤ 399)) := by rw [l1In_eq]; rfl
 have e2 : ((impl_within.f n 1 399).bind fun t => (some t)) = some (decide (1 ≤ n ∧ n ≤ 399)) := by rw [within_eq]; rfl
 by_cases h : 1 ≤ n ∧ n ≤ 399
 ·obtain ⟨a, b, h1, h2, h3, h4, h5⟩ := longR_l n.toNat (by omega) n.toNat 1 0 0 (by omega) (by omega) (by omega) (by omega) (by omega)
  rw [Int.toNat_of_nonneg (by omega)] at h1 h2
  have hone : ((romanL 1).length : Int) = 1 := by decide
  have := h4 1 (by omega) (by omega)
  have h6 := h5 (by omega)
  have h7 := h4 n.toNat (by omega) (by omega)
  rw [decide_eq_true h] at e1 e2 ⊢
  exact ⟨a, b, ev_some e2 (ev_pos rfl h2), ev_some e1 (ev_pos rfl h1), fun _ => ⟨h6.1, by omega, h6.2.2, h7⟩⟩
 ·rw [decide_eq_false h] at e1 e2 ⊢
  exact ⟨0, 0, ev_some e2 (ev_neg (by simp) (ev_now rfl)), ev_some e1 (ev_neg (by simp) (ev_now rfl)), fun q => absurd q h⟩
/-- which number is told: the first one whose letters these are -/
def numR (s : List UInt8) : Nat → Nat → Int × Bool
 | 0, _ => (0, false)
 | d + 1, n => if romanL n = s then ((n : Int), true) else numR s d (n + 1)
theorem toList_mkB (l : List UInt8) : (mkB l).toList = l := by
 rw [ByteArray.toList_eq, mkB_data]
theorem implNum_l (x : ByteArray) : ∀ (d n : Nat), n + d = 400 → 1 ≤ n → Ev (fun k => impl_NumberOfRoman.l0 k x (n : Int)) (numR x.toList d n) := by
 intro d
 induction d with
 | zero =>
  intro n h h1
  have e : ((impl_within.f (n : Int) 1 399).bind fun t => (some t)) = some (decide (1 ≤ (n : Int) ∧ (n : Int) ≤ 399)) := by rw [within_eq]; rfl
  refine Ev.step (fun k => impl_NumberOfRoman.l0.eq_2 ..) ?_
  unfold impl_isRoman.f
  exact ev_some e (ev_neg (by simp; omega) (ev_now rfl))
 | succ d ih =>
  intro n h h1
  have e : ((impl_within.f (n : Int) 1 399).bind fun t => (some t)) = some (decide (1 ≤ (n : Int) ∧ (n : Int) ≤ 399)) := by rw [within_eq]; rfl
  have e2 : wrap64 ((n : Int) + 1) = ((n + 1 : Nat) : Int) := by rw [w64 (by omega) (by omega)]; omega
  have hi := implRoman_eq n (by omega)
  refine Ev.step (fun k => impl_NumberOfRoman.l0.eq_2 ..) ?_
  unfold impl_isRoman.f
  refine ev_some e (ev_pos (by simp; omega) (ev_some hi ?_))
  rw [numR, toList_mkB, e2]
  by_cases c : romanL n = x.toList
  ·rw [if_pos c]; exact ev_pos c (ev_now rfl)
  ·rw [if_neg c]; exact ev_neg c (ih (n + 1) (by omega) (by omega))
theorem specNum_l (x : ByteArray) : ∀ (d n : Nat), n + d = 400 → 1 ≤ n → Ev (fun k => spec_NumberOfRoman.l0 k x (n : Int)) (numR x.toList d n) := by
 intro d
 induction d with
 | zero =>
  intro n h h1
  exact Ev.step (fun k => spec_NumberOfRoman.l0.eq_2 ..) (ev_neg (by omega) (ev_now rfl))
 | succ d ih =>
  intro n h h1
  have e2 : wrap64 ((n : Int) + 1) = ((n + 1 : Nat) : Int) := by rw [w64 (by omega) (by omega)]; omega
  have hs := specRoman_ev n (by omega)
  refine Ev.step (fun k => spec_NumberOfRoman.l0.eq_2 ..) (ev_pos (by omega) (Ev.bind hs ?_))
  rw [numR, toList_mkB, e2]
  by_cases c : romanL n = x.toList
  ·rw [if_pos c]; exact ev_pos c (ev_now rfl)
  ·rw [if_neg c]; exact ev_neg c (ih (n + 1) (by omega) (by omega))
theorem numR_true (s : List UInt8) : ∀ (d n : Nat), n + d = 400 → 1 ≤ n → numR s d n = (0, false) ∨ ∃ j : Nat, 1 ≤ j ∧ j ≤ 399 ∧ romanL j = s ∧ numR s d n = ((j : Int), true)
 | 0, _, _, _ => .inl rfl
 | d + 1, n, h, h1 => by
  rw [numR]
  by_cases c : romanL n = s
  ·rw [if_pos c]; exact .inr ⟨n, h1, by omega, c, rfl⟩
  ·rw [if_neg c]; exact numR_true s d (n + 1) (by omega) (by omega)
def valR (c : UInt8) : Nat := if c.toNat = 99 then 100 else if c.toNat = 120 then 10 else if c.toNat = 105 then 1 else if c.toNat = 108 then 50 else 5
def decR : List UInt8 → Nat
 | [] => 0
 | a :: t => if valR a < valR (t.headD 105) then decR t - valR a else valR a + decR t
set_option maxRecDepth 100000 in
theorem dec_roman : ∀ n, n < 400 → decR (romanL n) = n := by decide +kernel
theorem numR_ok (m : Nat) (h1 : 1 ≤ m) (h2 : m ≤ 399) : numR (romanL m) 399 1 = ((m : Int), true) := by
 have go : ∀ (d n : Nat), n + d = 400 → n ≤ m → numR (romanL m) d n = ((m : Int), true) := by
  intro d
  induction d with
  | zero => intro n h q; omega
  | succ d ih =>
   intro n h q
   rw [numR]
   by_cases c : romanL n = romanL m
   ·have := congrArg decR c
    rw [dec_roman n (by omega), dec_roman m (by omega)] at this
    rw [if_pos c, this]
   ·rw [if_neg c]
    exact ih (n + 1) (by omega) (by
     by_cases e : n = m
     ·exact absurd (by rw [e]) c
     ·omega)
 exact go 399 1 (by omega) h1
theorem xTexts_l (l : List ByteArray) (hn : l.length ≤ 1048576) : ∀ (ys : List ByteArray) (i : Int), 0 ≤ i → l.drop i.toNat = ys → Ev (fun k => laws_xTexts.l0 k l l (l.length : Int) i) true := by
 intro ys
 induction ys with
 | nil =>
  intro i h0 h
  have := drop_nil h0 h
  exact Ev.step (fun k => laws_xTexts.l0.eq_2 ..) (ev_neg (by omega) (ev_now rfl))
 | cons y ys ih =>
  intro i h0 h
  obtain ⟨h1, _, h3, _⟩ := drop_get h0 h
  refine Ev.step (fun k => laws_xTexts.l0.eq_2 ..) (ev_pos h1 (ev_pos h0 (ev_pos h1 (ev_pos h1 (ev_pos rfl ?_)))))
  rw [w64 (x := i + 1) (by omega) (by omega)]
  exact ih (i + 1) (by omega) h3
theorem xTexts_ev (l : List ByteArray) (hn : l.length ≤ 1048576) : Ev (fun k => laws_xTexts.f k l l) true := by
 unfold laws_xTexts.f
 exact ev_pos rfl (xTexts_l l hn l 0 (by omega) rfl)
/-- the fewest volumes -/
def fewB (xs : List Int) (m : Int) : Bool := goodC xs && (decide (1 ≤ m ∧ m ≤ 1440) && decide (∀ n ∈ xs, n ≤ m))
def fewV (xs : List Int) (m : Int) : Int × Bool := if fewB xs m = true then (gV m xs 0, true) else (0, false)
theorem fewB_true {xs : List Int} {m : Int} (h : fewB xs m = true) : okC xs ∧ 1 ≤ xs.length ∧ (1 ≤ m ∧ m ≤ 1440) ∧ (∀ n ∈ xs, 1 ≤ n ∧ n ≤ m) ∧ goodC xs = true := by
 unfold fewB at h
 simp only [Bool.and_eq_true, decide_eq_true_eq] at h
 obtain ⟨h1, h2, h3⟩ := h
 obtain ⟨g1, g2, g3⟩ := goodC_true h1
 exact ⟨⟨g2, g3⟩, g1, h2, fun n hn => ⟨(g3 n hn).1, h3 n hn⟩, h1⟩
theorem specFew_ev (xs : List Int) (m : Int) (hn : xs.length ≤ 1048576) : Ev (fun k => spec_FewestVolumes.f k xs m) (fewV xs m) := by
 unfold spec_FewestVolumes.f fewV
 refine Ev.bind (caGood_ev xs hn) ?_
 by_cases h1 : goodC xs = true
 ·obtain ⟨g1, g2, g3⟩ := goodC_true h1
  refine ev_pos h1 (ev_some (l1In_eq _ _ _) ?_)
  by_cases h2 : 1 ≤ m ∧ m ≤ 1440
  ·refine ev_pos (decide_eq_true h2) (Ev.bind (caVol_ev m (by omega) xs ⟨g2, g3⟩) (ev_now ?_))
   by_cases h3 : ∀ n ∈ xs, n ≤ m
   ·have hp := gV_pos m xs (fun n hn => (g3 n hn).1) g1
    have ev : volM m xs = gV m xs 0 := if_pos h3
    rw [if_pos (by unfold fewB; rw [h1, decide_eq_true h2, decide_eq_true h3]; rfl), ev, decide_eq_true (by omega)]
   ·have ev : volM m xs = 0 := if_neg h3
    rw [if_neg (by unfold fewB; rw [decide_eq_false h3]; simp), ev]; rfl
  ·rw [if_neg (by unfold fewB; rw [decide_eq_false h2]; simp)]
   exact ev_neg (by simpa using h2) (ev_now rfl)
 ·rw [if_neg (by unfold fewB; rw [Bool.eq_false_iff.2 h1]; simp)]
  exact ev_neg h1 (ev_now rfl)
theorem implFew_l (m : Int) (hm : 1 ≤ m ∧ m ≤ 1440) (xs : List Int) (hn : xs.length ≤ 1000) (hin : ∀ n ∈ xs, 1 ≤ n ∧ n ≤ m) : ∀ (ys : List Int) (i c u : Int), 0 ≤ i → xs.drop i.toNat = ys → 0 ≤ c → c + ys.length ≤ 100000 → 0 ≤ u → u ≤ m →
  Ev (fun k => impl_FewestVolumes.l0 k m c u xs (xs.length : Int) i) (c + gV m ys (m - u), true) := by
 intro ys
 induction ys with
 | nil =>
  intro i c u h0 h _ _ _ _
  have := drop_nil h0 h
  refine Ev.step (fun k => impl_FewestVolumes.l0.eq_2 ..) (ev_neg (by omega) (ev_now ?_))
  rw [gV, Int.add_zero]
 | cons y ys ih =>
  intro i c u h0 h hc hb hu hum
  obtain ⟨h1, h2, h3, _⟩ := drop_cons h0 h
  have hy := hin y (List.mem_of_mem_drop (by rw [h]; exact List.mem_cons_self))
  simp only [List.length_cons] at hb
  refine Ev.step (fun k => impl_FewestVolumes.l0.eq_2 ..) (ev_pos h1 (ev_pos h0 (ev_pos h1 ?_)))
  rw [h2, w64 (x := i + 1) (by omega) (by omega), w64 (x := u + y) (by omega) (by omega), w64 (x := 0 + y) (by omega) (by omega), w64 (x := c + 1) (by omega) (by omega), gV]
  by_cases c1 : u + y > m
  ·rw [if_pos (by omega)]
   refine ev_pos c1 (ev_val (ih (i + 1) (c + 1) (0 + y) (by omega) h3 (by omega) (by omega) (by omega) (by omega)) ?_)
   rw [show m - (0 + y) = m - y from by omega, Int.add_assoc]
  ·rw [if_neg (by omega)]
   refine ev_neg c1 (ev_val (ih (i + 1) c (u + y) (by omega) h3 (by omega) (by omega) (by omega) (by omega)) ?_)
   rw [show m - (u + y) = m - u - y from by omega]
theorem implFew_ev (xs : List Int) (m : Int) (hn : xs.length ≤ 1048576) : Ev (fun k => impl_FewestVolumes.f k xs m) (fewV xs m) := by
 have fall : ∀ b : Bool, b = true → fewB xs m = false → Ev (fun k => impl_FewestVolumes.j0 k xs m b) (fewV xs m) := fun b hb hf => by
  refine Ev.step (fun k => impl_FewestVolumes.j0.eq_2 ..) (ev_pos hb (ev_now ?_))
  unfold fewV; rw [hf]; rfl
 unfold impl_FewestVolumes.f
 refine Ev.bind (areCh_ev xs hn) ?_
 by_cases h1 : goodC xs = true
 ·obtain ⟨g1, g2, g3⟩ := goodC_true h1
  refine ev_pos h1 (ev_some (within_eq _ _ _) ?_)
  by_cases h2 : 1 ≤ m ∧ m ≤ 1440
  ·refine ev_pos (decide_eq_true h2) (ev_some (show slices_Max_int_int.f xs = some (Lib.maxOf xs) from by unfold slices_Max_int_int.f; rw [if_pos (by omega)]) ?_)
   by_cases h3 : ∀ n ∈ xs, n ≤ m
   ·have hb : fewB xs m = true := by unfold fewB; rw [h1, decide_eq_true h2, decide_eq_true h3]; rfl
    have hx : ∀ n ∈ xs, 1 ≤ n ∧ n ≤ m := fun n hn => ⟨(g3 n hn).1, h3 n hn⟩
    have hmx : ¬ Lib.maxOf xs > m := by have := (maxOf_le m xs (by omega)).2 h3; omega
    refine Ev.step (fun k => impl_FewestVolumes.j0.eq_2 ..) (ev_neg (by simpa using hmx) ?_)
    refine ev_val (implFew_l m h2 xs (by omega) hx xs 0 1 0 (by omega) rfl (by omega) (by omega) (by omega) (by omega)) ?_
    unfold fewV
    rw [if_pos hb, Int.sub_zero, gV_first m xs hx g1]
   ·have hmx : Lib.maxOf xs > m := by
     by_cases q : Lib.maxOf xs > m
     ·exact q
     ·exact absurd ((maxOf_le m xs (by omega)).1 (by omega)) h3
    exact fall _ (decide_eq_true hmx) (by unfold fewB; rw [decide_eq_false h3]; simp)
  ·exact ev_neg (by simpa using h2) (fall _ rfl (by unfold fewB; rw [decide_eq_false h2]; simp))
 ·exact ev_neg h1 (fall _ rfl (by unfold fewB; rw [Bool.eq_false_iff.2 h1]; simp))

/-! ### A cursor's draws: they end, and what they draw is small -/
def Dr {α : Type} (P : α → Prop) (B : Int) (g : Nat → Option (α × Int × Int)) : Prop := ∃ p : α × Int × Int, Ev g p ∧ P p.1 ∧ 0 ≤ p.2.1 ∧ p.2.1 ≤ B
theorem Dr.bind {α β : Type} {P : α → Prop} {Q : β → Prop} {B C : Int} {g : Nat → Option (α × Int × Int)} {f : Nat → (α × Int × Int) → Option (β × Int × Int)} (h : Dr P B g) (k : ∀ p : α × Int × Int, P p.1 → 0 ≤ p.2.1 → p.2.1 ≤ B → Dr Q C (fun n => f n p)) : Dr Q C (fun n => (g n).bind (f n)) := by
 obtain ⟨p, h1, h2, h3, h4⟩ := h
 obtain ⟨q, k1, k2, k3, k4⟩ := k p h2 h3 h4
 exact ⟨q, Ev.bind h1 k1, k2, k3, k4⟩
theorem Dr.now {α : Type} {P : α → Prop} {B : Int} {r : α} {a s : Int} (h : P r) (h0 : 0 ≤ a) (h1 : a ≤ B) : Dr P B (fun _ => some (r, a, s)) := ⟨(r, a, s), ev_now rfl, h, h0, h1⟩
theorem Dr.pos {α : Type} {P : α → Prop} {B : Int} {c : Prop} [Decidable c] {f g : Nat → Option (α × Int × Int)} (hc : c) (h : Dr P B f) : Dr P B (fun k => if c then f k else g k) := by
 simpa only [if_pos hc] using h
theorem Dr.neg {α : Type} {P : α → Prop} {B : Int} {c : Prop} [Decidable c] {f g : Nat → Option (α × Int × Int)} (hc : ¬ c) (h : Dr P B g) : Dr P B (fun k => if c then f k else g k) := by
 simpa only [if_neg hc] using h
theorem Dr.step {α : Type} {P : α → Prop} {B : Int} {g f : Nat → Option (α × Int × Int)} (h : ∀ k, g (k + 1) = f k) (k : Dr P B f) : Dr P B g := by
 obtain ⟨p, k1, k2⟩ := k
 exact ⟨p, Ev.step h k1, k2⟩
theorem Dr.mono {α : Type} {P Q : α → Prop} {B C : Int} {g : Nat → Option (α × Int × Int)} (h : Dr P B g) (hP : ∀ r, P r → Q r) (hB : B ≤ C) : Dr Q C g := by
 obtain ⟨p, h1, h2, h3, h4⟩ := h
 exact ⟨p, h1, hP _ h2, h3, by omega⟩
theorem Dr.some {α : Type} {γ : Type} {P : α → Prop} {B : Int} {x : Option γ} {y : γ} {f : Nat → γ → Option (α × Int × Int)} (h : x = Option.some y) (k : Dr P B (fun n => f n y)) : Dr P B (fun n => x.bind (f n)) := by
 subst h; exact k
def byteL (c : List Int) : Prop := ∀ x ∈ c, 0 ≤ x ∧ x ≤ 255
theorem byte_rd {c : List Int} (hc : byteL c) (i : Int) : 0 ≤ rd c i ∧ rd c i ≤ 255 := by
 unfold rd
 rw [List.getD_eq_getElem?_getD]
 rcases h : c[i.toNat]? with _ | x
 ·simp
 ·exact hc x (List.mem_of_getElem? h)
theorem b255 (z : Int) (h : 0 ≤ z) (h2 : z < 18446744073709551616) : 0 ≤ Go.bits .and .u64 z 255 ∧ Go.bits .and .u64 z 255 ≤ 255 := by
 obtain ⟨n, rfl⟩ : ∃ n : Nat, z = n := ⟨z.toNat, by omega⟩
 have e := bits_and_u64_nat n 255 (by omega) (by omega)
 have e2 : ((255 : Nat) : Int) = 255 := rfl
 rw [e2] at e
 rw [e]
 have := Nat.and_le_right (n := n) (m := 255)
 omega
theorem u64r (z : Int) : 0 ≤ IntKind.u64.wrap z ∧ IntKind.u64.wrap z < 18446744073709551616 := by
 have e : IntKind.u64.wrap z = z % 18446744073709551616 := by simp [IntKind.wrap, IntKind.signed, IntKind.bits]
 rw [e]; omega
theorem next_ok (c : List Int) (hc : byteL c) (a s : Int) (h0 : 0 ≤ a) (h1 : a ≤ 1000000000) : ∃ r s', spec_l1Cur_next.f c a s = some (r, a + 1, s') ∧ 0 ≤ r ∧ r ≤ 255 := by
 unfold spec_l1Cur_next.f
 rw [w64 (x := a + 1) (by omega) (by omega)]
 have hb := byte_rd hc a
 have hz : ∀ z : Int, 0 ≤ wrap64 (Go.bits .and .u64 (IntKind.u64.wrap z / 1099511627776) 255) ∧ wrap64 (Go.bits .and .u64 (IntKind.u64.wrap z / 1099511627776) 255) ≤ 255 := fun z => by
  have h := u64r z
  have := b255 (IntKind.u64.wrap z / 1099511627776) (by omega) (by omega)
  rw [w64 (by omega) (by omega)]; exact this
 by_cases c1 : a < (c.length : Int)
 ·by_cases c2 : a + 1 ≤ (c.length : Int)
  ·exact ⟨_, _, by rw [if_pos c1, if_pos h0, if_pos c2], by rw [w64 (by omega) (by omega)]; exact hb⟩
  ·exact ⟨_, _, by rw [if_pos c1, if_pos h0, if_neg c2], hz _⟩
 ·by_cases c2 : a + 1 ≤ (c.length : Int)
  ·exact ⟨_, _, by rw [if_neg c1, if_pos c2], by omega⟩
  ·exact ⟨_, _, by rw [if_neg c1, if_neg c2], hz _⟩
theorem pick_ok (c : List Int) (hc : byteL c) (a s n : Int) (h0 : 0 ≤ a) (h1 : a ≤ 1000000) (hn : n ≤ 1000000) : ∃ r a' s', spec_l1Cur_pick.f c a s n = some (r, a', s') ∧ (0 ≤ r ∧ (r < n ∨ r = 0)) ∧ 0 ≤ a' ∧ a' ≤ a + 2 := by
 unfold spec_l1Cur_pick.f
 by_cases c1 : n ≤ 1
 ·exact ⟨0, a, s, by rw [if_pos c1], by omega, h0, by omega⟩
 obtain ⟨x, s1, e1, x0, x1⟩ := next_ok c hc a s h0 (by omega)
 by_cases c2 : n > 200
 ·obtain ⟨y, s2, e2, y0, y1⟩ := next_ok c hc (a + 1) s1 (by omega) (by omega)
  have hm : Int.tmod (x * 256 + y) n = (x * 256 + y) % n := Int.tmod_eq_emod_of_nonneg (by omega)
  have hr0 := Int.emod_nonneg (x * 256 + y) (by omega : n ≠ 0)
  have hr1 := Int.emod_lt_of_pos (x * 256 + y) (by omega : 0 < n)
  refine ⟨(x * 256 + y) % n, a + 2, s2, ?_, by omega, by omega, by omega⟩
  rw [if_neg c1, e1]
  simp only [Option.bind_some]
  rw [if_pos c2, e2]
  simp only [Option.bind_some]
  rw [if_neg (by omega), w64 (x := x * 256) (by omega) (by omega), w64 (by omega) (by omega), hm, show a + 1 + 1 = a + 2 from by omega]
 ·have hm : Int.tmod x n = x % n := Int.tmod_eq_emod_of_nonneg (by omega)
  have hr0 := Int.emod_nonneg x (by omega : n ≠ 0)
  have hr1 := Int.emod_lt_of_pos x (by omega : 0 < n)
  refine ⟨x % n, a + 1, s1, ?_, by omega, by omega, by omega⟩
  rw [if_neg c1, e1]
  simp only [Option.bind_some]
  rw [if_neg c2, if_neg (by omega), hm]
theorem pick_dr (c : List Int) (hc : byteL c) (a s n B : Int) (h0 : 0 ≤ a) (h1 : a ≤ B) (hB : B ≤ 1000000) (hn : n ≤ 1000000) : Dr (fun r => 0 ≤ r ∧ (r < n ∨ r = 0)) (B + 2) (fun _ => spec_l1Cur_pick.f c a s n) := by
 obtain ⟨r, a', s', e, h2, h3, h4⟩ := pick_ok c hc a s n h0 (by omega) hn
 exact ⟨(r, a', s'), by rw [e]; exact ev_now rfl, h2, h3, by show a' ≤ B + 2; omega⟩
theorem one_dr (c : List Int) (hc : byteL c) (a s n B : Int) (h0 : 0 ≤ a) (h1 : a ≤ B) (hB : B ≤ 1000000) (hn : n ≤ 1000000) : Dr (fun _ => True) (B + 2) (fun _ => spec_l1Cur_one.f c a s n) := by
 unfold spec_l1Cur_one.f
 exact Dr.bind (pick_dr c hc a s n B h0 h1 hB hn) fun p3 _ h3 h4 => Dr.now trivial h3 h4
theorem among_dr (c : List Int) (hc : byteL c) (a s B : Int) (l : List Int) (hl : 1 ≤ l.length) (hl2 : l.length ≤ 1000000) (h0 : 0 ≤ a) (h1 : a ≤ B) (hB : B ≤ 1000000) : Dr (fun _ => True) (B + 2) (fun _ => spec_l1Cur_among.f c a s l) := by
 unfold spec_l1Cur_among.f
 refine Dr.bind (pick_dr c hc a s _ B h0 h1 hB (by omega)) fun p3 h2 h3 h4 => ?_
 exact Dr.pos h2.1 (Dr.pos (by omega) (Dr.now trivial h3 h4))

theorem sureCh_l (c : List Int) (hc : byteL c) : ∀ (m : Nat) (out : List Int) (a s B : Int), 0 ≤ a → a ≤ B → B + 2 * m ≤ 1000000 → out.length + m ≤ 1000 → (∀ x ∈ out, 1 ≤ x ∧ x ≤ 30) →
  Dr (fun r => r.length ≤ out.length + m ∧ ∀ x ∈ r, 1 ≤ x ∧ x ≤ 30) (B + 2 * m) (fun k => spec_l1Cur_sureChapters.l0 k out (m : Int) c a s) := by
 intro m
 induction m with
 | zero =>
  intro out a s B h0 h1 hB ho hx
  exact Dr.step (fun k => spec_l1Cur_sureChapters.l0.eq_2 ..) (Dr.neg (by omega) (Dr.now ⟨by simp, hx⟩ h0 (by omega)))
 | succ m ih =>
  intro out a s B h0 h1 hB ho hx
  refine Dr.step (fun k => spec_l1Cur_sureChapters.l0.eq_2 ..) (Dr.pos (by omega) (Dr.bind (pick_dr c hc a s 30 B h0 h1 (by omega) (by omega)) fun p3 h2 h3 h4 => ?_))
  refine Dr.pos (by omega) ?_
  have e : wrap64 (((m + 1 : Nat) : Int) - 1) = (m : Int) := by rw [w64 (by omega) (by omega)]; omega
  rw [e]
  refine (ih (out ++ [wrap64 (1 + p3.1)]) p3.2.1 p3.2.2 (B + 2) h3 h4 (by omega) (by simp; omega) ?_).mono (fun _ h => ⟨by have := h.1; simp at this; omega, h.2⟩) (by omega)
  intro x hx2
  rcases List.mem_append.1 hx2 with h | h
  ·exact hx x h
  ·simp at h
   rw [h, w64 (by omega) (by omega)]; omega
theorem sureCh_dr (c : List Int) (hc : byteL c) (a s B n : Int) (h0 : 0 ≤ a) (h1 : a ≤ B) (hB : B ≤ 900000) (hn0 : 1 ≤ n) (hn : n ≤ 100) : Dr (fun r => r.length ≤ 100 ∧ ∀ x ∈ r, 1 ≤ x ∧ x ≤ 30) (B + 300) (fun k => spec_l1Cur_sureChapters.f k c a s n) := by
 unfold spec_l1Cur_sureChapters.f
 refine Dr.bind (pick_dr c hc a s n B h0 h1 (by omega) (by omega)) fun p3 h2 h3 h4 => ?_
 have e : wrap64 (1 + p3.1) = ((p3.1 + 1).toNat : Int) := by rw [w64 (by omega) (by omega)]; omega
 rw [e]
 exact (sureCh_l c hc (p3.1 + 1).toNat [] p3.2.1 p3.2.2 (B + 2) h3 h4 (by omega) (by simp; omega) (by simp)).mono (fun _ h => ⟨by have := h.1; simp at this; omega, h.2⟩) (by omega)
theorem ch_l (c : List Int) (hc : byteL c) : ∀ (d : Nat) (out : List Int) (a s B : Int), 0 ≤ a → a ≤ B → B + 2 * d + 2 ≤ 1000000 → 200 ≤ out.length + d → out.length ≤ 200 →
  Dr (fun r => r.length ≤ 200) (B + 2 * d + 2) (fun k => spec_l1Cur_chapters.l0 k out c a s) := by
 intro d
 induction d with
 | zero =>
  intro out a s B h0 h1 hB ho ho2
  refine Dr.step (fun k => spec_l1Cur_chapters.l0.eq_2 ..) (Dr.bind (pick_dr c hc a s 2 B h0 h1 (by omega) (by omega)) fun p3 h2 h3 h4 => ?_)
  exact Dr.neg (by rw [w64 (by omega) (by omega)]; omega) (Dr.now ho2 h3 (by omega))
 | succ d ih =>
  intro out a s B h0 h1 hB ho ho2
  refine Dr.step (fun k => spec_l1Cur_chapters.l0.eq_2 ..) (Dr.bind (pick_dr c hc a s 2 B h0 h1 (by omega) (by omega)) fun p3 h2 h3 h4 => ?_)
  by_cases q : (out.length : Int) < wrap64 (12 + p3.1)
  ·rw [w64 (by omega) (by omega)] at q
   refine Dr.pos (by rw [w64 (by omega) (by omega)]; exact q) (Dr.pos (by omega) ?_)
   exact (ih (out ++ [7]) p3.2.1 p3.2.2 (B + 2) h3 h4 (by omega) (by simp; omega) (by simp; omega)).mono (fun _ h => h) (by omega)
  ·exact Dr.neg q (Dr.now ho2 h3 (by omega))
theorem ch_dr (c : List Int) (hc : byteL c) (a s B : Int) (h0 : 0 ≤ a) (h1 : a ≤ B) (hB : B ≤ 500000) : Dr (fun r => r.length ≤ 200) (B + 1000) (fun k => spec_l1Cur_chapters.f k c a s) := by
 unfold spec_l1Cur_chapters.f
 refine Dr.bind (sureCh_dr c hc a s B 7 h0 h1 (by omega) (by omega) (by omega)) fun p3 ho h3 h4 => ?_
 refine Dr.bind (pick_dr c hc p3.2.1 p3.2.2 20 (B + 300) h3 h4 (by omega) (by omega)) fun p5 _ h5 h6 => ?_
 have hl := ho.1
 by_cases c1 : p5.1 = 0
 ·exact Dr.pos c1 (Dr.now (by simp) h5 (by omega))
 refine Dr.neg c1 ?_
 by_cases c2 : p5.1 = 1
 ·refine Dr.pos c2 (Dr.bind (among_dr c hc p5.2.1 p5.2.2 (B + 302) _ (by simp) (by simp) h5 (by omega) (by omega)) fun p7 _ h7 h8 => ?_)
  exact Dr.pos (by omega) (Dr.now (by simp; omega) h7 (by omega))
 refine Dr.neg c2 ?_
 by_cases c3 : p5.1 = 2
 ·exact Dr.pos c3 ((ch_l c hc 200 p3.1 p5.2.1 p5.2.2 (B + 302) h5 (by omega) (by omega) (by omega) (by omega)).mono (fun _ h => h) (by omega))
 ·exact Dr.neg c3 (Dr.now (by omega) h5 (by omega))

theorem of_dr (c : List Int) (hc : byteL c) (a s B : Int) (l : List ByteArray) (N : Nat) (hN : ∀ x ∈ l, x.size ≤ N) (hl : 1 ≤ l.length) (hl2 : l.length ≤ 1000000) (h0 : 0 ≤ a) (h1 : a ≤ B) (hB : B ≤ 1000000) : Dr (fun r => r.size ≤ N) (B + 2) (fun _ => spec_l1Cur_of.f c a s l) := by
 unfold spec_l1Cur_of.f
 refine Dr.bind (pick_dr c hc a s _ B h0 h1 hB (by omega)) fun p3 h2 h3 h4 => ?_
 refine Dr.pos h2.1 (Dr.pos (by omega) (Dr.now ?_ h3 h4))
 have hr : p3.1.toNat < l.length := by omega
 refine hN _ ?_
 show rdOf ByteArray.empty l p3.1 ∈ l
 unfold rdOf
 rw [List.getD_eq_getElem?_getD, List.getElem?_eq_getElem hr]
 exact List.getElem_mem hr

theorem sz_ext0 (x : ByteArray) (i : Nat) (h : i ≤ x.size) : (x.extract 0 i).size = i := by rw [ByteArray.size_extract]; omega
theorem sz_ext1 (x : ByteArray) (i : Nat) : (x.extract i x.size).size = x.size - i := by rw [ByteArray.size_extract]; omega
theorem sz_one (z : Int) : (strOfNums [z]).size = 1 := rfl
theorem spoilt_l (c : List Int) (hc : byteL c) (x2 : ByteArray) (h2a : 1 ≤ x2.size) (h2b : x2.size ≤ 1000) : ∀ (m : Nat) (x1 : ByteArray) (a s B : Int), 0 ≤ a → a ≤ B → B + 6 * m ≤ 1000000 → x1.size + m ≤ 900000 →
  Dr (fun r => r.size ≤ x1.size + m) (B + 6 * m) (fun k => spec_l1Cur_spoilt.l0 k x1 x2 (m : Int) c a s) := by
 intro m
 induction m with
 | zero =>
  intro x1 a s B h0 h1 hB ho
  exact Dr.step (fun k => spec_l1Cur_spoilt.l0.eq_2 ..) (Dr.neg (by omega) (Dr.step (fun k => spec_l1Cur_spoilt.j1.eq_2 ..) (Dr.neg (by simp) (Dr.now (by simp) h0 (by omega)))))
 | succ m ih =>
  intro x1 a s B h0 h1 hB ho
  refine Dr.step (fun k => spec_l1Cur_spoilt.l0.eq_2 ..) (Dr.pos (by omega) ?_)
  by_cases hs : (x1.size : Int) > 0
  ·rw [decide_eq_true hs]
   refine Dr.step (fun k => spec_l1Cur_spoilt.j1.eq_2 ..) (Dr.pos rfl ?_)
   refine Dr.bind (pick_dr c hc a s _ B h0 h1 (by omega) (by omega)) fun p3 hi h3 h4 => ?_
   refine Dr.bind (pick_dr c hc p3.2.1 p3.2.2 _ (B + 2) h3 h4 (by omega) (by omega)) fun p5 hj h5 h6 => ?_
   refine Dr.pos hj.1 (Dr.pos (by omega) (Dr.some rfl ?_))
   refine Dr.bind (pick_dr c hc p5.2.1 p5.2.2 3 (B + 2 + 2) h5 h6 (by omega) (by omega)) fun p7 _ h7 h8 => ?_
   have e : wrap64 (((m + 1 : Nat) : Int) - 1) = (m : Int) := by rw [w64 (by omega) (by omega)]; omega
   have e2 : wrap64 (p3.1 + 1) = p3.1 + 1 := w64 (by omega) (by omega)
   have z0 := sz_ext0 x1 p3.1.toNat (by omega)
   have z1 := sz_ext1 x1 p3.1.toNat
   have z2 := sz_ext1 x1 (p3.1 + 1).toNat
   have z3 := sz_one (bt x2 p5.1)
   rw [e, e2]
   by_cases c1 : p7.1 = 0
   ·refine Dr.pos c1 (Dr.pos hi.1 (Dr.pos (by omega) (Dr.pos (by omega) (Dr.pos (by rw [ByteArray.size_append]; omega) ?_))))
    refine (ih _ p7.2.1 p7.2.2 (B + 6) h7 (by omega) (by omega) ?_).mono (fun r h => ?_) (by omega)
    ·rw [ByteArray.size_append, ByteArray.size_append]; omega
    ·rw [ByteArray.size_append, ByteArray.size_append] at h; omega
   refine Dr.neg c1 ?_
   by_cases c2 : p7.1 = 1
   ·refine Dr.pos c2 (Dr.pos hi.1 (Dr.pos (by omega) (Dr.pos (by omega) (Dr.pos (by omega) (Dr.pos (by omega) (Dr.pos (by rw [ByteArray.size_append]; omega) ?_))))))
    refine (ih _ p7.2.1 p7.2.2 (B + 6) h7 (by omega) (by omega) ?_).mono (fun r h => ?_) (by omega)
    ·rw [ByteArray.size_append, ByteArray.size_append]; omega
    ·rw [ByteArray.size_append, ByteArray.size_append] at h; omega
   ·refine Dr.neg c2 (Dr.pos hi.1 (Dr.pos (by omega) (Dr.pos (by omega) (Dr.pos (by omega) (Dr.pos (by omega) ?_)))))
    refine (ih _ p7.2.1 p7.2.2 (B + 6) h7 (by omega) (by omega) ?_).mono (fun r h => ?_) (by omega)
    ·rw [ByteArray.size_append]; omega
    ·rw [ByteArray.size_append] at h; omega
  ·rw [decide_eq_false hs]
   exact Dr.step (fun k => spec_l1Cur_spoilt.j1.eq_2 ..) (Dr.neg (by simp) (Dr.now (by omega) h0 (by omega)))
theorem spoilt_dr (c : List Int) (hc : byteL c) (x1 x2 : ByteArray) (h2a : 1 ≤ x2.size) (h2b : x2.size ≤ 1000) (h1a : x1.size ≤ 800000) (a s B : Int) (h0 : 0 ≤ a) (h1 : a ≤ B) (hB : B ≤ 900000) : Dr (fun r => r.size ≤ x1.size + 2) (B + 14) (fun k => spec_l1Cur_spoilt.f k c a s x1 x2) := by
 unfold spec_l1Cur_spoilt.f
 refine Dr.bind (pick_dr c hc a s 2 B h0 h1 (by omega) (by omega)) fun p3 h2 h3 h4 => ?_
 have e : wrap64 (1 + p3.1) = ((p3.1 + 1).toNat : Int) := by rw [w64 (by omega) (by omega)]; omega
 rw [e]
 exact (spoilt_l c hc x2 h2a h2b (p3.1 + 1).toNat x1 p3.2.1 p3.2.2 (B + 2) h3 h4 (by omega) (by omega)).mono (fun r h => by omega) (by omega)

theorem drawFV (c : List Int) (hc : byteL c) : ∃ l v, Ev (fun k => spec_DrawFirstVolumes.f k c) (l, v) ∧ l.length ≤ 200 := by
 unfold spec_DrawFirstVolumes.f spec_DrawLeastVolume.f spec_DrawLeastVolume0.f
 obtain ⟨p2, e2, h2, a2, b2⟩ := ch_dr c hc 0 0 0 (by omega) (by omega) (by omega)
 obtain ⟨p1, e1, _, a1, b1⟩ := among_dr c hc p2.2.1 p2.2.2 1000 [1, 2, 2, 3, 3, 4, 5, 6, 0, (-1)] (by simp) (by simp) a2 (by omega) (by omega)
 exact ⟨_, _, Ev.bind (Ev.bind (Ev.bind e2 (Ev.bind e1 (ev_now rfl))) (ev_now rfl)) (ev_now rfl), h2⟩
theorem drawFew (c : List Int) (hc : byteL c) : ∃ l v, Ev (fun k => spec_DrawFewestVolumes.f k c) (l, v) ∧ l.length ≤ 200 := by
 unfold spec_DrawFewestVolumes.f spec_DrawFewestVolumes0.f
 obtain ⟨p1, e1, _, a1, b1⟩ := one_dr c hc 0 0 8 0 (by omega) (by omega) (by omega) (by omega)
 obtain ⟨p2, e2, h2, a2, b2⟩ := ch_dr c hc p1.2.1 p1.2.2 2 a1 (by omega) (by omega)
 by_cases q : p1.1 = true
 ·obtain ⟨p3, e3, _, a3, b3⟩ := among_dr c hc p2.2.1 p2.2.2 1002 [(-1), 0, 1, 1440, 1441] (by simp) (by simp) a2 (by omega) (by omega)
  exact ⟨_, _, Ev.bind (Ev.bind e1 (ev_pos q (Ev.bind e2 (Ev.bind e3 (ev_now rfl))))) (ev_now rfl), h2⟩
 ·obtain ⟨p3, e3, _, a3, b3⟩ := pick_dr c hc p2.2.1 p2.2.2 100 1002 a2 (by omega) (by omega) (by omega)
  exact ⟨_, _, Ev.bind (Ev.bind e1 (ev_neg q (Ev.bind e2 (Ev.bind e3 (ev_now rfl))))) (ev_now rfl), h2⟩
theorem title_dr (c : List Int) (hc : byteL c) (a s B : Int) (h0 : 0 ≤ a) (h1 : a ≤ B) (hB : B ≤ 1000000) : Dr (fun r => r.size ≤ 100) (B + 2) (fun _ => spec_l1Cur_title.f c a s) := by
 unfold spec_l1Cur_title.f
 exact Dr.bind (of_dr c hc a s B _ 100 (by intro x hx; simp only [List.mem_cons, List.not_mem_nil, or_false] at hx; rcases hx with rfl | rfl | rfl | rfl | rfl | rfl | rfl | rfl | rfl | rfl <;> decide) (by simp) (by simp) h0 h1 hB) fun p hp h2 h3 => Dr.now hp h2 h3
theorem page_dr (c : List Int) (hc : byteL c) (a s B : Int) (h0 : 0 ≤ a) (h1 : a ≤ B) (hB : B ≤ 900000) : Dr (fun _ => True) (B + 4) (fun _ => spec_l1Cur_page.f c a s) := by
 unfold spec_l1Cur_page.f
 refine Dr.bind (pick_dr c hc a s 9 B h0 h1 (by omega) (by omega)) fun p _ h2 h3 => ?_
 by_cases c1 : p.1 = 0
 ·exact Dr.pos c1 (Dr.bind (among_dr c hc p.2.1 p.2.2 (B + 2) _ (by simp) (by simp) h2 h3 (by omega)) fun q _ h4 h5 => Dr.now trivial h4 (by omega))
 ·refine Dr.neg c1 ?_
  by_cases c2 : p.1 = 1
  ·exact Dr.pos c2 (Dr.bind (pick_dr c hc p.2.1 p.2.2 250 (B + 2) h2 h3 (by omega) (by omega)) fun q _ h4 h5 => Dr.now trivial h4 (by omega))
  ·exact Dr.neg c2 (Dr.bind (pick_dr c hc p.2.1 p.2.2 130 (B + 2) h2 h3 (by omega) (by omega)) fun q _ h4 h5 => Dr.now trivial h4 (by omega))
theorem drawCL (c : List Int) (hc : byteL c) : ∃ t p w, Ev (fun _ => spec_DrawContentsLine.f c) (t, p, w) ∧ t.size ≤ 100 := by
 unfold spec_DrawContentsLine.f spec_DrawContentsLine0.f
 obtain ⟨p1, e1, h1, a1, b1⟩ := title_dr c hc 0 0 0 (by omega) (by omega) (by omega)
 obtain ⟨p2, e2, _, a2, b2⟩ := page_dr c hc p1.2.1 p1.2.2 2 a1 (by omega) (by omega)
 obtain ⟨p3, e3, _, a3, b3⟩ := among_dr c hc p2.2.1 p2.2.2 6 [8, 10, 12, 14, 20, 30, 60, 61, 1, 0] (by simp) (by simp) a2 (by omega) (by omega)
 exact ⟨_, _, _, Ev.bind (Ev.bind e1 (Ev.bind e2 (Ev.bind e3 (ev_now rfl)))) (ev_now rfl), h1⟩
theorem drawCO_l (c : List Int) (hc : byteL c) (xs : List Int) (hx : xs.length ≤ 200) : ∀ (d : Nat) (i : Int) (out : List ByteArray) (a s B : Int), 0 ≤ i → i + d = (xs.length : Int) → 0 ≤ a → a ≤ B → B + 2 * d ≤ 500000 → out.length + d ≤ 200 → (∀ t ∈ out, t.size ≤ 100) →
  ∃ r, Ev (fun k => spec_DrawContentsOf0.l0 k xs out (xs.length : Int) i c a s) r ∧ r.2.1 = xs ∧ r.1.length ≤ 1000 ∧ ∀ t ∈ r.1, t.size ≤ 100 := by
 intro d
 induction d with
 | zero =>
  intro i out a s B h0 hi h1 h2 hB ho ht
  obtain ⟨p1, e1, _, a1, b1⟩ := one_dr c hc a s 8 B h1 h2 (by omega) (by omega)
  by_cases q : p1.1 = true
  ·obtain ⟨p2, e2, h2', a2, b2⟩ := title_dr c hc p1.2.1 p1.2.2 (B + 2) a1 (by omega) (by omega)
   obtain ⟨p3, e3, _, a3, b3⟩ := one_dr c hc p2.2.1 p2.2.2 2 (B + 4) a2 (by omega) (by omega) (by omega)
   obtain ⟨p4, e4, _, a4, b4⟩ := among_dr c hc p3.2.1 p3.2.2 (B + 6) [12, 14, 16, 20, 30, 60, 61, 0] (by simp) (by simp) a3 (by omega) (by omega)
   refine ⟨_, Ev.step (fun k => spec_DrawContentsOf0.l0.eq_2 ..) (ev_neg (by omega) (Ev.bind e1 (ev_pos q (Ev.bind e2 (ev_pos (by omega) (Ev.bind e3 (Ev.bind e4 (ev_now rfl)))))))), rfl, by simp; omega, fun t h => ?_⟩
   rcases List.mem_append.1 h with z | z
   ·exact ht t z
   ·rw [List.mem_singleton.1 z]; exact h2'
  ·obtain ⟨p3, e3, _, a3, b3⟩ := one_dr c hc p1.2.1 p1.2.2 2 (B + 2) a1 (by omega) (by omega) (by omega)
   obtain ⟨p4, e4, _, a4, b4⟩ := among_dr c hc p3.2.1 p3.2.2 (B + 4) [12, 14, 16, 20, 30, 60, 61, 0] (by simp) (by simp) a3 (by omega) (by omega)
   exact ⟨_, Ev.step (fun k => spec_DrawContentsOf0.l0.eq_2 ..) (ev_neg (by omega) (Ev.bind e1 (ev_neg q (Ev.bind e3 (Ev.bind e4 (ev_now rfl)))))), rfl, by simp; omega, ht⟩
 | succ d ih =>
  intro i out a s B h0 hi h1 h2 hB ho ht
  obtain ⟨p1, e1, hp, a1, b1⟩ := of_dr c hc a s B [(⟨#[78, 117, 116, 115]⟩ : ByteArray), (⟨#[79, 110, 32, 97, 32, 104, 105, 108, 108]⟩ : ByteArray), (⟨#[73]⟩ : ByteArray), (⟨#[84, 104, 101, 32, 101, 110, 100]⟩ : ByteArray)] 100 (by intro x hx; simp only [List.mem_cons, List.not_mem_nil, or_false] at hx; rcases hx with rfl | rfl | rfl | rfl <;> decide) (by simp) (by simp) h1 h2 (by omega)
  obtain ⟨r, er, r1, r2, r3⟩ := ih (i + 1) (out ++ [p1.1]) p1.2.1 p1.2.2 (B + 2) (by omega) (by omega) a1 b1 (by omega) (by simp; omega) (fun t h => by
   rcases List.mem_append.1 h with z | z
   ·exact ht t z
   ·rw [List.mem_singleton.1 z]; exact hp)
  refine ⟨r, Ev.step (fun k => spec_DrawContentsOf0.l0.eq_2 ..) (ev_pos (by omega) (Ev.bind e1 (ev_pos (by omega) ?_))), r1, r2, r3⟩
  rw [w64 (x := i + 1) (by omega) (by omega)]
  exact er
theorem drawCO (c : List Int) (hc : byteL c) : ∃ ts cs b w, Ev (fun k => spec_DrawContentsOf.f k c) (ts, cs, b, w) ∧ ts.length ≤ 1000 ∧ (∀ t ∈ ts, t.size ≤ 100) ∧ cs.length ≤ 200 := by
 unfold spec_DrawContentsOf.f spec_DrawContentsOf0.f
 obtain ⟨p2, e2, h2, a2, b2⟩ := ch_dr c hc 0 0 0 (by omega) (by omega) (by omega)
 obtain ⟨r, er, r1, r2, r3⟩ := drawCO_l c hc p2.1 h2 p2.1.length 0 [] p2.2.1 p2.2.2 1000 (by omega) (by omega) a2 (by omega) (by omega) (by simp; omega) (by simp)
 exact ⟨_, _, _, _, Ev.bind (Ev.bind e2 er) (ev_now rfl), r2, r3, by rw [r1]; exact h2⟩
theorem drawRo (c : List Int) (hc : byteL c) : ∃ n, Ev (fun _ => spec_DrawRomanOf.f c) n := by
 unfold spec_DrawRomanOf.f spec_DrawRomanOf0.f
 obtain ⟨p1, e1, _, a1, b1⟩ := one_dr c hc 0 0 8 0 (by omega) (by omega) (by omega) (by omega)
 by_cases q : p1.1 = true
 ·obtain ⟨p3, e3, _, a3, b3⟩ := among_dr c hc p1.2.1 p1.2.2 2 [(-1), 0, 1, 399, 400, 4611686018427387904] (by simp) (by simp) a1 (by omega) (by omega)
  exact ⟨_, Ev.bind (Ev.bind e1 (ev_pos q (Ev.bind e3 (ev_now rfl)))) (ev_now rfl)⟩
 ·obtain ⟨p3, e3, _, a3, b3⟩ := pick_dr c hc p1.2.1 p1.2.2 200 2 a1 (by omega) (by omega) (by omega)
  obtain ⟨p4, e4, _, a4, b4⟩ := pick_dr c hc p3.2.1 p3.2.2 2 4 a3 (by omega) (by omega) (by omega)
  exact ⟨_, Ev.bind (Ev.bind e1 (ev_neg q (Ev.bind e3 (Ev.bind e4 (ev_now rfl))))) (ev_now rfl)⟩
theorem romanL_len (n : Nat) (hn : n ≤ 399) : (romanL n).length ≤ 100 := by
 have h1 := partM_len (n / 10 % 10) (by omega) [120] [108] [99] (by simp) (by simp) (by simp)
 have h2 := partM_len (n % 10) (by omega) [105] [118] [120] (by simp) (by simp) (by simp)
 have h3 : (Lib.repeatL [99] (n / 100)).length ≤ 10 := by
  rcases (by omega : n / 100 = 0 ∨ n / 100 = 1 ∨ n / 100 = 2 ∨ n / 100 = 3) with e | e | e | e <;> rw [e] <;> decide
 unfold romanL
 simp only [List.length_append]; omega
theorem drawNR (c : List Int) (hc : byteL c) : ∃ s, Ev (fun k => spec_DrawNumberOfRoman.f k c) s := by
 unfold spec_DrawNumberOfRoman.f spec_DrawNumberOfRoman0.f
 obtain ⟨p3, e3, h3, a3, b3⟩ := pick_dr c hc 0 0 200 0 (by omega) (by omega) (by omega) (by omega)
 obtain ⟨p4, e4, h4, a4, b4⟩ := pick_dr c hc p3.2.1 p3.2.2 2 2 a3 (by omega) (by omega) (by omega)
 obtain ⟨p1, e1, _, a1, b1⟩ := one_dr c hc p4.2.1 p4.2.2 3 4 a4 (by omega) (by omega) (by omega)
 obtain ⟨n, hn, en⟩ : ∃ n : Nat, n ≤ 399 ∧ wrap64 (wrap64 (1 + p3.1) + wrap64 (p4.1 * 198)) = (n : Int) := by
  refine ⟨(1 + p3.1 + p4.1 * 198).toNat, by omega, ?_⟩
  rw [w64 (x := 1 + p3.1) (by omega) (by omega), w64 (x := p4.1 * 198) (by omega) (by omega), w64 (by omega) (by omega)]; omega
 have er := specRoman_ev n hn
 rw [← en] at er
 have hl := romanL_len n hn
 by_cases q : p1.1 = true
 ·obtain ⟨p5, e5, _, a5, b5⟩ := spoilt_dr c hc (mkB (romanL n)) (⟨#[105, 118, 120, 108, 99, 100]⟩ : ByteArray) (by decide) (by decide) (by rw [mkB_size]; omega) p1.2.1 p1.2.2 6 a1 (by omega) (by omega)
  exact ⟨_, Ev.bind (Ev.bind e3 (Ev.bind e4 (Ev.bind er (Ev.bind e1 (ev_pos q (Ev.bind e5 (ev_now rfl))))))) (ev_now rfl)⟩
 ·exact ⟨_, Ev.bind (Ev.bind e3 (Ev.bind e4 (Ev.bind er (Ev.bind e1 (ev_neg q (ev_now rfl)))))) (ev_now rfl)⟩

def begP (right : Bool) (p : Int) : Int := if right = true ∧ p % 2 = 0 then p + 1 else p
def begL (right : Bool) : List Int → Int → List Int
 | [], _ => []
 | n :: ns, p => begP right p :: begL right ns (begP right p + n)
def begEnd (right : Bool) : List Int → Int → Int
 | [], p => p
 | n :: ns, p => begEnd right ns (begP right p + n)
theorem begL_length (right : Bool) : ∀ (ns : List Int) (p : Int), (begL right ns p).length = ns.length
 | [], _ => rfl
 | n :: ns, p => by rw [begL, List.length_cons, begL_length right ns, List.length_cons]
theorem begP_bd (right : Bool) (p : Int) : p ≤ begP right p ∧ begP right p ≤ p + 1 := by unfold begP; split <;> omega
theorem tmod2 (p : Int) (h : 0 ≤ p) : Int.tmod p 2 = p % 2 := Int.tmod_eq_emod_of_nonneg h
theorem caBegin_l (right : Bool) (xs : List Int) (hn : xs.length ≤ 1000) (hb : ∀ n ∈ xs, 1 ≤ n ∧ n ≤ 120) : ∀ (ys : List Int) (i p : Int) (out : List Int), 0 ≤ i → xs.drop i.toNat = ys → 1 ≤ p → p + 121 * ys.length ≤ 1000000 → out.length + ys.length ≤ 1000 →
  Ev (fun k => spec_caBegin.l0 k right out p xs (xs.length : Int) i) (out ++ begL right ys p ++ [begEnd right ys p]) := by
 intro ys
 induction ys with
 | nil =>
  intro i p out h0 h _ _ ho
  have := drop_nil h0 h
  refine Ev.step (fun k => spec_caBegin.l0.eq_2 ..) ?_
  exact ev_neg (by omega) (ev_pos (by omega) (ev_now (by simp [begL, begEnd])))
 | cons y ys ih =>
  intro i p out h0 h hp hpb ho
  obtain ⟨h1, h2, h3, _⟩ := drop_cons h0 h
  have hy := hb y (List.mem_of_mem_drop (by rw [h]; exact List.mem_cons_self))
  have hq := begP_bd right p
  simp only [List.length_cons] at hpb ho
  have hr := ih (i + 1) (begP right p + y) (out ++ [begP right p]) (by omega) h3 (by omega) (by omega) (by simp only [List.length_append, List.length_cons, List.length_nil]; omega)
  have fin : out ++ [begP right p] ++ begL right ys (begP right p + y) ++ [begEnd right ys (begP right p + y)] = out ++ begL right (y :: ys) p ++ [begEnd right (y :: ys) p] := by simp [begL, begEnd]
  rw [fin] at hr
  refine Ev.step (fun k => spec_caBegin.l0.eq_2 ..) ?_
  rw [h2, tmod2 p (by omega), w64 (x := i + 1) (by omega) (by omega), w64 (x := p + 1) (by omega) (by omega), w64 (x := p + 1 + y) (by omega) (by omega), w64 (x := p + y) (by omega) (by omega)]
  refine ev_pos h1 (ev_pos h0 (ev_pos h1 ?_))
  by_cases c1 : right = true
  ·by_cases c2 : p % 2 = 0
   ·have e : begP right p = p + 1 := by unfold begP; rw [if_pos ⟨c1, c2⟩]
    rw [e] at hr
    exact ev_pos c1 (ev_pos c2 (ev_pos (by omega) hr))
   ·have e : begP right p = p := by unfold begP; rw [if_neg (fun z => c2 z.2)]
    rw [e] at hr
    exact ev_pos c1 (ev_neg c2 (ev_pos (by omega) hr))
  ·have e : begP right p = p := by unfold begP; rw [if_neg (fun z => c1 z.1)]
   rw [e] at hr
   exact ev_neg c1 (ev_pos (by omega) hr)
theorem laid_l (right : Bool) (xs : List Int) (hn : xs.length ≤ 1000) (hb : ∀ n ∈ xs, 1 ≤ n ∧ n ≤ 120) : ∀ (ys : List Int) (i p : Int) (out bl : List Int), 0 ≤ i → xs.drop i.toNat = ys → 1 ≤ p → p + 121 * ys.length ≤ 1000000 → out.length + ys.length ≤ 1000 → bl.length + ys.length ≤ 1000 →
  ∃ b c, Ev (fun k => impl_laid.l0 k right out bl p xs (xs.length : Int) i) (out ++ begL right ys p, b, c) := by
 intro ys
 induction ys with
 | nil =>
  intro i p out bl h0 h _ _ ho _
  have := drop_nil h0 h
  refine ⟨bl, wrap64 (p - 1), Ev.step (fun k => impl_laid.l0.eq_2 ..) ?_⟩
  exact ev_neg (by omega) (ev_now (by simp [begL]))
 | cons y ys ih =>
  intro i p out bl h0 h hp hpb ho hbl
  obtain ⟨h1, h2, h3, _⟩ := drop_cons h0 h
  have hy := hb y (List.mem_of_mem_drop (by rw [h]; exact List.mem_cons_self))
  have hq := begP_bd right p
  simp only [List.length_cons] at hpb ho hbl
  have fin : out ++ [begP right p] ++ begL right ys (begP right p + y) = out ++ begL right (y :: ys) p := by simp [begL]
  by_cases c1 : right = true
  ·by_cases c2 : p % 2 = 0
   ·have e : begP right p = p + 1 := by unfold begP; rw [if_pos ⟨c1, c2⟩]
    obtain ⟨b, c, hr⟩ := ih (i + 1) (begP right p + y) (out ++ [begP right p]) (bl ++ [p]) (by omega) h3 (by omega) (by omega) (by simp only [List.length_append, List.length_cons, List.length_nil]; omega) (by simp only [List.length_append, List.length_cons, List.length_nil]; omega)
    rw [fin, e] at hr
    refine ⟨b, c, Ev.step (fun k => impl_laid.l0.eq_2 ..) ?_⟩
    rw [h2, tmod2 p (by omega), w64 (x := i + 1) (by omega) (by omega), w64 (x := p + 1) (by omega) (by omega), w64 (x := p + 1 + y) (by omega) (by omega), w64 (x := p + y) (by omega) (by omega)]
    exact ev_pos h1 (ev_pos h0 (ev_pos h1 (ev_pos c1 (ev_pos c2 (ev_pos (by omega) (ev_pos (by omega) hr))))))
   ·have e : begP right p = p := by unfold begP; rw [if_neg (fun z => c2 z.2)]
    obtain ⟨b, c, hr⟩ := ih (i + 1) (begP right p + y) (out ++ [begP right p]) bl (by omega) h3 (by omega) (by omega) (by simp only [List.length_append, List.length_cons, List.length_nil]; omega) (by omega)
    rw [fin, e] at hr
    refine ⟨b, c, Ev.step (fun k => impl_laid.l0.eq_2 ..) ?_⟩
    rw [h2, tmod2 p (by omega), w64 (x := i + 1) (by omega) (by omega), w64 (x := p + 1) (by omega) (by omega), w64 (x := p + 1 + y) (by omega) (by omega), w64 (x := p + y) (by omega) (by omega)]
    exact ev_pos h1 (ev_pos h0 (ev_pos h1 (ev_pos c1 (ev_neg c2 (ev_pos (by omega) hr)))))
  ·have e : begP right p = p := by unfold begP; rw [if_neg (fun z => c1 z.1)]
   obtain ⟨b, c, hr⟩ := ih (i + 1) (begP right p + y) (out ++ [begP right p]) bl (by omega) h3 (by omega) (by omega) (by simp only [List.length_append, List.length_cons, List.length_nil]; omega) (by omega)
   rw [fin, e] at hr
   refine ⟨b, c, Ev.step (fun k => impl_laid.l0.eq_2 ..) ?_⟩
   rw [h2, tmod2 p (by omega), w64 (x := i + 1) (by omega) (by omega), w64 (x := p + 1) (by omega) (by omega), w64 (x := p + 1 + y) (by omega) (by omega), w64 (x := p + y) (by omega) (by omega)]
   exact ev_pos h1 (ev_pos h0 (ev_pos h1 (ev_neg c1 (ev_pos (by omega) hr))))
theorem begs_ev (xs : List Int) (right : Bool) (hn : xs.length ≤ 1048576) : Ev (fun k => impl_BeginningsOf.f k xs right) (if goodC xs = true then (begL right xs 1, true) else ([], false)) := by
 unfold impl_BeginningsOf.f
 refine Ev.bind (areCh_ev xs hn) ?_
 by_cases h : goodC xs = true
 ·obtain ⟨g1, g2, g3⟩ := goodC_true h
  obtain ⟨b, c, hr⟩ := laid_l right xs (by omega) g3 xs 0 1 [] [] (by omega) rfl (by omega) (by omega) (by simp only [List.length_nil]; omega) (by simp only [List.length_nil]; omega)
  refine ev_pos h (Ev.bind (show Ev (fun k => impl_laid.f k xs right) _ from hr) (ev_now ?_))
  rw [if_pos h]; rfl
 ·exact ev_neg h (ev_now (by rw [if_neg h]))
theorem caBegin_ev (xs : List Int) (right : Bool) (h : goodC xs = true) : Ev (fun k => spec_caBegin.f k xs right) (begL right xs 1 ++ [begEnd right xs 1]) := by
 obtain ⟨g1, g2, g3⟩ := goodC_true h
 exact caBegin_l right xs (by omega) g3 xs 0 1 [] (by omega) rfl (by omega) (by omega) (by simp only [List.length_nil]; omega)

def plainB (b : UInt8) : Bool := decide (32 ≤ b.toNat ∧ b.toNat ≤ 126)
def okT (l : List UInt8) : Bool := decide (1 ≤ l.length ∧ l.length ≤ 40) && l.all plainB
theorem plain_lt {x : UInt8} (h : ¬ ((x.toNat : Int) < 32)) (h2 : ¬ ((x.toNat : Int) > 126)) : plainB x = true := by
 unfold plainB; rw [decide_eq_true_eq]; omega
theorem plain_not1 {x : UInt8} (h : (x.toNat : Int) < 32) : plainB x = false := by
 unfold plainB; rw [decide_eq_false_iff_not]; omega
theorem plain_not2 {x : UInt8} (h : (x.toNat : Int) > 126) : plainB x = false := by
 unfold plainB; rw [decide_eq_false_iff_not]; omega
theorem caTitle_l (l : List UInt8) (hl : l.length ≤ 1048576) : ∀ (ys : List UInt8) (i : Nat), l.drop i = ys →
  Ev (fun k => spec_caTitle.l0 k (mkB l) (i : Int)) (ys.all plainB) := by
 intro ys
 induction ys with
 | nil =>
  intro i h
  have := List.drop_eq_nil_iff.1 h
  refine Ev.step (fun k => spec_caTitle.l0.eq_2 ..) ?_
  exact ev_neg (by rw [mkB_size]; omega) (ev_now rfl)
 | cons y ys ih =>
  intro i h
  obtain ⟨g1, g2⟩ := drop_step h
  refine Ev.step (fun k => spec_caTitle.l0.eq_2 ..) ?_
  rw [bt_mkB h, mkB_size, w64 (x := (i : Int) + 1) (by omega) (by omega)]
  refine ev_pos (by omega) (ev_pos (by omega) ?_)
  by_cases c1 : (y.toNat : Int) < 32
  ·exact ev_pos c1 (ev_now (by rw [List.all_cons, plain_not1 c1, Bool.false_and]))
  by_cases c2 : (y.toNat : Int) > 126
  ·exact ev_neg c1 (ev_pos c2 (ev_now (by rw [List.all_cons, plain_not2 c2, Bool.false_and])))
  have := ih (i + 1) g2
  rw [show ((i + 1 : Nat) : Int) = (i : Int) + 1 from by omega] at this
  exact ev_neg c1 (ev_neg c2 (ev_val this (by rw [List.all_cons, plain_lt c1 c2, Bool.true_and])))
theorem caTitle_ev (l : List UInt8) (hl : l.length ≤ 1048576) : Ev (fun k => spec_caTitle.f k (mkB l)) (okT l) := by
 unfold spec_caTitle.f okT
 rw [mkB_size]
 refine ev_some (l1In_eq ..) ?_
 by_cases h : 1 ≤ (l.length : Int) ∧ (l.length : Int) ≤ 40
 ·have e : (1 ≤ l.length ∧ l.length ≤ 40) := by omega
  refine ev_pos (decide_eq_true h) (ev_val (caTitle_l l hl l 0 rfl) ?_)
  rw [decide_eq_true e, Bool.true_and]
 ·have e : ¬ (1 ≤ l.length ∧ l.length ≤ 40) := by omega
  refine ev_neg (by rw [decide_eq_false h]; simp) (ev_now ?_)
  rw [decide_eq_false e, Bool.false_and]
theorem isTitle_l (l : List UInt8) (hl : l.length ≤ 1048576) : ∀ (ys : List UInt8) (i : Nat), l.drop i = ys →
  Ev (fun k => impl_isTitle.l0 k (mkB l) (l.length : Int) (i : Int)) (decide (1 ≤ l.length ∧ l.length ≤ 40) && ys.all plainB) := by
 intro ys
 induction ys with
 | nil =>
  intro i h
  have := List.drop_eq_nil_iff.1 h
  refine Ev.step (fun k => impl_isTitle.l0.eq_2 ..) ?_
  refine ev_neg (by omega) ?_
  rw [mkB_size]
  refine ev_some (within_eq ..) (ev_now ?_)
  rw [List.all_nil, Bool.and_true]
  exact decide_eq_decide.2 (by omega)
 | cons y ys ih =>
  intro i h
  obtain ⟨g1, g2⟩ := drop_step h
  refine Ev.step (fun k => impl_isTitle.l0.eq_2 ..) ?_
  rw [bt_mkB h, mkB_size, w64 (x := (i : Int) + 1) (by omega) (by omega)]
  refine ev_pos (by omega) (ev_pos (by omega) (ev_pos (by omega) ?_))
  by_cases c1 : (y.toNat : Int) < 32
  ·exact ev_pos c1 (ev_now (by rw [List.all_cons, plain_not1 c1, Bool.false_and, Bool.and_false]))
  by_cases c2 : (y.toNat : Int) > 126
  ·exact ev_neg c1 (ev_pos c2 (ev_now (by rw [List.all_cons, plain_not2 c2, Bool.false_and, Bool.and_false])))
  have := ih (i + 1) g2
  rw [show ((i + 1 : Nat) : Int) = (i : Int) + 1 from by omega] at this
  exact ev_neg c1 (ev_neg c2 (ev_val this (by rw [List.all_cons, plain_lt c1 c2, Bool.true_and])))
theorem isTitle_ev (l : List UInt8) (hl : l.length ≤ 1048576) : Ev (fun k => impl_isTitle.f k (mkB l)) (okT l) := by
 unfold impl_isTitle.f okT
 rw [mkB_size]
 exact isTitle_l l hl l 0 rfl

theorem dd_len (n : Nat) : (Lib.decDigits n).length ≤ n + 1 := by
 induction n using Nat.strongRecOn with
 | _ n ih =>
  rw [Lib.decDigits]
  split
  ·simp
  ·rename_i h
   have := ih (n / 10) (by omega)
   rw [List.length_append]
   simp only [List.length_cons, List.length_nil]
   omega
theorem dd_pos (n : Nat) : 1 ≤ (Lib.decDigits n).length := by
 rw [Lib.decDigits]
 split <;> simp
def decV (l : List UInt8) : Nat := l.foldl (fun a b => a * 10 + (b.toNat - 48)) 0
theorem decV_dd (n : Nat) : decV (Lib.decDigits n) = n := by
 induction n using Nat.strongRecOn with
 | _ n ih =>
  rw [Lib.decDigits]
  split
  ·rename_i h
   simp [decV]
   omega
  ·rename_i h
   have := ih (n / 10) (by omega)
   unfold decV at this ⊢
   rw [List.foldl_append, this]
   simp
   omega
theorem dd_inj {a b : Nat} (h : Lib.decDigits a = Lib.decDigits b) : a = b := by
 rw [← decV_dd a, ← decV_dd b, h]
theorem dig_eq (x : Nat) (h : x < 200) : UInt8.ofNat ((((x : Nat) : Int) % 256).toNat) = UInt8.ofNat x := by
 congr 1
 omega
theorem l1Num_ev (n : Nat) (hn : n ≤ 1000000000000) : Ev (fun k => spec_l1Num.f k (n : Int)) (mkB (Lib.decDigits n)) := by
 induction n using Nat.strongRecOn with
 | _ n ih =>
  refine Ev.step (fun k => spec_l1Num.f.eq_2 ..) ?_
  by_cases h : n < 10
  ·refine ev_pos (by omega) (ev_now ?_)
   rw [w64 (by omega) (by omega), mkB_nums, Lib.decDigits, dif_pos h]
   have := dig_eq (48 + n) (by omega)
   rw [show (((48 + n : Nat) : Nat) : Int) = 48 + (n : Int) from by omega] at this
   show mkB [UInt8.ofNat (((48 + (n : Int)) % 256).toNat)] = _
   rw [this]
  ·refine ev_neg (by omega) ?_
   have e1 : Int.tdiv (n : Int) 10 = ((n / 10 : Nat) : Int) := by rw [Int.tdiv_eq_ediv_of_nonneg (by omega)]; omega
   have e2 : Int.tmod (n : Int) 10 = ((n % 10 : Nat) : Int) := by rw [Int.tmod_eq_emod_of_nonneg (by omega)]; omega
   rw [e1, e2, w64 (x := ((n / 10 : Nat) : Int)) (by omega) (by omega), w64 (x := 48 + ((n % 10 : Nat) : Int)) (by omega) (by omega)]
   have hl := dd_len (n / 10)
   have hs : strOfNums [(48 + ((n % 10 : Nat) : Int)) % 256] = mkB [UInt8.ofNat (48 + n % 10)] := by
    rw [mkB_nums]
    have := dig_eq (48 + n % 10) (by omega)
    rw [show (((48 + n % 10 : Nat) : Nat) : Int) = 48 + ((n % 10 : Nat) : Int) from by omega] at this
    show mkB [UInt8.ofNat (((48 + ((n % 10 : Nat) : Int)) % 256).toNat)] = _
    rw [this]
   refine Ev.bind (ih (n / 10) (by omega) (by omega)) (ev_some rfl ?_)
   rw [hs, mkB_size, mkB_size]
   refine ev_pos (by simp only [List.length_cons, List.length_nil]; omega) (ev_now ?_)
   rw [mkB_append, Lib.decDigits.eq_1 n, dif_neg h]
theorem itoa_eq (n : Nat) (hn : n ≤ 1000000000000) : strconv_Itoa.f (n : Int) = some (mkB (Lib.decDigits n)) := by
 unfold strconv_Itoa.f
 rw [if_pos (by omega), if_pos (by omega)]
 unfold Lib.itoa
 rw [if_neg (by omega), Int.toNat_natCast]
 rfl

def ndd (n : Int) : List UInt8 := Lib.decDigits n.toNat
theorem ndd_len {n : Int} (h1 : n ≤ 1000000) : (ndd n).length ≤ 1000001 := by
 have := dd_len n.toNat
 unfold ndd; omega
theorem l1NumI_ev (n : Int) (h0 : 0 ≤ n) (h1 : n ≤ 1000000) : Ev (fun k => spec_l1Num.f k n) (mkB (ndd n)) := by
 have := l1Num_ev n.toNat (by omega)
 rw [Int.toNat_of_nonneg h0] at this
 exact this
theorem itoaI_eq (n : Int) (h0 : 0 ≤ n) (h1 : n ≤ 1000000) : strconv_Itoa.f n = some (mkB (ndd n)) := by
 have := itoa_eq n.toNat (by omega)
 rw [Int.toNat_of_nonneg h0] at this
 exact this

def dotsZ (l : List UInt8) (p w : Int) : Int := w - l.length - (ndd p).length - 2
def okL (l : List UInt8) (p w : Int) : Bool := okT l && (decide (1 ≤ p ∧ p ≤ 2000) && decide (1 ≤ w ∧ w ≤ 60))
def lineL (l : List UInt8) (p w : Int) : List UInt8 := l ++ 32 :: (Lib.repeatL [46] (dotsZ l p w).toNat ++ 32 :: ndd p)
def lineM (l : List UInt8) (p w : Int) : ByteArray × Bool := if okL l p w = true then (if dotsZ l p w < 1 then (⟨#[]⟩, false) else (mkB (lineL l p w), true)) else (⟨#[]⟩, false)
theorem okL_true {l : List UInt8} {p w : Int} (h : okL l p w = true) : l.length ≤ 40 ∧ 1 ≤ p ∧ p ≤ 2000 ∧ 1 ≤ w ∧ w ≤ 60 := by
 simp only [okL, okT, Bool.and_eq_true, decide_eq_true_eq] at h
 omega
theorem e32_ : (⟨#[32]⟩ : ByteArray) = mkB [32] := rfl
theorem e46_ : (⟨#[46]⟩ : ByteArray) = mkB [46] := rfl
theorem specLine_l (p : Int) (hp : 0 ≤ p ∧ p ≤ 2000) : ∀ (d : Nat) (acc : List UInt8), acc.length + d ≤ 100000 →
  Ev (fun k => spec_ContentsLine.l0 k p (d : Int) (mkB acc)) (mkB (acc ++ (Lib.repeatL [46] d ++ 32 :: ndd p)), true) := by
 have hnp : (ndd p).length ≤ 2001 := by have := dd_len p.toNat; unfold ndd; omega
 intro d
 induction d with
 | zero =>
  intro acc ha
  refine Ev.step (fun k => spec_ContentsLine.l0.eq_2 ..) ?_
  rw [mkB_size, e32_, mkB_append, mkB_size]
  refine ev_neg (by omega) (ev_pos (by omega) (Ev.bind (l1NumI_ev p hp.1 (by omega)) ?_))
  rw [mkB_size, mkB_append]
  refine ev_pos (by simp only [List.length_append, List.length_cons, List.length_nil]; omega) (ev_now ?_)
  simp only [Lib.repeatL, List.append_assoc, List.cons_append, List.nil_append]
 | succ d ih =>
  intro acc ha
  refine Ev.step (fun k => spec_ContentsLine.l0.eq_2 ..) ?_
  rw [w64 (x := ((d + 1 : Nat) : Int) - 1) (by omega) (by omega), show ((d + 1 : Nat) : Int) - 1 = (d : Int) from by omega, e46_, mkB_append, mkB_size]
  refine ev_pos (by omega) (ev_pos (by omega) (ev_val (ih (acc ++ [46]) (by simp only [List.length_append, List.length_cons, List.length_nil]; omega)) ?_))
  simp only [Lib.repeatL, List.append_assoc, List.cons_append, List.nil_append]
theorem specLine_ev (l : List UInt8) (p w : Int) (hl : l.length ≤ 1048576) : Ev (fun k => spec_ContentsLine.f k (mkB l) p w) (lineM l p w) := by
 have fall : ∀ b : Bool, b = true → okL l p w = false → Ev (fun k => spec_ContentsLine.j0 k (mkB l) p w b) (lineM l p w) := fun b hb hf => by
  refine Ev.step (fun k => spec_ContentsLine.j0.eq_2 ..) (ev_pos hb (ev_now ?_))
  unfold lineM; rw [hf]; rfl
 have ebk : spec_bpBook.f p = some (decide (1 ≤ p ∧ p ≤ 2000)) := by unfold spec_bpBook.f; rw [l1In_eq]; rfl
 unfold spec_ContentsLine.f
 refine Ev.bind (caTitle_ev l hl) ?_
 by_cases h1 : okT l = true
 ·refine ev_pos h1 (ev_some ebk ?_)
  by_cases h2 : 1 ≤ p ∧ p ≤ 2000
  ·refine ev_pos (decide_eq_true h2) (ev_some (l1In_eq ..) ?_)
   by_cases h3 : 1 ≤ w ∧ w ≤ 60
   ·have hok : okL l p w = true := by unfold okL; rw [h1, decide_eq_true h2, decide_eq_true h3]; rfl
    have hh := okL_true hok
    have hnp : (ndd p).length ≤ 2001 := by have := dd_len p.toNat; unfold ndd; omega
    refine Ev.step (fun k => spec_ContentsLine.j0.eq_2 ..) (ev_neg (by rw [decide_eq_true h3]; simp) (Ev.bind (l1NumI_ev p (by omega) (by omega)) ?_))
    rw [mkB_size, mkB_size, w64 (x := w - (l.length : Int)) (by omega) (by omega), w64 (x := w - (l.length : Int) - ((ndd p).length : Int)) (by omega) (by omega), w64 (x := w - (l.length : Int) - ((ndd p).length : Int) - 2) (by omega) (by omega)]
    by_cases c : dotsZ l p w < 1
    ·refine ev_pos c (ev_now ?_)
     unfold lineM; rw [if_pos hok, if_pos c]
    ·have c' := c
     unfold dotsZ at c'
     refine ev_neg c (ev_pos (by omega) ?_)
     rw [e32_, mkB_append]
     have hd : w - (l.length : Int) - ((ndd p).length : Int) - 2 = (((dotsZ l p w).toNat : Nat) : Int) := by unfold dotsZ; omega
     rw [hd]
     refine ev_val (specLine_l p (by omega) (dotsZ l p w).toNat (l ++ [32]) (by simp only [List.length_append, List.length_cons, List.length_nil]; unfold dotsZ; omega)) ?_
     unfold lineM lineL; rw [if_pos hok, if_neg c]; simp only [List.append_assoc, List.cons_append, List.nil_append]
   ·exact fall _ (by rw [decide_eq_false h3]; rfl) (by unfold okL; rw [decide_eq_false h3, Bool.and_false, Bool.and_false])
  ·exact ev_neg (by rw [decide_eq_false h2]; simp) (fall _ rfl (by unfold okL; rw [decide_eq_false h2, Bool.false_and, Bool.and_false]))
 ·exact ev_neg h1 (fall _ rfl (by unfold okL; rw [Bool.eq_false_iff.2 h1, Bool.false_and]))
theorem implLine_ev (l : List UInt8) (p w : Int) (hl : l.length ≤ 1048576) : Ev (fun k => impl_ContentsLine.f k (mkB l) p w) (lineM l p w) := by
 have fall : ∀ b : Bool, b = true → okL l p w = false → Ev (fun k => impl_ContentsLine.j0 k (mkB l) p w b) (lineM l p w) := fun b hb hf => by
  refine Ev.step (fun k => impl_ContentsLine.j0.eq_2 ..) (ev_pos hb (ev_now ?_))
  unfold lineM; rw [hf]; rfl
 have ebk : impl_isBook.f p = some (decide (1 ≤ p ∧ p ≤ 2000)) := by unfold impl_isBook.f; rw [within_eq]; rfl
 unfold impl_ContentsLine.f
 refine Ev.bind (isTitle_ev l hl) ?_
 by_cases h1 : okT l = true
 ·refine ev_pos h1 (ev_some ebk ?_)
  by_cases h2 : 1 ≤ p ∧ p ≤ 2000
  ·refine ev_pos (decide_eq_true h2) (ev_some (within_eq ..) ?_)
   by_cases h3 : 1 ≤ w ∧ w ≤ 60
   ·have hok : okL l p w = true := by unfold okL; rw [h1, decide_eq_true h2, decide_eq_true h3]; rfl
    have hh := okL_true hok
    have hnp : (ndd p).length ≤ 2001 := by have := dd_len p.toNat; unfold ndd; omega
    refine Ev.step (fun k => impl_ContentsLine.j0.eq_2 ..) (ev_neg (by rw [decide_eq_true h3]; simp) (ev_some (itoaI_eq p (by omega) (by omega)) ?_))
    rw [mkB_size, mkB_size, w64 (x := w - (l.length : Int)) (by omega) (by omega), w64 (x := w - (l.length : Int) - ((ndd p).length : Int)) (by omega) (by omega), w64 (x := w - (l.length : Int) - ((ndd p).length : Int) - 2) (by omega) (by omega)]
    by_cases c : dotsZ l p w < 1
    ·refine ev_pos c (ev_now ?_)
     unfold lineM; rw [if_pos hok, if_pos c]
    ·have c' := c
     unfold dotsZ at c'
     have hd : w - (l.length : Int) - ((ndd p).length : Int) - 2 = (((dotsZ l p w).toNat : Nat) : Int) := by unfold dotsZ; omega
     have hdd : (dotsZ l p w).toNat ≤ 60 := by unfold dotsZ; omega
     have hrl := repeatL_len [46] (dotsZ l p w).toNat
     simp only [List.length_cons, List.length_nil] at hrl
     refine ev_neg c (ev_pos (by omega) ?_)
     rw [hd, e46_]
     refine ev_some (repeat_eq [46] (dotsZ l p w).toNat (by simp) (by omega)) ?_
     rw [e32_, mkB_append, mkB_append, mkB_append, mkB_append, mkB_size, mkB_size, mkB_size, mkB_size]
     refine ev_pos (by simp only [List.length_append, List.length_cons, List.length_nil]; omega) (ev_pos (by simp only [List.length_append, List.length_cons, List.length_nil]; omega) (ev_pos (by simp only [List.length_append, List.length_cons, List.length_nil]; omega) (ev_now ?_)))
     unfold lineM lineL; rw [if_pos hok, if_neg c]; simp only [List.append_assoc, List.cons_append, List.nil_append]
   ·exact fall _ (by rw [decide_eq_false h3]; rfl) (by unfold okL; rw [decide_eq_false h3, Bool.and_false, Bool.and_false])
  ·exact ev_neg (by rw [decide_eq_false h2]; simp) (fall _ rfl (by unfold okL; rw [decide_eq_false h2, Bool.false_and, Bool.and_false]))
 ·exact ev_neg h1 (fall _ rfl (by unfold okL; rw [Bool.eq_false_iff.2 h1, Bool.false_and]))

def linesC (w : Int) : List ByteArray → List Int → List ByteArray → List ByteArray × Bool
 | [], _, out => (out, true)
 | _ :: _, [], _ => ([], false)
 | t :: ts, p :: ps, out => if (lineM t.data.toList p w).2 = true then linesC w ts ps (out ++ [(lineM t.data.toList p w).1]) else ([], false)
theorem linesC_more (w e : Int) : ∀ (ts : List ByteArray) (ps : List Int) (out : List ByteArray), ts.length ≤ ps.length → linesC w ts (ps ++ [e]) out = linesC w ts ps out
 | [], ps, out, _ => by simp [linesC]
 | t :: ts, [], out, h => by simp at h
 | t :: ts, p :: ps, out, h => by
  rw [List.cons_append, linesC, linesC, linesC_more w e ts ps _ (by simpa using h)]
theorem linesC_small (w : Int) : ∀ (ts : List ByteArray) (ps : List Int) (out : List ByteArray), (linesC w ts ps out).1.length ≤ out.length + ts.length
 | [], ps, out => by simp [linesC]
 | t :: ts, [], out => by simp [linesC]
 | t :: ts, p :: ps, out => by
  rw [linesC]
  split
  ·have := linesC_small w ts ps (out ++ [(lineM t.data.toList p w).1])
   simp only [List.length_append, List.length_cons, List.length_nil] at this ⊢; omega
  ·simp
theorem specCont_l (w : Int) (bs : List Int) (ts : List ByteArray) (hn : ts.length ≤ 1048576) (hlen : ts.length ≤ bs.length) (hb : ∀ t ∈ ts, t.size ≤ 1048576) : ∀ (ys : List ByteArray) (i : Int) (out : List ByteArray), 0 ≤ i → ts.drop i.toNat = ys → out.length + ys.length ≤ 10000000 →
  Ev (fun k => spec_ContentsOf.l0 k w bs out ts (ts.length : Int) i) (linesC w ys (bs.drop i.toNat) out) := by
 intro ys
 induction ys with
 | nil =>
  intro i out h0 h _
  have := drop_nil h0 h
  refine Ev.step (fun k => spec_ContentsOf.l0.eq_2 ..) ?_
  exact ev_neg (by omega) (ev_now (by simp [linesC]))
 | cons y ys ih =>
  intro i out h0 h ho
  obtain ⟨h1, h2', h3, _⟩ := drop_get h0 h
  have h2 : rdOf ByteArray.empty ts i = y := h2' _
  have hy := hb y (List.mem_of_mem_drop (by rw [h]; exact List.mem_cons_self))
  simp only [List.length_cons] at ho
  obtain ⟨p, ps, hp⟩ : ∃ p ps, bs.drop i.toNat = p :: ps := by
   rcases hd : bs.drop i.toNat with _ | ⟨p, ps⟩
   ·have := List.drop_eq_nil_iff.1 hd; omega
   ·exact ⟨p, ps, rfl⟩
  obtain ⟨g1, g2, g3, _⟩ := drop_cons h0 hp
  have hz : y.data.toList.length = y.size := by rw [Array.length_toList]; rfl
  have hline := specLine_ev y.data.toList p w (by omega)
  rw [mkB_eq] at hline
  refine Ev.step (fun k => spec_ContentsOf.l0.eq_2 ..) ?_
  rw [h2, g2, w64 (x := i + 1) (by omega) (by omega), hp]
  refine ev_pos h1 (ev_pos h0 (ev_pos h1 (ev_pos g1 (Ev.bind hline ?_))))
  by_cases c : (lineM y.data.toList p w).2 = true
  ·refine ev_pos c (ev_pos (by omega) (ev_val (ih (i + 1) _ (by omega) h3 (by simp only [List.length_append, List.length_cons, List.length_nil]; omega)) ?_))
   rw [linesC, if_pos c, g3]
  ·exact ev_neg c (ev_now (by rw [linesC, if_neg c]))
theorem implCont_l (w : Int) (bs : List Int) (ts : List ByteArray) (hn : ts.length ≤ 1048576) (hlen : ts.length ≤ bs.length) (hb : ∀ t ∈ ts, t.size ≤ 1048576) : ∀ (ys : List ByteArray) (i : Int) (out : List ByteArray), 0 ≤ i → ts.drop i.toNat = ys → out.length + ys.length ≤ 10000000 →
  Ev (fun k => impl_ContentsOf.l0 k w bs out ts (ts.length : Int) i) (linesC w ys (bs.drop i.toNat) out) := by
 intro ys
 induction ys with
 | nil =>
  intro i out h0 h _
  have := drop_nil h0 h
  refine Ev.step (fun k => impl_ContentsOf.l0.eq_2 ..) ?_
  exact ev_neg (by omega) (ev_now (by simp [linesC]))
 | cons y ys ih =>
  intro i out h0 h ho
  obtain ⟨h1, h2', h3, _⟩ := drop_get h0 h
  have h2 : rdOf ByteArray.empty ts i = y := h2' _
  have hy := hb y (List.mem_of_mem_drop (by rw [h]; exact List.mem_cons_self))
  simp only [List.length_cons] at ho
  obtain ⟨p, ps, hp⟩ : ∃ p ps, bs.drop i.toNat = p :: ps := by
   rcases hd : bs.drop i.toNat with _ | ⟨p, ps⟩
   ·have := List.drop_eq_nil_iff.1 hd; omega
   ·exact ⟨p, ps, rfl⟩
  obtain ⟨g1, g2, g3, _⟩ := drop_cons h0 hp
  have hz : y.data.toList.length = y.size := by rw [Array.length_toList]; rfl
  have hline := implLine_ev y.data.toList p w (by omega)
  rw [mkB_eq] at hline
  refine Ev.step (fun k => impl_ContentsOf.l0.eq_2 ..) ?_
  rw [h2, g2, w64 (x := i + 1) (by omega) (by omega), hp]
  refine ev_pos h1 (ev_pos h0 (ev_pos h1 (ev_pos g1 (Ev.bind hline ?_))))
  by_cases c : (lineM y.data.toList p w).2 = true
  ·refine ev_pos c (ev_pos (by omega) (ev_val (ih (i + 1) _ (by omega) h3 (by simp only [List.length_append, List.length_cons, List.length_nil]; omega)) ?_))
   rw [linesC, if_pos c, g3]
  ·exact ev_neg c (ev_now (by rw [linesC, if_neg c]))
def contOk (ts : List ByteArray) (cs : List Int) : Bool := goodC cs && decide (ts.length = cs.length)
def contM (ts : List ByteArray) (cs : List Int) (right : Bool) (w : Int) : List ByteArray × Bool := if contOk ts cs = true then linesC w ts (begL right cs 1) [] else ([], false)
theorem contM_small (ts : List ByteArray) (cs : List Int) (right : Bool) (w : Int) : (contM ts cs right w).1.length ≤ 1000 := by
 unfold contM
 split
 ·rename_i h
  simp only [contOk, Bool.and_eq_true, decide_eq_true_eq] at h
  have := linesC_small w ts (begL right cs 1) []
  have := (goodC_true h.1).2.1
  simp only [List.length_nil] at *
  omega
 ·simp
theorem specCont_ev (ts : List ByteArray) (cs : List Int) (right : Bool) (w : Int) (hn : ts.length ≤ 1048576) (hc : cs.length ≤ 1048576) (hb : ∀ t ∈ ts, t.size ≤ 1048576) : Ev (fun k => spec_ContentsOf.f k ts cs right w) (contM ts cs right w) := by
 have fall : ∀ b : Bool, b = true → contOk ts cs = false → Ev (fun k => spec_ContentsOf.j0 k ts cs right w b) (contM ts cs right w) := fun b hb hf => by
  refine Ev.step (fun k => spec_ContentsOf.j0.eq_2 ..) (ev_pos hb (ev_now ?_))
  unfold contM; rw [hf]; rfl
 unfold spec_ContentsOf.f
 refine Ev.bind (caGood_ev cs hc) ?_
 by_cases h1 : goodC cs = true
 ·by_cases h2 : ts.length = cs.length
  ·have hok : contOk ts cs = true := by unfold contOk; rw [h1, decide_eq_true h2]; rfl
   refine ev_pos h1 (Ev.step (fun k => spec_ContentsOf.j0.eq_2 ..) (ev_neg (by simp [h2]) (Ev.bind (caBegin_ev cs right h1) ?_)))
   have hl := begL_length right cs 1
   refine ev_val (specCont_l w _ ts hn (by rw [List.length_append]; omega) hb ts 0 [] (by omega) rfl (by simp only [List.length_nil]; omega)) ?_
   unfold contM
   rw [if_pos hok, Int.toNat_zero, List.drop_zero, linesC_more w _ ts _ [] (by omega)]
  ·exact ev_pos h1 (fall _ (by simp; omega) (by unfold contOk; rw [decide_eq_false h2, Bool.and_false]))
 ·exact ev_neg h1 (fall _ rfl (by unfold contOk; rw [Bool.eq_false_iff.2 h1, Bool.false_and]))
theorem implCont_ev (ts : List ByteArray) (cs : List Int) (right : Bool) (w : Int) (hn : ts.length ≤ 1048576) (hc : cs.length ≤ 1048576) (hb : ∀ t ∈ ts, t.size ≤ 1048576) : Ev (fun k => impl_ContentsOf.f k ts cs right w) (contM ts cs right w) := by
 have fall : ∀ (x : List Int) (b : Bool), b = true → contOk ts cs = false → Ev (fun k => impl_ContentsOf.j0 k ts w x b) (contM ts cs right w) := fun x b hb hf => by
  refine Ev.step (fun k => impl_ContentsOf.j0.eq_2 ..) (ev_pos hb (ev_now ?_))
  unfold contM; rw [hf]; rfl
 unfold impl_ContentsOf.f
 refine Ev.bind (begs_ev cs right hc) ?_
 by_cases h1 : goodC cs = true
 ·rw [if_pos h1]
  by_cases h2 : ts.length = cs.length
  ·have hok : contOk ts cs = true := by unfold contOk; rw [h1, decide_eq_true h2]; rfl
   refine ev_pos rfl (Ev.step (fun k => impl_ContentsOf.j0.eq_2 ..) (ev_neg (by simp [h2]) ?_))
   have hl := begL_length right cs 1
   refine ev_val (implCont_l w (begL right cs 1) ts hn (by omega) hb ts 0 [] (by omega) rfl (by simp only [List.length_nil]; omega)) ?_
   unfold contM
   rw [if_pos hok, Int.toNat_zero, List.drop_zero]
  ·exact ev_pos rfl (fall _ _ (by simp; omega) (by unfold contOk; rw [decide_eq_false h2, Bool.and_false]))
 ·rw [if_neg h1]
  exact ev_neg (by simp) (fall _ _ rfl (by unfold contOk; rw [Bool.eq_false_iff.2 h1, Bool.false_and]))

theorem xSum_l (l : List Int) (hn : l.length ≤ 1048576) (hb : ∀ x ∈ l, 0 ≤ x ∧ x ≤ 1000) : ∀ (ys : List Int) (i s : Int), 0 ≤ i → l.drop i.toNat = ys → 0 ≤ s → s + 1000 * ys.length ≤ 1000000000000 → Ev (fun k => laws_xSum.l0 k s l (l.length : Int) i) (s + ys.sum) := by
 intro ys
 induction ys with
 | nil =>
  intro i s h0 h _ _
  have := drop_nil h0 h
  exact Ev.step (fun k => laws_xSum.l0.eq_2 ..) (ev_neg (by omega) (ev_now (by simp)))
 | cons y ys ih =>
  intro i s h0 h hs hb2
  obtain ⟨h1, h2, h3, _⟩ := drop_cons h0 h
  have hy := hb y (List.mem_of_mem_drop (by rw [h]; exact List.mem_cons_self))
  simp only [List.length_cons] at hb2
  refine Ev.step (fun k => laws_xSum.l0.eq_2 ..) (ev_pos h1 (ev_pos h0 (ev_pos h1 ?_)))
  rw [h2, w64 (x := i + 1) (by omega) (by omega), w64 (by omega) (by omega)]
  exact ev_val (ih (i + 1) (s + y) (by omega) h3 (by omega) (by omega)) (by rw [List.sum_cons]; omega)
theorem xSum_ev (l : List Int) (hn : l.length ≤ 1048576) (hb : ∀ x ∈ l, 0 ≤ x ∧ x ≤ 1000) : Ev (fun k => laws_xSum.f k l) l.sum :=
 ev_val (xSum_l l hn hb l 0 0 (by omega) rfl (by omega) (by omega)) (by omega)
theorem xSame_l (l : List Int) (hn : l.length ≤ 1048576) : ∀ (ys : List Int) (i : Int), 0 ≤ i → l.drop i.toNat = ys → Ev (fun k => laws_xSame.l0 k l l (l.length : Int) i) true := by
 intro ys
 induction ys with
 | nil =>
  intro i h0 h
  have := drop_nil h0 h
  exact Ev.step (fun k => laws_xSame.l0.eq_2 ..) (ev_neg (by omega) (ev_now rfl))
 | cons y ys ih =>
  intro i h0 h
  obtain ⟨h1, h2, h3, _⟩ := drop_cons h0 h
  refine Ev.step (fun k => laws_xSame.l0.eq_2 ..) (ev_pos h1 (ev_pos h0 (ev_pos h1 (ev_pos h1 (ev_pos rfl ?_)))))
  rw [w64 (x := i + 1) (by omega) (by omega)]
  exact ih (i + 1) (by omega) h3
theorem xSame_ev (l : List Int) (hn : l.length ≤ 1048576) : Ev (fun k => laws_xSame.f k l l) true := by
 unfold laws_xSame.f
 exact ev_pos rfl (xSame_l l hn l 0 (by omega) rfl)



end Go.Proofs.YtpedlkhfeoeogaaDoor.Pure
