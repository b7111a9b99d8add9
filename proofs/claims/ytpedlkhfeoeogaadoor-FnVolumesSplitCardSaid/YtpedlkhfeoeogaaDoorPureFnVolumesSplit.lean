/- The law FnVolumesSplit holds for every two byte slices: volumes have all chapters, none more than the least that the greatest one can have, lines of contents are just wide, and Roman numbers are told and read back. No condition but what the card lists. -/
import Derived.Test.YtpedlkhfeoeogaaDoorPFnVolumesSplitx22
import Derived.Laws.Bits64b
import Derived.Test.YtpedlkhfeoeogaaDoorPureVol
namespace Go.Proofs.YtpedlkhfeoeogaaDoor.Pure
open Go.RowKit Go.Proofs.YtpedlkhfeoeogaaDoor.PFnVolumesSplit Go.Proofs.YtpedlkhfeoeogaaDoorW.PrintWords Go.Proofs.YtpedlkhfeoeogaaDoorW.PrintLast


theorem VS_end (s : ByteArray) : Ev (fun _ => if (numR s.toList 399 1).2 = true then ((impl_RomanOf.f (numR s.toList 399 1).1).bind fun bt490 => (if bt490.2 = true then (some (bt490.1.toList == s.toList)) else (some false))) else (some true)) true := by
 rcases numR_true s.toList 399 1 (by omega) (by omega) with h | ⟨j, j1, j2, j3, h⟩
 ·rw [h]; exact ev_neg (by simp) (ev_now rfl)
 ·rw [h]
  have e : impl_RomanOf.f (j : Int) = some (mkB (romanL j), true) := by rw [romanOf_eq, if_pos ⟨by omega, by omega⟩, Int.toNat_natCast]
  refine ev_pos rfl (ev_some e (ev_pos rfl (ev_now ?_)))
  rw [toList_mkB, j3]; simp
theorem VS_j13 (s : ByteArray) : Ev (fun k => laws_FnVolumesSplit.j13 k s (numR s.toList 399 1).1 (numR s.toList 399 1).2 false) true :=
 Ev.step (fun k => laws_FnVolumesSplit.j13.eq_2 ..) (ev_neg (by simp) (VS_end s))
def RomOk (n a b : Int) : Prop := 1 ≤ n ∧ n ≤ 399 → 1 ≤ a ∧ a ≤ n ∧ b = ((romanL a.toNat).length : Int) ∧ ((romanL n.toNat).length : Int) ≤ b
theorem VS_j12 (n a b : Int) (s : ByteArray) (hab : RomOk n a b) : Ev (fun k => laws_FnVolumesSplit.j12 k n (romM n).1 (romM n).2 a b s (numR s.toList 399 1).1 (numR s.toList 399 1).2) true := by
 refine Ev.step (fun k => laws_FnVolumesSplit.j12.eq_2 ..) ?_
 by_cases h : 1 ≤ n ∧ n ≤ 399
 ·obtain ⟨a1, a2, a3, a4⟩ := hab h
  have e : romM n = (mkB (romanL n.toNat), true) := if_pos h
  have hn := implNum_l (mkB (romanL n.toNat)) 399 1 (by omega) (by omega)
  rw [toList_mkB, numR_ok n.toNat (by omega) (by omega)] at hn
  have hr := romanOf_eq a
  rw [if_pos ⟨by omega, by omega⟩] at hr
  rw [e]
  refine ev_pos rfl (Ev.bind (show Ev (fun k => impl_NumberOfRoman.f k (mkB (romanL n.toNat))) _ from hn) (ev_some hr (ev_pos rfl (ev_pos (by simp only; omega) (ev_pos rfl (ev_pos (by simp only [mkB_size]; omega) (ev_neg (by simp only [mkB_size]; omega) ?_)))))))
  rw [decide_eq_false (by omega)]
  exact VS_j13 s
 ·have e : romM n = (⟨#[]⟩, false) := if_neg h
  rw [e]
  exact ev_neg (by simp) (VS_end s)
theorem linesC_at (w : Int) : ∀ (ts : List ByteArray) (ps : List Int) (out : List ByteArray), ts.length ≤ ps.length → (linesC w ts ps out).2 = true →
  ∃ lns, linesC w ts ps out = (out ++ lns, true) ∧ lns.length = ts.length ∧ ∀ j : Nat, j < ts.length → lineM (ts.getD j ByteArray.empty).data.toList (ps.getD j 0) w = (lns.getD j ByteArray.empty, true)
 | [], ps, out, _, _ => ⟨[], by simp [linesC], rfl, fun j h => by simp at h⟩
 | t :: ts, [], out, h, _ => by simp at h
 | t :: ts, p :: ps, out, hl, h => by
  rw [linesC] at h ⊢
  by_cases c : (lineM t.data.toList p w).2 = true
  ·rw [if_pos c] at h ⊢
   obtain ⟨lns, h1, h2, h3⟩ := linesC_at w ts ps _ (by simpa using hl) h
   refine ⟨(lineM t.data.toList p w).1 :: lns, by rw [h1, List.append_assoc]; rfl, by simp [h2], fun j hj => ?_⟩
   cases j with
   | zero => exact Prod.ext rfl c
   | succ j => simpa using h3 j (by simpa using hj)
  ·rw [if_neg c] at h; cases h
theorem VS_l1 (w : Int) (ts lns : List ByteArray) (bs : List Int) (n a b : Int) (s : ByteArray) (hab : RomOk n a b) (ht : ts.length ≤ 1000) (hb : ts.length ≤ bs.length) (hl : lns.length = ts.length) (hsz : ∀ t ∈ ts, t.size ≤ 100)
  (hat : ∀ j : Nat, j < ts.length → lineM (ts.getD j ByteArray.empty).data.toList (bs.getD j 0) w = (lns.getD j ByteArray.empty, true)) : ∀ (d i : Nat), i + d = ts.length →
  Ev (fun k => laws_FnVolumesSplit.l1 k w lns n (romM n).1 (romM n).2 a b s (numR s.toList 399 1).1 (numR s.toList 399 1).2 bs ts (ts.length : Int) (i : Int)) true := by
 intro d
 induction d with
 | zero =>
  intro i h
  exact Ev.step (fun k => laws_FnVolumesSplit.l1.eq_2 ..) (ev_neg (by omega) (VS_j12 n a b s hab))
 | succ d ih =>
  intro i h
  have hi := hat i (by omega)
  have e2 : wrap64 ((i : Int) + 1) = ((i + 1 : Nat) : Int) := by rw [w64 (by omega) (by omega)]; omega
  have hm : ts.getD i ByteArray.empty ∈ ts := by
   rw [List.getD_eq_getElem?_getD, List.getElem?_eq_getElem (by omega)]; exact List.getElem_mem _
  have hz := hsz _ hm
  have hq : (ts.getD i ByteArray.empty).data.toList.length = (ts.getD i ByteArray.empty).size := by rw [Array.length_toList]; rfl
  have hline := implLine_ev (ts.getD i ByteArray.empty).data.toList (bs.getD i 0) w (by omega)
  rw [hi, mkB_eq] at hline
  have r1 : rdOf ByteArray.empty ts (i : Int) = ts.getD i ByteArray.empty := by unfold rdOf; rw [Int.toNat_natCast]
  have r2 : rd bs (i : Int) = bs.getD i 0 := by unfold rd; rw [Int.toNat_natCast]
  have r3 : rdOf ByteArray.empty lns (i : Int) = lns.getD i ByteArray.empty := by unfold rdOf; rw [Int.toNat_natCast]
  refine Ev.step (fun k => laws_FnVolumesSplit.l1.eq_2 ..) ?_
  rw [r1, r2, r3, e2]
  exact ev_pos (by omega) (ev_pos (by omega) (ev_pos (by omega) (ev_pos (by omega) (Ev.bind hline (ev_pos rfl (ev_pos (by omega) (ev_pos rfl (ih (i + 1) (by omega)))))))))
theorem VS_j9 (ts : List ByteArray) (cs : List Int) (side : Bool) (w n a b : Int) (s : ByteArray) (hab : RomOk n a b) (ht : ts.length ≤ 1000) (hsz : ∀ t ∈ ts, t.size ≤ 100) (_hc : cs.length ≤ 1000) :
  Ev (fun k => laws_FnVolumesSplit.j9 k ts cs side w (contM ts cs side w).1 (contM ts cs side w).2 n (romM n).1 (romM n).2 a b s (numR s.toList 399 1).1 (numR s.toList 399 1).2 false) true := by
 refine Ev.step (fun k => laws_FnVolumesSplit.j9.eq_2 ..) (ev_neg (by simp) ?_)
 by_cases h : (contM ts cs side w).2 = true
 ·have hok : contOk ts cs = true := by
   by_cases q : contOk ts cs = true
   ·exact q
   ·unfold contM at h; rw [if_neg q] at h; cases h
  have e0 : contM ts cs side w = linesC w ts (begL side cs 1) [] := by unfold contM; rw [if_pos hok]
  simp only [contOk, Bool.and_eq_true, decide_eq_true_eq] at hok
  have hbl := begL_length side cs 1
  rw [e0] at h ⊢
  obtain ⟨lns, h1, h2, h3⟩ := linesC_at w ts (begL side cs 1) [] (by omega) h
  rw [List.nil_append] at h1
  have hbeg := begs_ev cs side (by omega)
  rw [if_pos hok.1] at hbeg
  rw [h1]
  refine ev_pos rfl (Ev.bind hbeg (ev_pos rfl (Ev.step (fun k => laws_FnVolumesSplit.j10.eq_2 ..) (ev_neg (by simp [h2]) ?_))))
  exact VS_l1 w ts lns (begL side cs 1) n a b s hab ht (by omega) h2 hsz h3 ts.length 0 (by omega)
 ·exact ev_neg h (VS_j12 n a b s hab)
theorem VS_j8 (t : ByteArray) (htz : t.size ≤ 100) (p wd : Int) (ts : List ByteArray) (cs : List Int) (side : Bool) (w n a b : Int) (s : ByteArray) (hab : RomOk n a b) (ht : ts.length ≤ 1000) (hsz : ∀ t ∈ ts, t.size ≤ 100) (hc : cs.length ≤ 1000) :
  Ev (fun k => laws_FnVolumesSplit.j8 k t wd (lineM t.data.toList p wd).1 (lineM t.data.toList p wd).2 ts cs side w (contM ts cs side w).1 (contM ts cs side w).2 n (romM n).1 (romM n).2 a b s (numR s.toList 399 1).1 (numR s.toList 399 1).2) true := by
 have h9 := VS_j9 ts cs side w n a b s hab ht hsz hc
 refine Ev.step (fun k => laws_FnVolumesSplit.j8.eq_2 ..) ?_
 by_cases h : (lineM t.data.toList p wd).2 = true
 ·have hok : okL t.data.toList p wd = true := by
   by_cases q : okL t.data.toList p wd = true
   ·exact q
   ·unfold lineM at h; rw [if_neg q] at h; cases h
  have hd : ¬ dotsZ t.data.toList p wd < 1 := fun q => by unfold lineM at h; rw [if_pos hok, if_pos q] at h; cases h
  have e : lineM t.data.toList p wd = (mkB (lineL t.data.toList p wd), true) := by unfold lineM; rw [if_pos hok, if_neg hd]
  have htl : t.data.toList.length = t.size := by rw [Array.length_toList]; rfl
  obtain ⟨dd, hdd⟩ : ∃ dd : Nat, (dotsZ t.data.toList p wd).toNat = dd + 1 := ⟨(dotsZ t.data.toList p wd).toNat - 1, by omega⟩
  have hrep : (Lib.repeatL [46] (dd + 1) : List UInt8) = 46 :: Lib.repeatL [46] dd := by simp [Lib.repeatL]
  have hlen : ((lineL t.data.toList p wd).length : Int) = wd := by
   have hrl : (Lib.repeatL [46] (dotsZ t.data.toList p wd).toNat : List UInt8).length = (dotsZ t.data.toList p wd).toNat := by rw [Lib.repeatL_length]; simp
   unfold lineL
   simp only [List.length_append, List.length_cons, hrl]
   unfold dotsZ at hd ⊢
   omega
  have hd1 : (lineL t.data.toList p wd).drop t.size = 32 :: (Lib.repeatL [46] (dotsZ t.data.toList p wd).toNat ++ 32 :: ndd p) := by
   unfold lineL; rw [← htl]; exact List.drop_left
  have hd2 : (lineL t.data.toList p wd).drop (t.size + 1) = 46 :: (Lib.repeatL [46] dd ++ 32 :: ndd p) := by
   rw [← List.drop_drop, hd1, List.drop_succ_cons, List.drop_zero, hdd, hrep, List.cons_append]
  have hll : (lineL t.data.toList p wd).length = t.size + 1 + (1 + (Lib.repeatL [46] dd ++ 32 :: ndd p).length) := by
   have := congrArg List.length hd2
   rw [List.length_drop, List.length_cons] at this
   omega
  have ew : wrap64 ((t.size : Int) + 1) = ((t.size + 1 : Nat) : Int) := by rw [w64 (by omega) (by omega)]; omega
  have b1 : bt (mkB (lineL t.data.toList p wd)) (t.size : Int) = 32 := by rw [bt_mkB hd1]; rfl
  have b2 : bt (mkB (lineL t.data.toList p wd)) ((t.size + 1 : Nat) : Int) = 46 := by rw [bt_mkB hd2]; rfl
  have hx : (mkB (lineL t.data.toList p wd)).extract 0 t.size = t := by
   rw [mkB_slice, List.drop_zero]
   unfold lineL
   rw [← htl, List.take_left, mkB_eq]
  rw [e]
  simp only
  rw [ew, Int.toNat_natCast, hx, b1, b2, mkB_size]
  clear ew
  refine ev_pos trivial (ev_pos hlen (ev_pos (by omega) (ev_pos (by omega) (ev_pos rfl (ev_pos (by omega) (ev_pos rfl (ev_pos (by omega) (ev_pos (by omega) ?_))))))))
  exact h9
 ·exact ev_neg h h9
theorem VS_j6 (u : List Int) (m : Int) (hu : u.length ≤ 1000) (t : ByteArray) (htz : t.size ≤ 100) (p wd : Int) (ts : List ByteArray) (cs : List Int) (side : Bool) (w n a b : Int) (s : ByteArray) (hab : RomOk n a b) (ht : ts.length ≤ 1000) (hsz : ∀ t ∈ ts, t.size ≤ 100) (hc : cs.length ≤ 1000) :
  Ev (fun k => laws_FnVolumesSplit.j6 k u m (fewV u m).1 (fewV u m).2 t wd (lineM t.data.toList p wd).1 (lineM t.data.toList p wd).2 ts cs side w (contM ts cs side w).1 (contM ts cs side w).2 n (romM n).1 (romM n).2 a b s (numR s.toList 399 1).1 (numR s.toList 399 1).2 false) true := by
 have h8 := VS_j8 t htz p wd ts cs side w n a b s hab ht hsz hc
 refine Ev.step (fun k => laws_FnVolumesSplit.j6.eq_2 ..) (ev_neg (by simp) ?_)
 by_cases hf : fewB u m = true
 ·obtain ⟨ho, g1, gm, gx, gg⟩ := fewB_true hf
  have e : fewV u m = (gV m u 0, true) := if_pos hf
  have hp := gV_pos m u (fun n hn => (gx n hn).1) g1
  have hlen := gV_len m u 0
  have hsum := gV_sum m u 0 gx (by omega)
  have hs := xSum_ev u (by omega) (fun x hx => by have := ho.2 x hx; omega)
  have h12 := ho.1
  have hmul : gV m u 0 * m ≤ 12 * 1440 := Int.mul_le_mul (by omega) gm.2 (by omega) (by omega)
  have hmul0 : 0 ≤ gV m u 0 * m := Int.mul_nonneg (by omega) (by omega)
  rw [e]
  refine ev_pos rfl (ev_neg (by simp only; omega) (ev_neg (by simp only; omega) (Ev.bind hs ?_)))
  simp only
  rw [w64 (x := gV m u 0 * m) (by omega) (by omega), decide_eq_false (by omega)]
  refine Ev.step (fun k => laws_FnVolumesSplit.j7.eq_2 ..) (ev_neg (by simp) ?_)
  by_cases c5 : gV m u 0 ≤ 5
  ·refine ev_pos c5 ?_
   rcases volAll u (gV m u 0) (by omega) with ⟨h1, _⟩ | ⟨v, r, _, _, e1, e2, _, hL, _, _, h3, _⟩
   ·exfalso
    unfold askedB at h1
    rw [gg, decide_eq_true ⟨hp, c5, hlen⟩] at h1
    cases h1
   ·have hr : r ≤ m := (hL m).2 (g_fit m v u gx e2 (by omega))
    exact Ev.bind h3 (ev_pos rfl (ev_neg (by simp only; omega) h8))
  ·exact ev_neg c5 h8
 ·have e : fewV u m = (0, false) := if_neg hf
  rw [e]
  exact ev_neg (by simp) h8
theorem contM_bd (ts : List ByteArray) (cs : List Int) (side : Bool) (w : Int) : (contM ts cs side w).1.length ≤ 1048576 := by have := contM_small ts cs side w; omega
theorem VS_j5 (c : List Int) (hc : byteL c) : Ev (fun k => laws_FnVolumesSplit.j5 k c) true := by
 obtain ⟨u, m, eu, hu⟩ := drawFew c hc
 obtain ⟨t, p, wd, et, htz⟩ := drawCL c hc
 obtain ⟨ts, cs, side, w, ec, ht, hsz, hcl⟩ := drawCO c hc
 obtain ⟨n, en⟩ := drawRo c hc
 obtain ⟨s, es⟩ := drawNR c hc
 obtain ⟨a, b, l1, l2, hab⟩ := longRom n
 have h6 := VS_j6 u m (by omega) t htz p wd ts cs side w n a b s hab ht hsz (by omega)
 have htl : t.data.toList.length = t.size := by rw [Array.length_toList]; rfl
 have i1 := implLine_ev t.data.toList p wd (by omega)
 have i2 := specLine_ev t.data.toList p wd (by omega)
 rw [mkB_eq] at i1 i2
 have hb : ∀ t ∈ ts, t.size ≤ 1048576 := fun t h => by have := hsz t h; omega
 have c1 := implCont_ev ts cs side w (by omega) (by omega) hb
 have c2 := specCont_ev ts cs side w (by omega) (by omega) hb
 have hr : impl_RomanOf.f n = some (romM n) := romanOf_eq n
 have ho : romM n = (if 1 ≤ n ∧ n ≤ 399 then (mkB (romanL n.toNat), true) else (⟨#[]⟩, false)) := rfl
 have hd : decide (1 ≤ n ∧ n ≤ 399) = (romM n).2 := by
  rw [ho]
  by_cases q : 1 ≤ n ∧ n ≤ 399
  ·rw [if_pos q, decide_eq_true q]
  ·rw [if_neg q, decide_eq_false q]
 have n1 := implNum_l s 399 1 (by omega) (by omega)
 have n2 := specNum_l s 399 1 (by omega) (by omega)
 have hx := xTexts_ev (contM ts cs side w).1 (contM_bd ts cs side w)
 refine Ev.step (fun k => laws_FnVolumesSplit.j5.eq_2 ..) ?_
 refine Ev.bind eu (Ev.bind (implFew_ev u m (by omega)) (Ev.bind (specFew_ev u m (by omega)) (Ev.bind et (Ev.bind i1 (Ev.bind i2 (Ev.bind ec (Ev.bind c1 (Ev.bind c2 (Ev.bind en (ev_some hr (Ev.bind (specRomOf_ev n) (Ev.bind l1 (Ev.bind l2 (Ev.bind es (Ev.bind (show Ev (fun k => impl_NumberOfRoman.f k s) _ from n1) (Ev.bind (show Ev (fun k => spec_NumberOfRoman.f k s) _ from n2) ?_))))))))))))))))
 refine ev_neg (by simp) (ev_pos rfl (ev_neg (by simp) (ev_pos rfl (ev_neg (by simp) (Ev.bind hx (ev_pos rfl (ev_neg (by simp) (ev_pos rfl (ev_neg (by simp) (ev_pos rfl (ev_pos rfl (ev_neg (by simp) (ev_pos rfl ?_)))))))))))))
 simp only
 rw [hd, show ((romM n).2 != (romM n).2) = false from by simp]
 exact h6
theorem VS_j4 (c : List Int) (hc : byteL c) (xs : List Int) (v : Nat) (r : Int) (ho : okC xs) (hl : v + 1 ≤ xs.length) (hL : IsLeast v xs r) : Ev (fun k => laws_FnVolumesSplit.j4 k c xs ((v : Int) + 1) r false) true := by
 have h5 := VS_j5 c hc
 obtain ⟨ha, r1, r2, r3⟩ := least_facts ho hl hL
 have h12 := ho.1
 refine Ev.step (fun k => laws_FnVolumesSplit.j4.eq_2 ..) (ev_neg (by simp) ?_)
 by_cases q : r > 1
 ·have hf := implFew_ev xs (r - 1) (by omega)
  refine ev_pos q ?_
  rw [w64 (x := r - 1) (by omega) (by omega)]
  refine Ev.bind hf ?_
  by_cases hb : fewB xs (r - 1) = true
  ·have e : fewV xs (r - 1) = (gV (r - 1) xs 0, true) := if_pos hb
   obtain ⟨_, _, _, gx, _⟩ := fewB_true hb
   rw [e]
   refine ev_pos rfl (ev_neg (fun z => ?_) h5)
   have := (hL (r - 1)).2 (g_fit (r - 1) v xs gx hl z)
   omega
  ·have e : fewV xs (r - 1) = (0, false) := if_neg hb
   rw [e]
   exact ev_neg (by simp) h5
 ·exact ev_neg q h5
theorem VS_l0 (c : List Int) (hc : byteL c) (xs : List Int) (v : Nat) (r : Int) (ho : okC xs) (hg : goodC xs = true) (hl : v + 1 ≤ xs.length) (hv : v ≤ 4) (hL : IsLeast v xs r) (sp : List Int) (hsp : sp.length ≤ 1000) : ∀ (ks : List Int) (i : Int) (at_ : Nat) (g : Int), 0 ≤ i → sp.drop i.toNat = ks → (∀ k ∈ ks, 1 ≤ k) → (at_ : Int) + ks.sum = (xs.length : Int) → grt ks (xs.drop at_) g = r →
  Ev (fun k => laws_FnVolumesSplit.l0 k c xs ((v : Int) + 1) r (at_ : Int) g sp (sp.length : Int) i) true := by
 obtain ⟨ha, r1, r2, r3⟩ := least_facts ho hl hL
 have h12 := ho.1
 intro ks
 induction ks with
 | nil =>
  intro i at_ g h0 h _ _ hgr
  have := drop_nil h0 h
  have hb : fewB xs r = true := by
   unfold fewB; rw [hg, decide_eq_true ⟨r1, r2⟩, decide_eq_true (fun n hn => (ha n hn).2)]; rfl
  have e : fewV xs r = (gV r xs 0, true) := if_pos hb
  have hf := implFew_ev xs r (by omega)
  rw [e] at hf
  have hs := xSum_ev xs (by omega) (fun x hx => by have := ho.2 x hx; omega)
  have hm := fit_mul r v xs ((hL r).1 (Int.le_refl _))
  have hb1 : r * ((v : Int) + 1) ≤ 1440 * 5 := Int.mul_le_mul r2 (by omega) (by omega) (by omega)
  have hb0 : 0 ≤ r * ((v : Int) + 1) := Int.mul_nonneg (by omega) (by omega)
  rw [grt] at hgr
  refine Ev.step (fun k => laws_FnVolumesSplit.l0.eq_2 ..) (ev_neg (by omega) (Ev.bind hf (ev_pos hgr (ev_pos rfl (ev_neg (by simp only; omega) (Ev.bind hs ?_))))))
  rw [w64 (x := r * ((v : Int) + 1)) (by omega) (by omega), decide_eq_false (by omega)]
  exact VS_j4 c hc xs v r ho hl hL
 | cons y ks ih =>
  intro i at_ g h0 h hk hsum hgr
  obtain ⟨h1, h2, h3, _⟩ := drop_cons h0 h
  have hy := hk y List.mem_cons_self
  have hks : ∀ k ∈ ks, 1 ≤ k := fun k hk' => hk k (List.mem_cons_of_mem _ hk')
  have hnn := sum_nn hks
  rw [List.sum_cons] at hsum
  obtain ⟨yn, rfl⟩ : ∃ yn : Nat, y = (yn : Int) := ⟨y.toNat, by omega⟩
  have ew : wrap64 ((at_ : Int) + (yn : Int)) = ((at_ + yn : Nat) : Int) := by rw [w64 (by omega) (by omega)]; omega
  have esl : (xs.take (at_ + yn)).drop at_ = (xs.drop at_).take yn := by rw [List.drop_take]; congr 1; omega
  have hoo := okC_take (okC_drop ho at_) yn
  have hxs := xSum_ev ((xs.drop at_).take yn) (by have := hoo.1; omega) (fun x hx => by have := hoo.2 x hx; omega)
  rw [grt, Int.toNat_natCast, List.drop_drop] at hgr
  refine Ev.step (fun k => laws_FnVolumesSplit.l0.eq_2 ..) (ev_pos h1 (ev_pos h0 (ev_pos h1 ?_)))
  rw [h2, ew]
  have EW := Aside0.mk ew
  clear ew
  refine ev_neg (by omega) ?_
  rw [decide_eq_false (by omega)]
  refine Ev.step (fun k => laws_FnVolumesSplit.j3.eq_2 ..) (ev_neg (by simp) (ev_pos (by omega) ?_))
  rw [EW.out]
  refine ev_pos (by omega) (ev_pos (by omega) ?_)
  rw [Int.toNat_natCast, Int.toNat_natCast, esl, w64 (x := i + 1) (by omega) (by omega)]
  refine Ev.bind hxs ?_
  by_cases q : ((xs.drop at_).take yn).sum > g
  ·rw [if_pos q] at hgr
   exact ev_pos q (ih (i + 1) (at_ + yn) _ (by omega) h3 hks (by omega) hgr)
  ·rw [if_neg q] at hgr
   exact ev_neg q (ih (i + 1) (at_ + yn) _ (by omega) h3 hks (by omega) hgr)
theorem FnVolumesSplit (c d : List Int) (_hc : c.length ≤ 9223372036854775807) (hcb : ∀ s ∈ c, (Lit.int .u8 s).wf = true) (_hd : d.length ≤ 9223372036854775807) (hdb : ∀ s ∈ d, (Lit.int .u8 s).wf = true) : ∃ k, laws_FnVolumesSplit.f k c d = some true := by
 refine Ev.rounds ?_
 have hb : ∀ l : List Int, (∀ s ∈ l, (Lit.int .u8 s).wf = true) → byteL l := fun l h x hx => by
  have := h x hx
  simp [Lit.wf, IntKind.min, IntKind.max, IntKind.signed, IntKind.bits] at this
  omega
 obtain ⟨xs, a, ed, hl⟩ := drawFV c (hb c hcb)
 have h5 := VS_j5 d (hb d hdb)
 unfold laws_FnVolumesSplit.f
 obtain ⟨b, eb⟩ : ∃ b, laws_big.f c d = some b := by
  unfold laws_big.f
  split
  ·exact ⟨_, rfl⟩
  ·exact ⟨_, rfl⟩
 refine ev_some eb ?_
 by_cases hbb : b = true
 ·exact ev_pos hbb (ev_now rfl)
 refine ev_neg hbb (Ev.bind ed ?_)
 rcases volAll xs a (by omega) with ⟨_, h1, h2, h3, h4⟩ | ⟨v, r, ho, hg, rfl, hvl, hv4, hL, h1, h2, h3, h4⟩
 ·refine Ev.bind h1 (Ev.bind h2 (Ev.bind h3 (Ev.bind h4 (ev_neg (by simp) (Ev.bind (xSame_ev [] (by simp)) (ev_pos rfl (ev_neg (by simp) (ev_pos rfl ?_))))))))
  exact Ev.step (fun k => laws_FnVolumesSplit.j0.eq_2 ..) (ev_neg (by simp) (ev_neg (by simp) h5))
 ·obtain ⟨ha, r1, r2, r3⟩ := least_facts ho hvl hL
  have h12 := ho.1
  have hlen := fvs_len r v xs
  obtain ⟨hs, hk⟩ := fvs_good r v xs ha hvl r3
  have hle := grt_le r v xs 0 ha hvl r3 (by omega)
  have hge := (hL (grt (fvs r v xs) xs 0)).2 (grt_fit r v xs 0 _ ha hvl r3 (Int.le_refl _))
  have hsum := xSum_ev (fvs r v xs) (by omega) (fun k hk' => by have := hk k hk'; omega)
  rw [hs] at hsum
  refine Ev.bind h1 (Ev.bind h2 (Ev.bind h3 (Ev.bind h4 (ev_neg (by simp) (Ev.bind (xSame_ev (fvs r v xs) (by omega)) (ev_pos rfl (ev_neg (by simp) (ev_pos rfl ?_))))))))
  refine Ev.step (fun k => laws_FnVolumesSplit.j0.eq_2 ..) (ev_neg (by simp) (ev_pos rfl (ev_pos (by rw [hlen]; omega) (Ev.bind hsum ?_))))
  rw [show ((xs.length : Int) != (xs.length : Int)) = false from by simp]
  refine Ev.step (fun k => laws_FnVolumesSplit.j1.eq_2 ..) (ev_neg (by simp) ?_)
  exact VS_l0 d (hb d hdb) xs v r ho hg hvl hv4 hL (fvs r v xs) (by omega) (fvs r v xs) 0 0 0 (by omega) rfl (fun k hk' => (hk k hk').1) (by omega) (by rw [List.drop_zero]; omega)

end Go.Proofs.YtpedlkhfeoeogaaDoor.Pure
