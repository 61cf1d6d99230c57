/-
  Plain law: a frame with bits turned behind its first two bytes, within 32, isn't found.
-/
import Derived.Test.YtpkgfajphkabcaaFrScanW
import Derived.Test.YtpkgfajphkabcaaSumFlip
namespace Go.Proofs.Ytpkgfajphkabcaa
open Go.RowKit SumP

theorem numOf_app (l m : List Bool) : numOf (l ++ m) = numOf l + 2 ^ l.length * numOf m := by
  induction l with
  | nil => simp [numOf]
  | cons b l ih =>
    rw [List.cons_append, numOf, numOf, ih, List.length_cons, Nat.pow_succ, Nat.mul_comm (2 ^ l.length) 2, Nat.mul_assoc]
    omega
theorem numOf_allBits (l : List Nat) (h : ∀ x ∈ l, x < 256) : numOf (allBits l) = leN l := by
  induction l with
  | nil => rfl
  | cons x l ih =>
    show numOf (bitsOf 8 x ++ allBits l) = _
    rw [numOf_app, numOf_bitsOf 8 x (h x (by simp)), ih (fun y hy => h y (by simp [hy]))]
    simp [bitsOf, leN]
theorem inv_xor (c : Nat) (hc : c < 4294967296) : inv c ^^^ c = 4294967295 := by
  apply Nat.eq_of_testBit_eq
  intro i
  have e1 : inv c = 2 ^ 32 - (c + 1) := by unfold inv; omega
  rw [Nat.testBit_xor, e1, Nat.testBit_two_pow_sub_succ (by omega), show (4294967295 : Nat) = 2 ^ 32 - 1 from rfl, Nat.testBit_two_pow_sub_one]
  by_cases hi : i < 32
  · simp [hi]
  · have : c.testBit i = false := Nat.testBit_lt_two_pow (Nat.lt_of_lt_of_le hc (by
      have := Nat.pow_le_pow_right (n := 2) (by decide) (show 32 ≤ i by omega)
      simpa using this))
    simp [hi, this]
/-- What the sum of bytes with their own sum behind them is. -/
def resid : Nat := inv (shN 32 4294967295)
theorem on_resid (m t : List Nat) (hm : ∀ x ∈ m, x < 256) (ht : ∀ x ∈ t, x < 256) (h4 : t.length = 4) (h : leN t = on 0 m) : on 0 (m ++ t) = resid := by
  rw [← on_append 0 m t hm]
  have hc : on 0 m < 4294967296 := on_lt 0 m
  rw [← h] at hc ⊢
  unfold on resid
  rw [crc_bits _ t ht, feedBits_eq, numOf_allBits t ht, length_allBits, h4, inv_xor _ hc]
theorem flip1_app (A B : List Nat) (j : Nat) : flip1 (A ++ B) (8 * A.length + j) = A ++ flip1 B j := by
  unfold flip1
  have e1 : (8 * A.length + j) / 8 = A.length + j / 8 := by omega
  have e2 : (8 * A.length + j) % 8 = j % 8 := by omega
  rw [e1, e2, List.set_append_right _ _ (by omega), Nat.add_sub_cancel_left]
  congr 3
  rw [List.getD_eq_getElem?_getD, List.getD_eq_getElem?_getD, List.getElem?_append_right (by omega), Nat.add_sub_cancel_left]
theorem turns_app (a j bu n k : Nat) : turnsAt (8 * a + j) bu (a + n) k = turnsAt j bu n k := by
  unfold turnsAt
  congr 1
  simp only [decide_eq_decide]
  omega
theorem flips_app (A B : List Nat) (j bu k : Nat) : flips (A ++ B) (8 * A.length + j) bu k = A ++ flips B j bu k := by
  induction k with
  | zero => rfl
  | succ k ih =>
    unfold flips
    rw [List.length_append, turns_app, ih]
    split
    · rw [show 8 * A.length + j + k = 8 * A.length + (j + k) by omega, flip1_app]
    · rfl
theorem any_app (a j bu n k : Nat) : anyTurn (8 * a + j) bu (a + n) k = anyTurn j bu n k := by
  induction k with
  | zero => rfl
  | succ k ih => unfold anyTurn; rw [turns_app, ih]
theorem flips_head (B : List Nat) (j bu k : Nat) (hj : 16 ≤ j) : (flips B j bu k).take 2 = B.take 2 := by
  induction k with
  | zero => rfl
  | succ k ih =>
    unfold flips
    split
    · unfold flip1
      rw [List.take_set_of_le (by omega), ih]
    · exact ih
theorem flips_none (B : List Nat) (j bu k : Nat) (h : anyTurn j bu B.length k = false) : flips B j bu k = B := by
  induction k with
  | zero => rfl
  | succ k ih =>
    unfold anyTurn at h
    unfold flips
    split at h
    · cases h
    · rename_i h1
      rw [if_neg h1, ih h]

/-- A frame is found where it stands. -/
theorem nx0_fr (p rest : List Nat) (h1 : 1 ≤ p.length) (h2 : p.length ≤ 16384) : nx0 (fr p ++ rest) = (p, 0) := by
  have hl := fr_len p
  rw [if_neg (by omega)] at hl
  have hf : fr p = hd p ++ putN 4 (on 0 (hd p)) := by unfold fr; rw [if_neg (by omega)]
  have hdl : (hd p).length = 2 + p.length := by unfold hd; simp [putN_len]
  have ht : (fr p ++ rest).take 2 = putN 2 p.length := by
    rw [hf]
    unfold hd
    rw [List.append_assoc, List.append_assoc, List.take_append_of_le_length (by rw [putN_len]; exact Nat.le_refl _), List.take_of_length_le (by rw [putN_len]; exact Nat.le_refl _)]
  have hu : leN ((fr p ++ rest).take 2) = p.length := by
    rw [ht, leN_putN', Nat.mod_eq_of_lt (by omega)]
  unfold nx0
  rw [hu, if_neg (by simp [hl]; omega), if_neg (by omega), if_neg (by simp [hl])]
  have e1 : (fr p ++ rest).take (2 + p.length) = hd p := by
    rw [hf, List.append_assoc, List.take_append_of_le_length (by omega), List.take_of_length_le (by omega)]
  have e2 : ((fr p ++ rest).drop (2 + p.length)).take 4 = putN 4 (on 0 (hd p)) := by
    rw [hf, List.append_assoc, List.drop_append_of_le_length (by omega), List.drop_of_length_le (by omega), List.nil_append, List.take_append_of_le_length (by rw [putN_len]; exact Nat.le_refl _), List.take_of_length_le (by rw [putN_len]; exact Nat.le_refl _)]
  have e3 : ((fr p ++ rest).drop 2).take p.length = p := by
    rw [hf]
    unfold hd
    rw [List.append_assoc, List.append_assoc, List.drop_append_of_le_length (by rw [putN_len]; exact Nat.le_refl _), List.drop_of_length_le (by rw [putN_len]; exact Nat.le_refl _), List.nil_append, List.take_append_of_le_length (Nat.le_refl _), List.take_of_length_le (Nat.le_refl _)]
  rw [e1, e2, e3, leN_putN', Nat.mod_eq_of_lt (by have := on_lt 0 (hd p); simpa using this), if_neg (by simp)]
theorem nx_fr (pre p rest : List Nat) (h1 : 1 ≤ p.length) (h2 : p.length ≤ 16384) : nx (pre ++ (fr p ++ rest)) (pre.length : Nat) = (p, ((pre.length + 6 + p.length : Nat) : Int), 0) := by
  unfold nx
  rw [if_neg (by simp; omega), Int.toNat_natCast, List.drop_append_of_le_length (Nat.le_refl _), List.drop_of_length_le (Nat.le_refl _), List.nil_append, nx0_fr p rest h1 h2]
  simp
/-- A turned frame isn't. -/
theorem nx0_turned (q : List Nat) (j bu : Nat) (hq : ∀ x ∈ q, x < 256) (h1 : 1 ≤ q.length) (h2 : q.length ≤ 16384) (hj : 16 ≤ j) (ht : anyTurn j bu (fr q).length 32 = true) : (nx0 (flips (fr q) j bu 32)).2 ≠ 0 := by
  have hl := fr_len q
  rw [if_neg (by omega)] at hl
  have hf : fr q = hd q ++ putN 4 (on 0 (hd q)) := by unfold fr; rw [if_neg (by omega)]
  have h8 := fr_lt q hq
  have hr8 := flips_lt (fr q) j bu 32 h8
  have hrl := length_flips (fr q) j bu 32
  have hun := unlike 0 (fr q) j bu h8
  rw [ht] at hun
  have hhd := flips_head (fr q) j bu 32 hj
  have ht2 : (fr q).take 2 = putN 2 q.length := by
    rw [hf]
    unfold hd
    rw [List.append_assoc, List.take_append_of_le_length (by rw [putN_len]; exact Nat.le_refl _), List.take_of_length_le (by rw [putN_len]; exact Nat.le_refl _)]
  have hu : leN ((flips (fr q) j bu 32).take 2) = q.length := by
    rw [hhd, ht2, leN_putN', Nat.mod_eq_of_lt (by omega)]
  generalize flips (fr q) j bu 32 = r at *
  intro h0
  unfold nx0 at h0
  rw [hu, if_neg (by omega), if_neg (by omega), if_neg (by omega)] at h0
  by_cases hc : leN ((r.drop (2 + q.length)).take 4) ≠ on 0 (r.take (2 + q.length))
  · rw [if_pos hc] at h0; simp at h0
  · have hc : leN ((r.drop (2 + q.length)).take 4) = on 0 (r.take (2 + q.length)) := by simpa using hc
    have hd4 : (r.drop (2 + q.length)).length = 4 := by simp; omega
    rw [List.take_of_length_le (by omega)] at hc
    have hr := on_resid _ _ (fun x hx => hr8 x (List.mem_of_mem_take hx)) (fun x hx => hr8 x (List.mem_of_mem_drop hx)) hd4 hc
    rw [List.take_append_drop] at hr
    have hq0 : on 0 (fr q) = resid := by
      rw [hf]
      refine on_resid _ _ ?_ (putN_lt _ _) (putN_len _ _) ?_
      · intro x hx
        unfold hd at hx
        rcases List.mem_append.1 hx with hx | hx
        · exact putN_lt _ _ x hx
        · exact hq x hx
      · rw [leN_putN', Nat.mod_eq_of_lt (by have := on_lt 0 (hd q); simpa using this)]
    rw [hq0, hr] at hun
    simp at hun
theorem nx_code (A r : List Nat) : (nx (A ++ r) (A.length : Nat)).2.2 = (nx0 r).2 := by
  unfold nx
  rw [if_neg (by simp; omega), Int.toNat_natCast, List.drop_append_of_le_length (Nat.le_refl _), List.drop_of_length_le (Nat.le_refl _), List.nil_append]
theorem scanC_ok (f : Nat) (bs : List Nat) (i m : Nat) (h : (nx bs i).2.2 = 0) (hm : (nx bs i).1.length = m) : scanC (f + 1) bs i = ((scanC f bs (i + 6 + m)).1 + 1, (scanC f bs (i + 6 + m)).2) := by
  subst hm
  rw [scanC, if_pos h]
theorem scanC_stop (f : Nat) (bs : List Nat) (i : Nat) (h : (nx bs i).2.2 ≠ 0) : scanC (f + 1) bs i = (0, i) := by
  rw [scanC, if_neg h]
theorem scan_turned (p q : List Nat) (j bu : Nat) (hq : ∀ x ∈ q, x < 256) (hp : p.length ≤ 16384) (h1 : 1 ≤ q.length) (h2 : q.length ≤ 16384) (hj : 16 ≤ j) (ht : anyTurn j bu (fr q).length 32 = true) (n : Nat) (hn : n = (fr p ++ fr q).length) :
    scanC (n + 1) (fr p ++ flips (fr q) j bu 32) 0 = (if p.length = 0 then 0 else 1, (fr p).length) := by
  have hql := fr_len q
  rw [if_neg (by omega)] at hql
  have hcode := nx0_turned q j bu hq h1 h2 hj ht
  have hst := nx_code (fr p) (flips (fr q) j bu 32)
  obtain ⟨f, rfl⟩ : ∃ f, n = f + 1 := ⟨n - 1, by rw [List.length_append] at hn; omega⟩
  by_cases h0 : p.length = 0
  · have hfp : fr p = [] := by unfold fr; rw [if_pos (by omega)]
    rw [hfp, List.nil_append] at hst
    rw [if_pos h0, hfp, List.nil_append]
    exact scanC_stop _ _ 0 (by rw [show ((0 : Nat) : Int) = (([] : List Nat).length : Nat) from rfl, hst]; exact hcode)
  · rw [if_neg h0]
    have hpl := fr_len p
    rw [if_neg (by omega)] at hpl
    have hx := nx_fr [] p (flips (fr q) j bu 32) (by omega) hp
    rw [List.nil_append] at hx
    rw [scanC_ok (f + 1) _ 0 p.length (by rw [show ((0 : Nat) : Int) = (([] : List Nat).length : Nat) from rfl, hx]) (by rw [show ((0 : Nat) : Int) = (([] : List Nat).length : Nat) from rfl, hx])]
    rw [show 0 + 6 + p.length = (fr p).length by omega, scanC_stop _ _ _ (by rw [hst]; exact hcode)]
theorem scan_whole (p q : List Nat) (hp : p.length ≤ 16384) (h1 : 1 ≤ q.length) (h2 : q.length ≤ 16384) (n : Nat) (hn : n = (fr p ++ fr q).length) :
    (scanC (n + 1) (fr p ++ fr q) 0).2 = (fr p ++ fr q).length := by
  have hql := fr_len q
  rw [if_neg (by omega)] at hql
  have hend : (nx (fr p ++ fr q) ((fr p).length + 6 + q.length : Nat)).2.2 ≠ 0 := by
    have := nx_code (fr p ++ fr q) []
    rw [List.append_nil, List.length_append, hql, show (fr p).length + (q.length + 6) = (fr p).length + 6 + q.length by omega] at this
    rw [this]
    decide
  have hlen : (fr p ++ fr q).length = (fr p).length + 6 + q.length := by rw [List.length_append]; omega
  have hx2 := nx_fr (fr p) q [] h1 h2
  rw [List.append_nil] at hx2
  obtain ⟨f, rfl⟩ : ∃ f, n = f + 2 := ⟨n - 2, by omega⟩
  by_cases h0 : p.length = 0
  · have hfp : fr p = [] := by unfold fr; rw [if_pos (by omega)]
    rw [hfp] at hx2 hend hlen ⊢
    rw [scanC_ok (f + 2) _ 0 q.length (by rw [show ((0 : Nat) : Int) = (([] : List Nat).length : Nat) from rfl, hx2]) (by rw [show ((0 : Nat) : Int) = (([] : List Nat).length : Nat) from rfl, hx2])]
    rw [scanC_stop _ _ _ (by simpa using hend)]
    simp only [List.length_nil] at hlen
    show 0 + 6 + q.length = _
    rw [hlen]
  · have hpl := fr_len p
    rw [if_neg (by omega)] at hpl
    have hx := nx_fr [] p (fr q) (by omega) hp
    rw [List.nil_append] at hx
    rw [scanC_ok (f + 2) _ 0 p.length (by rw [show ((0 : Nat) : Int) = (([] : List Nat).length : Nat) from rfl, hx]) (by rw [show ((0 : Nat) : Int) = (([] : List Nat).length : Nat) from rfl, hx])]
    rw [show 0 + 6 + p.length = (fr p).length by omega]
    rw [scanC_ok (f + 1) _ _ q.length (by rw [hx2]) (by rw [hx2])]
    rw [scanC_stop _ _ _ hend, hlen]
end Go.Proofs.Ytpkgfajphkabcaa
