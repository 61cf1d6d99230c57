/-
  Plain law: bytes and numbers, signs, orders: what the laws of layer 1 say of the walks' answers.
-/
import Derived.Test.YtpjdgfibmdbgeaaWordPutW
namespace Go.Proofs.Ytpjdgfibmdbgeaa
open Go.RowKit

theorem putN_app (a b u : Nat) : putN (a + b) u = putN a u ++ putN b (u / 256 ^ a) := by
  induction a generalizing u with
  | zero => simp [putN]
  | succ a ih =>
    rw [show a + 1 + b = (a + b) + 1 by omega, putN, ih, putN, List.cons_append, Nat.div_div_eq_div_mul, Nat.pow_succ, Nat.mul_comm 256]
theorem leN_putN (n u : Nat) : leN (putN n u) = u % 256 ^ n := by
  induction n generalizing u with
  | zero => simp [putN, leN, Nat.mod_one]
  | succ n ih =>
    rw [putN, leN, ih, Nat.pow_succ, Nat.mul_comm (256 ^ n) 256, Nat.mod_mul]
theorem pow256 (k : Nat) : 256 ^ k = 2 ^ (8 * k) := by rw [Nat.pow_mul]
theorem putN_whole (k u : Nat) (hk : k ≤ 8) : putN 8 u = putN k u ++ putN (8 - k) (u / 2 ^ (8 * k)) := by
  rw [← pow256, ← putN_app, show k + (8 - k) = 8 by omega]
theorem get_half (k u : Nat) (hu : u < 18446744073709551616) (h1 : 1 ≤ k) (h7 : k ≤ 7) : getN (putN 8 u) (k : Int) ((8 - k : Nat) : Int) = (u / 2 ^ (8 * k), 0) := by
  unfold getN
  rw [putN_len, if_neg (by omega), if_neg (by omega)]
  rw [putN_whole k u (by omega)]
  simp only [Int.toNat_natCast]
  rw [List.drop_append_of_le_length (by rw [putN_len]; exact Nat.le_refl _), List.drop_of_length_le (by rw [putN_len]; exact Nat.le_refl _), List.nil_append, List.take_of_length_le (by rw [putN_len]; exact Nat.le_refl _), leN_putN]
  rw [Nat.mod_eq_of_lt]
  rw [← pow256, Nat.div_lt_iff_lt_mul (Nat.pow_pos (by decide)), ← Nat.pow_add, show 8 - k + k = 8 by omega]
  exact hu
theorem get_back (k u x : Nat) (hu : u < 18446744073709551616) (h1 : 1 ≤ k) (h8 : k ≤ 8) : getN (x :: putN k u) 1 (k : Int) = (WordP.low u (8 * k), 0) := by
  unfold getN
  rw [List.length_cons, putN_len, if_neg (by omega), if_neg (by omega)]
  simp only [Int.toNat_natCast, show (1 : Int).toNat = 1 from rfl, List.drop_succ_cons, List.drop_zero]
  rw [List.take_of_length_le (by rw [putN_len]; exact Nat.le_refl _), leN_putN, pow256]
  unfold WordP.low
  rw [if_neg (by omega)]
  by_cases h : k = 8
  · subst h
    rw [if_pos (by omega), Nat.mod_eq_of_lt hu]
  · rw [if_neg (by omega), show ((8 : Int) * k).toNat = 8 * k by omega]
theorem cut8_nat (k : Nat) (h : k ≤ 8) : cut8 (k : Int) = k := by unfold cut8; omega

/-! ### Signs -/
theorem signN_cases (u k : Nat) (hk : 1 ≤ k) :
    (u % 2 ^ k < 2 ^ (k - 1) ∧ WordP.signN u k = ((u % 2 ^ k : Nat) : Int)) ∨ (2 ^ (k - 1) ≤ u % 2 ^ k ∧ u % 2 ^ k < 2 * 2 ^ (k - 1) ∧ WordP.signN u k = ((u % 2 ^ k : Nat) : Int) - 2 * ((2 ^ (k - 1) : Nat) : Int)) := by
  have hp := WordP.pow_half k hk
  have hm : u % 2 ^ k < 2 ^ k := Nat.mod_lt _ (Nat.two_pow_pos _)
  have hP : 0 < 2 ^ (k - 1) := Nat.two_pow_pos _
  unfold WordP.signN
  rw [hp] at hm ⊢
  generalize u % (2 * 2 ^ (k - 1)) = m at hm ⊢
  generalize 2 ^ (k - 1) = P at hm hP ⊢
  by_cases h : m < P
  · left
    rw [Nat.div_eq_of_lt h, if_neg (by omega)]
    exact ⟨h, rfl⟩
  · right
    have : m / P = 1 := by
      rw [Nat.div_eq_iff hP]
      omega
    rw [if_pos this]
    exact ⟨by omega, by omega, by omega⟩
theorem sign_low' (n : Int) (k : Nat) (h1 : 1 ≤ k) (h2 : k ≤ 63) (u : Nat) (eu : u = (n % 18446744073709551616).toNat) (v : Int) (ev : v = WordP.sign u (k : Int)) (P : Int) (eP : P = ((2 ^ (k - 1) : Nat) : Int)) :
    -P ≤ v ∧ v < P ∧ WordP.low (v % 18446744073709551616).toNat (k : Int) = WordP.low u (k : Int) ∧ (v = n ↔ -P ≤ n ∧ n < P) := by
  have hv : v = WordP.signN u k := by
    rw [ev]
    unfold WordP.sign
    rw [if_neg (by omega), if_neg (by omega), Int.toNat_natCast]
  have hc := signN_cases u k h1
  rw [← hv] at hc
  have hp := WordP.pow_half k h1
  have hdvd : ((2 ^ k : Nat) : Int) ∣ 18446744073709551616 := ⟨((2 ^ (64 - k) : Nat) : Int), by
    have := WordP.pow64 k (by omega)
    rw [← Int.natCast_mul, this]; rfl⟩
  have hun : ((u % 2 ^ k : Nat) : Int) = n % ((2 ^ k : Nat) : Int) := by
    rw [eu, Int.natCast_emod, Int.toNat_of_nonneg (by omega), Int.emod_emod_of_dvd _ hdvd]
  have hPpos : 0 < P := by
    have : 0 < 2 ^ (k - 1) := Nat.two_pow_pos _
    rw [eP]
    omega
  have hPP : ((2 ^ k : Nat) : Int) = 2 * P := by rw [hp, eP]; omega
  have hq : ∃ q : Int, v = n + q * (2 * P) := by
    have hn := Int.emod_add_mul_ediv n (2 * P)
    rw [hPP] at hun
    rcases hc with ⟨_, h⟩ | ⟨_, _, h⟩
    · refine ⟨-(n / (2 * P)), ?_⟩
      rw [h, hun, Int.neg_mul, Int.mul_comm (n / (2 * P))]
      omega
    · refine ⟨-(n / (2 * P)) - 1, ?_⟩
      rw [h, hun, Int.sub_mul, Int.neg_mul, Int.mul_comm (n / (2 * P)), Int.one_mul]
      omega
  have hlo : -P ≤ v := by
    rcases hc with ⟨ha, h⟩ | ⟨ha, hb, h⟩
    · omega
    · omega
  have hhi : v < P := by
    rcases hc with ⟨ha, h⟩ | ⟨ha, hb, h⟩
    · omega
    · omega
  refine ⟨hlo, hhi, ?_, ?_, ?_⟩
  · unfold WordP.low
    rw [if_neg (by omega), if_neg (by omega), if_neg (by omega), if_neg (by omega), Int.toNat_natCast]
    apply Int.ofNat.inj
    show (((v % 18446744073709551616).toNat % 2 ^ k : Nat) : Int) = ((u % 2 ^ k : Nat) : Int)
    rw [hun, Int.natCast_emod, Int.toNat_of_nonneg (by omega), Int.emod_emod_of_dvd _ hdvd, hPP]
    obtain ⟨q, hq⟩ := hq
    rw [hq, Int.add_mul_emod_self_right]
  · intro h
    rw [← h]
    exact ⟨hlo, hhi⟩
  · rintro ⟨h3, h4⟩
    obtain ⟨q, hq⟩ := hq
    have : q = 0 := by
      by_cases hq1 : 1 ≤ q
      · have := Int.mul_le_mul_of_nonneg_right hq1 (show 0 ≤ 2 * P by omega)
        omega
      · by_cases hq2 : q ≤ -1
        · have := Int.mul_le_mul_of_nonneg_right hq2 (show 0 ≤ 2 * P by omega)
          omega
        · omega
    rw [hq, this]
    omega

theorem sign_low (n : Int) (k : Nat) (h1 : 1 ≤ k) (h2 : k ≤ 63) :
    -((2 ^ (k - 1) : Nat) : Int) ≤ WordP.sign (n % 18446744073709551616).toNat (k : Int) ∧ WordP.sign (n % 18446744073709551616).toNat (k : Int) < ((2 ^ (k - 1) : Nat) : Int) ∧
    WordP.low (WordP.sign (n % 18446744073709551616).toNat (k : Int) % 18446744073709551616).toNat (k : Int) = WordP.low (n % 18446744073709551616).toNat (k : Int) ∧
    (WordP.sign (n % 18446744073709551616).toNat (k : Int) = n ↔ -((2 ^ (k - 1) : Nat) : Int) ≤ n ∧ n < ((2 ^ (k - 1) : Nat) : Int)) :=
  sign_low' n k h1 h2 _ rfl _ rfl _ rfl

/-! ### Lows -/
theorem low_low (u : Nat) (i j : Nat) (hu : u < 18446744073709551616) (hi : i ≤ 64) (hj : j ≤ 64) : WordP.low (WordP.low u (i : Int)) (j : Int) = WordP.low u ((min i j : Nat) : Int) := by
  have h : ∀ (x k : Nat), x < 18446744073709551616 → k ≤ 64 → WordP.low x (k : Int) = x % 2 ^ k := by
    intro x k hx hk
    unfold WordP.low
    by_cases h0 : k = 0
    · subst h0; simp [Nat.mod_one]
    · rw [if_neg (by omega)]
      by_cases h64 : k = 64
      · subst h64; rw [if_pos (by omega), Nat.mod_eq_of_lt hx]
      · rw [if_neg (by omega), Int.toNat_natCast]
  rw [h u i hu hi, h _ j (Nat.lt_of_le_of_lt (Nat.mod_le _ _) hu) hj, h u (min i j) hu (by omega)]
  rcases Nat.le_total i j with hij | hij
  · rw [Nat.min_eq_left hij]
    exact Nat.mod_eq_of_lt (Nat.lt_of_lt_of_le (Nat.mod_lt _ (Nat.two_pow_pos _)) (Nat.pow_le_pow_right (by decide) hij))
  · rw [Nat.min_eq_right hij]
    exact Nat.mod_mod_of_dvd _ (Nat.pow_dvd_pow 2 hij)
theorem low_le (u : Nat) (k : Int) : WordP.low u k ≤ u := by
  unfold WordP.low
  split
  · exact Nat.zero_le _
  · split
    · exact Nat.le_refl _
    · exact Nat.mod_le _ _
theorem low_above (u i : Nat) (hi : i < 64) : WordP.low u (i : Int) / 2 ^ i = 0 := by
  apply Nat.div_eq_of_lt
  unfold WordP.low
  split
  · exact Nat.two_pow_pos _
  · rw [if_neg (by omega), Int.toNat_natCast]; exact Nat.mod_lt _ (Nat.two_pow_pos _)
theorem keyN_eq (r s : Nat) (hr : r < 4294967296) (hs : s < 4294967296) : keyN r s = r * 4294967296 + s := by
  unfold keyN
  omega
theorem inst_key (r s : Nat) (hr : r < 4294967296) (hs : s < 4294967296) : keyN r s / 4294967296 = r ∧ keyN r s % 4294967296 = s := by
  rw [keyN_eq r s hr hs]
  omega
theorem key_inst (u : Nat) (hu : u < 18446744073709551616) : keyN ((u / 4294967296 : Nat) : Int) ((u % 4294967296 : Nat) : Int) = u := by
  rw [keyN_eq _ _ (by omega) (by omega)]
  omega
end Go.Proofs.Ytpjdgfibmdbgeaa
