/-
  Plain law: numbers as bits and back. No program in sight.
-/
import Derived.Laws.BitsAllLaws
import Derived.RowKit
namespace WordP
open Go Go.RowKit

/-- The lowest bits. -/
def low (u : Nat) (k : Int) : Nat := if k < 1 then 0 else if 64 ≤ k then u else u % 2 ^ k.toNat
/-- 64 bits as a number with a sign. -/
def s64 (u : Nat) : Int := if u < 9223372036854775808 then u else (u : Int) - 18446744073709551616
def signN (u k : Nat) : Int := if u % 2 ^ k / 2 ^ (k - 1) = 1 then ((u % 2 ^ k : Nat) : Int) - ((2 ^ k : Nat) : Int) else ((u % 2 ^ k : Nat) : Int)
def sign (u : Nat) (k : Int) : Int := if k < 1 then 0 else if 64 ≤ k then s64 u else signN u k.toNat
def turn (u n : Nat) : Nat := u * 2 ^ n % 18446744073709551616 + u / 2 ^ (64 - n)
def zig (n : Int) : Nat := if n < 0 then (-2 * n - 1).toNat else (2 * n).toNat
def zag (u : Nat) : Int := if u % 2 = 1 then -((u / 2 : Nat) : Int) - 1 else ((u / 2 : Nat) : Int)

theorem pow64 (k : Nat) (hk : k ≤ 64) : 2 ^ k * 2 ^ (64 - k) = 18446744073709551616 := by
  rw [← Nat.pow_add, show k + (64 - k) = 64 by omega]
theorem pow_half (k : Nat) (hk : 1 ≤ k) : 2 ^ k = 2 * 2 ^ (k - 1) := by
  rw [← Nat.pow_succ', show (k - 1).succ = k by omega]
theorem wrap_nat (x : Nat) (h : x < 18446744073709551616) : wrap64 (x : Int) = s64 x := by
  unfold wrap64 s64; split <;> omega
theorem sign_shift (u k : Nat) (h1 : 1 ≤ k) (h2 : k ≤ 64) (hu : u < 18446744073709551616) : s64 (u * 2 ^ (64 - k) % 18446744073709551616) / ((2 ^ (64 - k) : Nat) : Int) = if k = 64 then s64 u else signN u k := by
  by_cases hk : k = 64
  · subst hk; simp only [Nat.sub_self, Nat.pow_zero, Nat.mul_one, if_true]; rw [Nat.mod_eq_of_lt hu]; simp
  rw [if_neg hk]
  have hp := pow64 k h2
  have hm : u * 2 ^ (64 - k) % 18446744073709551616 = u % 2 ^ k * 2 ^ (64 - k) := by
    rw [← hp, Nat.mul_mod_mul_right]
  rw [hm]
  unfold signN
  have hh := pow_half k h1
  have hb : 0 < 2 ^ (k - 1) := Nat.two_pow_pos _
  have hj : 0 < 2 ^ (64 - k) := Nat.two_pow_pos _
  have hlt : u % 2 ^ k < 2 ^ k := Nat.mod_lt _ (Nat.two_pow_pos _)
  have hpp : 2 ^ (k - 1) * 2 ^ (64 - k) = 9223372036854775808 := by
    rw [hh, Nat.mul_assoc] at hp; omega
  generalize u % 2 ^ k = m at hlt ⊢
  by_cases hc : m < 2 ^ (k - 1)
  · have hd : m / 2 ^ (k - 1) = 0 := Nat.div_eq_of_lt hc
    have : m * 2 ^ (64 - k) < 9223372036854775808 := by rw [← hpp]; exact Nat.mul_lt_mul_of_pos_right hc hj
    rw [hd, if_neg (by omega)]
    unfold s64
    rw [if_pos this, Int.natCast_mul, Int.mul_ediv_cancel _ (by omega)]
  · have hd : m / 2 ^ (k - 1) = 1 := by
      rw [hh] at hlt
      exact Nat.div_eq_of_lt_le (by omega) (by omega)
    have : ¬ m * 2 ^ (64 - k) < 9223372036854775808 := by rw [← hpp]; exact Nat.not_lt.2 (Nat.mul_le_mul_right _ (by omega))
    rw [hd, if_pos rfl]
    unfold s64
    rw [if_neg this]
    have e : ((m * 2 ^ (64 - k) : Nat) : Int) - 18446744073709551616 = ((m : Int) - ((2 ^ k : Nat) : Int)) * ((2 ^ (64 - k) : Nat) : Int) := by
      rw [Int.sub_mul, ← Int.natCast_mul, ← Int.natCast_mul, hp]; rfl
    rw [e, Int.mul_ediv_cancel _ (by omega)]

theorem low_and (u k : Nat) (hu : u < 18446744073709551616) (hk : k < 64) : bits BinOp.and IntKind.u64 (u : Int) (IntKind.u64.wrap (IntKind.u64.wrap (2 ^ k) - 1)) = ((u % 2 ^ k : Nat) : Int) := by
  have hp : 2 ^ k < 18446744073709551616 := by
    have := Nat.pow_lt_pow_right (a := 2) (by omega) hk; simpa using this
  have h0 : 0 < 2 ^ k := Nat.two_pow_pos k
  have e : IntKind.u64.wrap (IntKind.u64.wrap ((2 : Int) ^ k) - 1) = ((2 ^ k - 1 : Nat) : Int) := by
    rw [show ((2 : Int) ^ k) = ((2 ^ k : Nat) : Int) by simp]
    generalize 2 ^ k = p at hp h0
    simp only [IntKind.wrap, IntKind.bits, IntKind.signed]
    simp
    omega
  rw [e, u64_and_nat _ _ hu (by omega), Nat.and_two_pow_sub_one_eq_mod]
theorem turn_or (u n : Nat) (hu : u < 18446744073709551616) (hn : n < 64) : bits BinOp.or IntKind.u64 ((u * 2 ^ n % 18446744073709551616 : Nat) : Int) ((u / 2 ^ (64 - n) : Nat) : Int) = ((turn u n : Nat) : Int) := by
  have hp := pow64 n (by omega)
  have h1 : u / 2 ^ (64 - n) < 2 ^ n := by
    rw [Nat.div_lt_iff_lt_mul (Nat.two_pow_pos _), hp]; exact hu
  have h3 : 2 ^ n ≤ 18446744073709551616 := by rw [← hp]; exact Nat.le_mul_of_pos_right _ (Nat.two_pow_pos _)
  rw [u64_or_nat _ _ (Nat.mod_lt _ (by omega)) (by omega)]
  unfold turn
  rw [nat_join n _ _ ?_ h1]
  rw [← hp, Nat.mul_comm (2 ^ n), Nat.mul_mod_mul_right]
  exact Nat.mul_mod_left _ _
theorem turn_lt (u n : Nat) (hu : u < 18446744073709551616) (hn : n < 64) : turn u n < 18446744073709551616 := by
  have hp := pow64 n (by omega)
  have h1 : u / 2 ^ (64 - n) < 2 ^ n := by
    rw [Nat.div_lt_iff_lt_mul (Nat.two_pow_pos _), hp]; exact hu
  unfold turn
  have hm : u * 2 ^ n % 18446744073709551616 = u % 2 ^ (64 - n) * 2 ^ n := by
    rw [← hp, Nat.mul_comm (2 ^ n), Nat.mul_mod_mul_right]
  rw [hm]
  have h2 : u % 2 ^ (64 - n) < 2 ^ (64 - n) := Nat.mod_lt _ (Nat.two_pow_pos _)
  have h3 : (u % 2 ^ (64 - n) + 1) * 2 ^ n ≤ 2 ^ (64 - n) * 2 ^ n := Nat.mul_le_mul_right _ h2
  rw [Nat.mul_comm (2 ^ (64 - n)), hp] at h3
  rw [Nat.add_mul] at h3
  omega
theorem xor_ones (c : Nat) (hc : c < 18446744073709551616) : c ^^^ 18446744073709551615 = 18446744073709551615 - c := by
  apply Nat.eq_of_testBit_eq
  intro i
  have := Nat.testBit_two_pow_sub_succ (n := 64) hc i
  rw [Nat.testBit_xor, show (18446744073709551615 : Nat) - c = 2 ^ 64 - (c + 1) from by omega, this, show (18446744073709551615 : Nat) = 2 ^ 64 - 1 from rfl, Nat.testBit_two_pow_sub_one]
  by_cases hi : i < 64
  · simp [hi]
  · have : c.testBit i = false := Nat.testBit_lt_two_pow (Nat.lt_of_lt_of_le hc (Nat.pow_le_pow_right (n := 2) (by decide) (by omega : 64 ≤ i)))
    simp [hi, this]
theorem zig_xor (n : Int) (hn : -9223372036854775808 ≤ n ∧ n ≤ 9223372036854775807) :
    bits BinOp.xor IntKind.u64 (IntKind.u64.wrap (IntKind.u64.wrap n * 2)) (IntKind.u64.wrap (n / 9223372036854775808)) = ((zig n : Nat) : Int) := by
  have ew : ∀ x : Int, IntKind.u64.wrap x = x % 18446744073709551616 := fun x => by simp [IntKind.wrap, IntKind.bits, IntKind.signed]
  rw [ew, ew, ew]
  unfold zig
  by_cases h : n < 0
  · rw [if_pos h, show n / 9223372036854775808 % 18446744073709551616 = ((18446744073709551615 : Nat) : Int) by omega, show n % 18446744073709551616 * 2 % 18446744073709551616 = ((18446744073709551616 - (-2 * n).toNat : Nat) : Int) by omega]
    rw [u64_xor_nat _ _ (by omega) (by omega)]
    rw [xor_ones _ (by omega)]
    congr 1
    omega
  · rw [if_neg h, show n / 9223372036854775808 % 18446744073709551616 = ((0 : Nat) : Int) by omega, show n % 18446744073709551616 * 2 % 18446744073709551616 = ((2 * n).toNat : Int) by omega]
    rw [u64_xor_nat _ _ (by omega) (by omega), Nat.xor_zero]
theorem xor_i64 (x y : Int) : bits BinOp.xor IntKind.i64 x y = IntKind.i64.wrap (((BitVec.ofInt 64 x).toNat ^^^ (BitVec.ofInt 64 y).toNat : Nat) : Int) := by
  rw [← BitVec.toNat_xor]; rfl
theorem zag_xor (u : Nat) (hu : u < 18446744073709551616) : bits BinOp.xor IntKind.i64 ((u : Int) / 2) (wrap64 (-wrap64 (bits BinOp.and IntKind.u64 (u : Int) 1))) = zag u := by
  rw [show (1 : Int) = ((1 : Nat) : Int) from rfl, u64_and_nat _ _ hu (by omega), nat_mask1]
  unfold zag
  by_cases h : u % 2 = 1
  · rw [if_pos h, h, show wrap64 (-wrap64 ((1 : Nat) : Int)) = -1 by decide]
    have e : (BitVec.ofInt 64 (-1)).toNat = 18446744073709551615 := by decide
    rw [xor_i64, e, show ((u : Int) / 2) = ((u / 2 : Nat) : Int) by omega, ofInt_u64 _ (by omega), xor_ones _ (by omega)]
    simp only [IntKind.wrap, IntKind.bits, IntKind.signed]
    simp
    omega
  · have h0 : u % 2 = 0 := by omega
    rw [if_neg h, h0, show wrap64 (-wrap64 ((0 : Nat) : Int)) = 0 by decide]
    have e : (BitVec.ofInt 64 0).toNat = 0 := by decide
    rw [xor_i64, e, show ((u : Int) / 2) = ((u / 2 : Nat) : Int) by omega, ofInt_u64 _ (by omega), Nat.xor_zero]
    simp only [IntKind.wrap, IntKind.bits, IntKind.signed]
    simp
    omega

theorem not_i64 (n : Int) (hn : -9223372036854775808 ≤ n ∧ n ≤ 9223372036854775807) : bits BinOp.xor IntKind.i64 (-1) n = -n - 1 := by
  have e : (BitVec.ofInt 64 (-1)).toNat = 18446744073709551615 := by decide
  have e2 : (BitVec.ofInt 64 n).toNat = (n % 18446744073709551616).toNat := by simp [BitVec.toNat_ofInt]
  rw [xor_i64, e, e2, Nat.xor_comm, xor_ones _ (by omega)]
  simp only [IntKind.wrap, IntKind.bits, IntKind.signed]
  simp
  omega
theorem rzig_neg {n : Int} (hn : -9223372036854775808 ≤ n ∧ n ≤ 9223372036854775807) (h : n < 0) :
    bits BinOp.or IntKind.u64 (IntKind.u64.wrap (IntKind.u64.wrap (bits BinOp.xor IntKind.i64 (-1) n) * 2)) 1 = ((zig n : Nat) : Int) := by
  have ew : ∀ x : Int, IntKind.u64.wrap x = x % 18446744073709551616 := fun x => by simp [IntKind.wrap, IntKind.bits, IntKind.signed]
  rw [not_i64 n hn, ew, ew]
  unfold zig
  rw [if_pos h, show (-n - 1) % 18446744073709551616 * 2 % 18446744073709551616 = (((-2 * n - 2).toNat : Nat) : Int) by omega, show (1 : Int) = ((1 : Nat) : Int) from rfl, u64_or_nat _ _ (by omega) (by omega), nat_join 1 _ _ (by omega) (by omega)]
  congr 1
  omega
theorem rzig_pos {n : Int} (h : 0 ≤ n) : n * 2 = ((zig n : Nat) : Int) := by
  unfold zig; rw [if_neg (by omega)]; omega
theorem and_one (u : Nat) (hu : u < 18446744073709551616) : bits BinOp.and IntKind.u64 (u : Int) 1 = ((u % 2 : Nat) : Int) := by
  rw [show (1 : Int) = ((1 : Nat) : Int) from rfl, u64_and_nat _ _ hu (by omega), nat_mask1]
theorem rzag_odd {u : Nat} (hu : u < 18446744073709551616) (h : (bits BinOp.and IntKind.u64 (u : Int) 1 == 1) = true) : bits BinOp.xor IntKind.i64 (-1) ((u : Int) / 2) = zag u := by
  rw [and_one u hu, beq_iff_eq] at h
  rw [not_i64 _ (by omega)]
  unfold zag
  rw [if_pos (by omega)]
  omega
theorem rzag_even {u : Nat} (hu : u < 18446744073709551616) (h : (bits BinOp.and IntKind.u64 (u : Int) 1 == 1) = false) : ((u : Int) / 2) = zag u := by
  rw [and_one u hu, beq_eq_false_iff_ne] at h
  unfold zag
  rw [if_neg (by omega)]
  omega
theorem and63 (k : Int) : bits BinOp.and IntKind.u64 (IntKind.u64.wrap k) 63 = (((k % 64).toNat : Nat) : Int) := by
  have ew : IntKind.u64.wrap k = (((k % 18446744073709551616).toNat : Nat) : Int) := by
    simp only [IntKind.wrap, IntKind.bits, IntKind.signed]; simp; omega
  rw [ew, show (63 : Int) = ((63 : Nat) : Int) from rfl, u64_and_nat _ _ (by omega) (by omega), nat_mask6]
  congr 1
  omega
theorem iand63 (k : Int) : bits BinOp.and IntKind.i64 k 63 = (((k % 64).toNat : Nat) : Int) := by
  have e : (BitVec.ofInt 64 63).toNat = 63 := by decide
  have e2 : (BitVec.ofInt 64 k).toNat = (k % 18446744073709551616).toNat := by simp [BitVec.toNat_ofInt]
  have h : bits BinOp.and IntKind.i64 k 63 = IntKind.i64.wrap (((BitVec.ofInt 64 k).toNat &&& (BitVec.ofInt 64 63).toNat : Nat) : Int) := by
    rw [← BitVec.toNat_and]; rfl
  rw [h, e, e2, nat_mask6]
  simp only [IntKind.wrap, IntKind.bits, IntKind.signed]
  simp
  omega
theorem top_false {m q : Nat} (h : (((m : Int) / 2 ^ q == 1) = false)) : ¬ m / 2 ^ q = 1 := by
  rw [beq_eq_false_iff_ne] at h
  intro h1
  apply h
  rw [show ((2 : Int) ^ q) = ((2 ^ q : Nat) : Int) by simp, ← Int.natCast_ediv, h1]; rfl
theorem top_true {m q : Nat} (h : (((m : Int) / 2 ^ q == 1) = true)) : m / 2 ^ q = 1 := by
  rw [beq_iff_eq, show ((2 : Int) ^ q) = ((2 ^ q : Nat) : Int) by simp, ← Int.natCast_ediv] at h
  omega
theorem low_pos {u : Nat} {k : Int} (h1 : 1 ≤ k) (h2 : k < 64) : low u k = u % 2 ^ k.toNat := by
  unfold low; rw [if_neg (by omega), if_neg (by omega)]
theorem low_all {u : Nat} {k : Int} (h2 : 64 ≤ k) : low u k = u := by
  unfold low; rw [if_neg (by omega), if_pos h2]
theorem low_none {u : Nat} {k : Int} (h2 : k < 1) : low u k = 0 := by
  unfold low; rw [if_pos h2]
theorem low_bits {u : Nat} {k : Int} (hu : u < 18446744073709551616) (h1 : 1 ≤ k) (h2 : k < 64) : bits BinOp.and IntKind.u64 (u : Int) (IntKind.u64.wrap (IntKind.u64.wrap (2 ^ k.toNat) - 1)) = ((low u k : Nat) : Int) := by
  rw [low_pos h1 h2]; exact low_and u k.toNat hu (by omega)
theorem sign_none {u : Nat} {k : Int} (h2 : k < 1) : (0 : Int) = sign u k := by
  unfold sign; rw [if_pos h2]
theorem u64_wrap (u : Nat) : IntKind.u64.wrap (u : Int) = ((u % 18446744073709551616 : Nat) : Int) := by
  simp only [IntKind.wrap, IntKind.bits, IntKind.signed]; simp
theorem sign_all {u : Nat} {k : Int} (hu : u < 18446744073709551616) (h2 : 64 < k) : wrap64 (IntKind.u64.wrap (u : Int)) = sign u k := by
  unfold sign; rw [if_neg (by omega), if_pos (by omega), u64_wrap, Nat.mod_eq_of_lt hu, wrap_nat _ hu]
theorem sign_some {u : Nat} {k : Int} (hu : u < 18446744073709551616) (h1 : 1 ≤ k) (h2 : k ≤ 64) : wrap64 (IntKind.u64.wrap ((u : Int) * 2 ^ (64 - k).toNat)) / 2 ^ (64 - k).toNat = sign u k := by
  obtain ⟨q, rfl⟩ := Int.eq_ofNat_of_zero_le (show 0 ≤ k by omega)
  rw [show (64 - (q : Int)).toNat = 64 - q by omega, show ((2 : Int) ^ (64 - q)) = ((2 ^ (64 - q) : Nat) : Int) by simp, ← Int.natCast_mul, u64_wrap, wrap_nat _ (Nat.mod_lt _ (by omega)), sign_shift u q (by omega) (by omega) hu]
  unfold sign
  rw [if_neg (show ¬ (q : Int) < 1 by omega), Int.toNat_natCast]
  by_cases h : q = 64
  · rw [if_pos h, if_pos (by omega)]
  · rw [if_neg h, if_neg (by omega)]

/-! ### The plain laws -/
theorem zag_zig (n : Int) : zag (zig n) = n := by
  unfold zag zig
  split <;> split <;> omega
theorem zig_zag (u : Nat) : zig (zag u) = u := by
  unfold zag zig
  split <;> split <;> omega
theorem rsign_q (u q : Nat) (hq : q < 63) : sign u ((q : Int) + 1) = if u % 2 ^ (q + 1) / 2 ^ q = 1 then ((u % 2 ^ (q + 1) : Nat) : Int) - ((2 ^ q : Nat) : Int) - ((2 ^ q : Nat) : Int) else ((u % 2 ^ (q + 1) : Nat) : Int) := by
  unfold sign signN
  rw [if_neg (show ¬ (q : Int) + 1 < 1 by omega), if_neg (show ¬ 64 ≤ (q : Int) + 1 by omega), show ((q : Int) + 1).toNat = q + 1 by omega, Nat.add_sub_cancel]
  have : 2 ^ (q + 1) = 2 ^ q + 2 ^ q := by rw [Nat.pow_succ]; omega
  split
  · rw [this]; omega
  · rfl

theorem turn_zero (u : Nat) (hu : u < 18446744073709551616) : turn u 0 = u := by
  unfold turn
  rw [Nat.pow_zero, Nat.mul_one, Nat.mod_eq_of_lt hu, Nat.sub_zero, Nat.div_eq_of_lt (by simpa using hu), Nat.add_zero]

/-! ### Turning, bit by bit -/
theorem turn_bit (u n i : Nat) (hu : u < 18446744073709551616) (hn : n < 64) : (turn u n).testBit i = (decide (i < 64) && u.testBit ((i + 64 - n) % 64)) := by
  have hp := pow64 n (by omega)
  have h1 : u / 2 ^ (64 - n) < 2 ^ n := by
    rw [Nat.div_lt_iff_lt_mul (Nat.two_pow_pos _), hp]; exact hu
  have hj : turn u n = u * 2 ^ n % 2 ^ 64 ||| u / 2 ^ (64 - n) := by
    unfold turn
    rw [nat_join n _ _ ?_ h1]
    rw [show (2 : Nat) ^ 64 = 18446744073709551616 from rfl, ← hp, Nat.mul_comm (2 ^ n), Nat.mul_mod_mul_right]
    exact Nat.mul_mod_left _ _
  have hz : ∀ j, 64 ≤ j → u.testBit j = false := fun j hj => Nat.testBit_lt_two_pow (Nat.lt_of_lt_of_le hu (Nat.pow_le_pow_right (n := 2) (by decide) hj))
  rw [hj, Nat.testBit_or, Nat.testBit_mod_two_pow, Nat.testBit_mul_two_pow, Nat.testBit_div_two_pow]
  by_cases h64 : i < 64
  · by_cases hin : i < n
    · rw [show (i + 64 - n) % 64 = 64 - n + i by omega]
      simp [h64, show ¬ n ≤ i by omega, Nat.add_comm]
    · rw [show (i + 64 - n) % 64 = i - n by omega, hz _ (show 64 ≤ i + (64 - n) by omega)]
      simp [h64, show n ≤ i by omega]
  · rw [hz _ (show 64 ≤ i + (64 - n) by omega)]
    simp [h64]
theorem turn_turn (u a b : Nat) (hu : u < 18446744073709551616) (ha : a < 64) (hb : b < 64) : turn (turn u a) b = turn u ((a + b) % 64) := by
  apply Nat.eq_of_testBit_eq
  intro i
  rw [turn_bit _ _ _ (turn_lt u a hu ha) hb, turn_bit _ _ _ hu ha, turn_bit _ _ _ hu (by omega)]
  by_cases h : i < 64
  · have h2 : (i + 64 - b) % 64 < 64 := by omega
    simp only [h, h2, decide_true, Bool.true_and]
    congr 1
    omega
  · simp [h]
/-- How many bits are set. -/
def cnt : Nat → Nat → Nat
  | 0, _ => 0
  | n + 1, v => v % 2 + cnt n (v / 2)
theorem cnt_le (n v : Nat) : cnt n v ≤ n := by
  induction n generalizing v with
  | zero => exact Nat.le_refl _
  | succ n ih => unfold cnt; have := ih (v / 2); omega
theorem cnt_zero (n : Nat) : cnt n 0 = 0 := by
  induction n with
  | zero => rfl
  | succ n ih => unfold cnt; simpa using ih
theorem cnt_top (k v b : Nat) (hv : v < 2 ^ k) (hb : b < 2) : cnt (k + 1) (b * 2 ^ k + v) = cnt k v + b := by
  induction k generalizing v with
  | zero => simp only [Nat.pow_zero] at hv ⊢; unfold cnt cnt; omega
  | succ k ih =>
    rw [cnt]
    have h1 : (b * 2 ^ (k + 1) + v) % 2 = v % 2 := by rw [Nat.pow_succ, ← Nat.mul_assoc]; omega
    have h2 : (b * 2 ^ (k + 1) + v) / 2 = b * 2 ^ k + v / 2 := by rw [Nat.pow_succ, ← Nat.mul_assoc]; omega
    rw [h1, h2, ih _ (by rw [Nat.pow_succ] at hv; omega), cnt]
    omega
theorem cnt_turn1 (u : Nat) (hu : u < 18446744073709551616) : cnt 64 (turn u 1) = cnt 64 u := by
  have e : turn u 1 = u % 9223372036854775808 * 2 + u / 9223372036854775808 := by
    unfold turn; omega
  have h1 := cnt_top 63 (u % 9223372036854775808) (u / 9223372036854775808) (by omega) (by omega)
  rw [show u / 9223372036854775808 * 2 ^ 63 + u % 9223372036854775808 = u by omega] at h1
  rw [h1, e, cnt, show (u % 9223372036854775808 * 2 + u / 9223372036854775808) % 2 = u / 9223372036854775808 by omega, show (u % 9223372036854775808 * 2 + u / 9223372036854775808) / 2 = u % 9223372036854775808 by omega]
  omega
theorem cnt_turn (u n : Nat) (hu : u < 18446744073709551616) (hn : n < 64) : cnt 64 (turn u n) = cnt 64 u := by
  induction n with
  | zero => rw [turn_zero u hu]
  | succ n ih =>
    have := turn_turn u n 1 hu (by omega) (by omega)
    rw [show (n + 1) % 64 = n + 1 by omega] at this
    rw [← this, cnt_turn1 _ (turn_lt u n hu (by omega)), ih (by omega)]
end WordP
