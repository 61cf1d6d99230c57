/-
  The walks of word's bytes: Get.
-/
import Derived.Test.YtpkgfajphkabcaaCommon
import Derived.Test.YtpkgfajphkabcaaWordP
namespace Go.Proofs.Ytpkgfajphkabcaa
open Go.RowKit

/-- What bytes tell, the lowest first. -/
def leN : List Nat → Nat
  | [] => 0
  | x :: l => x + 256 * leN l
theorem leN_lt (l : List Nat) (h : ∀ x ∈ l, x < 256) : leN l < 256 ^ l.length := by
  induction l with
  | nil => exact Nat.one_pos
  | cons x l ih =>
    have h1 := ih fun y hy => h y (by simp [hy])
    have h2 := h x (by simp)
    rw [leN, List.length_cons, Nat.pow_succ]
    omega
theorem leN_snoc (l : List Nat) (x : Nat) : leN (l ++ [x]) = leN l + x * 256 ^ l.length := by
  induction l with
  | nil => simp [leN]
  | cons y l ih =>
    rw [List.cons_append, leN, leN, ih, List.length_cons, Nat.pow_succ, Nat.mul_add, ← Nat.mul_assoc, Nat.mul_comm 256 x, Nat.mul_assoc, Nat.mul_comm (256 ^ l.length) 256]
    omega
theorem leN_or (l : List Nat) (x : Nat) (h : ∀ y ∈ l, y < 256) (hx : x < 256) (hl : l.length < 8) : bits BinOp.or IntKind.u64 ((leN l : Nat) : Int) ((x * 2 ^ (8 * l.length) : Nat) : Int) = ((leN (l ++ [x]) : Nat) : Int) := by
  have h1 := leN_lt l h
  have e : (256 : Nat) ^ l.length = 2 ^ (8 * l.length) := by rw [show (256 : Nat) = 2 ^ 8 from rfl, ← Nat.pow_mul]
  rw [e] at h1
  have h2 : x * 2 ^ (8 * l.length) < 256 * 2 ^ (8 * l.length) := Nat.mul_lt_mul_of_pos_right hx (Nat.two_pow_pos _)
  have h3 : 256 * 2 ^ (8 * l.length) ≤ 18446744073709551616 := by
    rw [show (256 : Nat) = 2 ^ 8 from rfl, ← Nat.pow_add, show (18446744073709551616 : Nat) = 2 ^ 64 from rfl]
    exact Nat.pow_le_pow_right (by omega) (by omega)
  have h4 : 2 ^ (8 * l.length) ≤ 256 * 2 ^ (8 * l.length) := by omega
  rw [u64_or_nat _ _ (by omega) (by omega), Nat.or_comm, nat_join (8 * l.length) _ _ (Nat.mul_mod_left _ _) h1, leN_snoc, e]
  omega

theorem shl_small (x k : Nat) (hx : x < 256) (hk : k < 8) : IntKind.u64.wrap ((x : Int) * 2 ^ (8 * k)) = ((x * 2 ^ (8 * k) : Nat) : Int) := by
  have h2 : x * 2 ^ (8 * k) < 256 * 2 ^ (8 * k) := Nat.mul_lt_mul_of_pos_right hx (Nat.two_pow_pos _)
  have h3 : 256 * 2 ^ (8 * k) ≤ 18446744073709551616 := by
    rw [show (256 : Nat) = 2 ^ 8 from rfl, ← Nat.pow_add, show (18446744073709551616 : Nat) = 2 ^ 64 from rfl]
    exact Nat.pow_le_pow_right (by omega) (by omega)
  rw [show ((2 : Int) ^ (8 * k)) = ((2 ^ (8 * k) : Nat) : Int) by simp, ← Int.natCast_mul, WordP.u64_wrap, Nat.mod_eq_of_lt (by omega)]

/-- What Get answers: the number, and the error. -/
def getN (bs : List Nat) (at' n : Int) : Nat × Int :=
  if n < 1 ∨ 8 < n ∨ at' < 0 ∨ (bs.length : Int) < at' then (0, 1)
  else if (bs.length : Int) - at' < n then (0, 3) else (leN ((bs.drop at'.toNat).take n.toNat), 0)

set_option maxHeartbeats 1000000 in
theorem get_in (a : Option Addr) (len cap : Nat) (bs : List Nat) (at' n : Nat) (w : World) (hb : IsBytes w a len bs) (hlc : len ≤ cap) (h1 : 1 ≤ n) (h8 : n ≤ 8) (hfit : at' + n ≤ len) :
    Calls Try.prog 21 #[.slice a len cap, .int .i64 at', .int .i64 n] w fun e w' => e = .returned (.tuple #[.int .u64 (leN ((bs.drop at').take n)), .int .i64 0]) ∧ Below w.heap.size w w' := by
  have hlen := hb.2.1
  have h256 := hb.2.2.1
  have hbl := hb.1
  obtain ⟨b0, off0, rfl, hlt0, hc⟩ := hb.2.2.2 (by omega)
  clear hb
  have HC := Lib.hid hc; clear hc
  have H256 := Lib.hid h256; clear h256
  have hcap : ¬ cap = at' := by omega
  have HG := Lib.hid (fun (i : Nat) (hi : i < n) => leN_or (((bs.drop at').take n).take i) (bs.getD (at' + i) 0) (fun y hy => H256.out y (List.mem_of_mem_drop (List.mem_of_mem_take (List.mem_of_mem_take hy)))) (by
    have hin : at' + i < bs.length := by omega
    have := H256.out bs[at' + i] (List.getElem_mem hin)
    simpa [hin] using this) (by simp; omega))
  go_enter Try.func21, Try.ntmps21
  go_wp2_with fail
  go_loop [8, 40] (fun u i => ∃ k : Nat, k ≤ n ∧ i = .int .i64 k ∧ u = .int .u64 (leN (((bs.drop at').take n).take k))) (fun _ i => n - (intOf i).toNat)
  case atStart => exact ⟨0, by omega, rfl, by simp [leN]⟩
  case round =>
    obtain ⟨k, hk, rfl, rfl⟩ := hrel
    by_cases hlt : k < n
    · have hcell := HC.out (at' + k) (by omega)
      rw [← Nat.add_assoc] at hcell
      have e8 : (((bs.drop at').take n).take k).length = k := by simp; omega
      have hs : leN (((bs.drop at').take n).take k ++ [bs.getD (at' + k) 0]) = leN (((bs.drop at').take n).take (k + 1)) := by
        congr 1
        rw [List.take_add_one, List.getElem?_take_of_lt hlt, List.getElem?_drop, List.getD_eq_getElem?_getD, List.getElem?_eq_getElem (show at' + k < bs.length by omega)]
        rfl
      have hx : bs.getD (at' + k) 0 < 256 := by
        have hin : at' + k < bs.length := by omega
        have := H256.out bs[at' + k] (List.getElem_mem hin)
        simpa [hin] using this
      have hor := HG.out k hlt
      rw [e8, hs] at hor
      clear hs e8
      have HOR := Lib.hid hor; clear hor
      generalize bs.getD (at' + k) 0 = x at hcell HOR hx
      go_wp2
      go_round
      case rel => exact ⟨k + 1, by omega, by go_num, by rw [shl_small x k hx (by omega), HOR.out]⟩
      case measure => simp [intOf]; omega
    · have hkn : k = n := by omega
      subst hkn
      rw [List.take_take, Nat.min_self]
      go_wp2
      go_ret2
      exact ⟨rfl, by go_grown⟩
set_option maxHeartbeats 1000000 in
theorem get_arg (a : Option Addr) (len cap : Nat) (at' n : Int) (w : World) (_hl : len ≤ 281474976710656) (h : n < 1 ∨ 8 < n ∨ at' < 0 ∨ (len : Int) < at') :
    Calls Try.prog 21 #[.slice a len cap, .int .i64 at', .int .i64 n] w fun e w' => e = .returned (.tuple #[.int .u64 0, .int .i64 1]) ∧ Below w.heap.size w w' := by
  by_cases h1 : n < 1
  · clear h
    go_enter Try.func21, Try.ntmps21
    go_wp2
    go_ret2
    exact ⟨rfl, by go_grown⟩
  by_cases h2 : 8 < n
  · clear h
    go_enter Try.func21, Try.ntmps21
    go_wp2
    go_ret2
    exact ⟨rfl, by go_grown⟩
  by_cases h3 : at' < 0
  · clear h
    go_enter Try.func21, Try.ntmps21
    go_wp2
    go_ret2
    exact ⟨rfl, by go_grown⟩
  have h4 : (len : Int) < at' := by omega
  clear h
  go_enter Try.func21, Try.ntmps21
  go_wp2
  go_ret2
  exact ⟨rfl, by go_grown⟩
set_option maxHeartbeats 1000000 in
theorem get_short (a : Option Addr) (len cap : Nat) (at' n : Int) (w : World) (_hl : len ≤ 281474976710656) (h1 : 1 ≤ n) (h2 : n ≤ 8) (h3 : 0 ≤ at') (h4 : at' ≤ (len : Int)) (h5 : (len : Int) - at' < n) :
    Calls Try.prog 21 #[.slice a len cap, .int .i64 at', .int .i64 n] w fun e w' => e = .returned (.tuple #[.int .u64 0, .int .i64 3]) ∧ Below w.heap.size w w' := by
  go_enter Try.func21, Try.ntmps21
  go_wp2
  go_ret2
  exact ⟨rfl, by go_grown⟩
theorem get_any (a : Option Addr) (len cap : Nat) (bs : List Nat) (at' n : Int) (w : World) (hb : IsBytes w a len bs) (hlc : len ≤ cap) :
    Calls Try.prog 21 #[.slice a len cap, .int .i64 at', .int .i64 n] w fun e w' => e = .returned (.tuple #[.int .u64 (getN bs at' n).1, .int .i64 (getN bs at' n).2]) ∧ Below w.heap.size w w' := by
  have hl := hb.len
  unfold getN
  by_cases h : n < 1 ∨ 8 < n ∨ at' < 0 ∨ (bs.length : Int) < at'
  · rw [if_pos h]; exact get_arg a len cap at' n w hb.2.1 (by omega)
  rw [if_neg h]
  by_cases h5 : (bs.length : Int) - at' < n
  · rw [if_pos h5]; exact get_short a len cap at' n w hb.2.1 (by omega) (by omega) (by omega) (by omega) (by omega)
  rw [if_neg h5]
  obtain ⟨x, rfl⟩ := Int.eq_ofNat_of_zero_le (show 0 ≤ at' by omega)
  obtain ⟨y, rfl⟩ := Int.eq_ofNat_of_zero_le (show 0 ≤ n by omega)
  exact get_in a len cap bs x y w hb hlc (by omega) (by omega) (by omega)
end Go.Proofs.Ytpkgfajphkabcaa
