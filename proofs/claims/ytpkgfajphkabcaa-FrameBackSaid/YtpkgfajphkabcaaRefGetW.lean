/-
  The walks of the document's own Get and Put.
-/
import Derived.Test.YtpkgfajphkabcaaPutW
namespace Go.Proofs.Ytpkgfajphkabcaa
open Go.RowKit

theorem rget_arg (a : Option Addr) (len cap : Nat) (at' n : Int) (w : World) (_hl : len ≤ 281474976710656) (h : n < 1 ∨ 8 < n ∨ at' < 0 ∨ (len : Int) < at') :
    Calls Try.prog 22 #[.slice a len cap, .int .i64 at', .int .i64 n] w fun e w' => e = .returned (.tuple #[.int .u64 0, .int .i64 1]) ∧ Below w.heap.size w w' := by
  by_cases h1 : n < 1
  · clear h
    go_enter Try.func22, Try.ntmps22
    go_wp2
    go_ret2
    exact ⟨rfl, by go_grown⟩
  by_cases h2 : 8 < n
  · clear h
    go_enter Try.func22, Try.ntmps22
    go_wp2
    go_ret2
    exact ⟨rfl, by go_grown⟩
  by_cases h3 : at' < 0
  · clear h
    go_enter Try.func22, Try.ntmps22
    go_wp2
    go_ret2
    exact ⟨rfl, by go_grown⟩
  have h4 : (len : Int) < at' := by omega
  clear h
  go_enter Try.func22, Try.ntmps22
  go_wp2
  go_ret2
  exact ⟨rfl, by go_grown⟩
theorem rget_short (a : Option Addr) (len cap : Nat) (at' n : Int) (w : World) (_hl : len ≤ 281474976710656) (h1 : 1 ≤ n) (h2 : n ≤ 8) (h3 : 0 ≤ at') (h4 : at' ≤ (len : Int)) (h5 : (len : Int) - at' < n) :
    Calls Try.prog 22 #[.slice a len cap, .int .i64 at', .int .i64 n] w fun e w' => e = .returned (.tuple #[.int .u64 0, .int .i64 3]) ∧ Below w.heap.size w w' := by
  go_enter Try.func22, Try.ntmps22
  go_wp2
  go_ret2
  exact ⟨rfl, by go_grown⟩
theorem leN_cons_or (l : List Nat) (x : Nat) (h : ∀ y ∈ l, y < 256) (hx : x < 256) (hl : l.length ≤ 7) : bits BinOp.or IntKind.u64 (IntKind.u64.wrap (((leN l : Nat) : Int) * 256)) ((x : Nat) : Int) = ((leN (x :: l) : Nat) : Int) := by
  have h1 := leN_lt l h
  have h2 : 256 ^ l.length ≤ 256 ^ 7 := Nat.pow_le_pow_right (by omega) hl
  have h3 : leN l < 72057594037927936 := by simpa using Nat.lt_of_lt_of_le h1 h2
  rw [show ((leN l : Nat) : Int) * 256 = ((leN l * 256 : Nat) : Int) by omega, WordP.u64_wrap, Nat.mod_eq_of_lt (by omega), u64_or_nat _ _ (by omega) (by omega), nat_join 8 _ _ (by omega) (by omega), leN]
  omega
set_option maxHeartbeats 1000000 in
theorem rget_in (a : Option Addr) (len cap : Nat) (bs : List Nat) (at' n : Nat) (w : World) (hb : IsBytes w a len bs) (_hlc : len ≤ cap) (h1 : 1 ≤ n) (h8 : n ≤ 8) (hfit : at' + n ≤ len) :
    Calls Try.prog 22 #[.slice a len cap, .int .i64 at', .int .i64 n] w fun e w' => e = .returned (.tuple #[.int .u64 (leN ((bs.drop at').take n)), .int .i64 0]) ∧ Below w.heap.size w w' := by
  have hlen := hb.2.1
  have h256 := hb.2.2.1
  have hbl := hb.1
  obtain ⟨b0, off0, rfl, hlt0, hc⟩ := hb.2.2.2 (by omega)
  clear hb
  have HC := Lib.hid hc; clear hc
  have H256 := Lib.hid h256; clear h256
  go_enter Try.func22, Try.ntmps22
  go_wp2_with fail
  go_loop [8, 9] (fun u i => ∃ k : Nat, k ≤ n ∧ i = .int .i64 ((k : Int) - 1) ∧ u = .int .u64 (leN (((bs.drop at').take n).drop k))) (fun _ i => (intOf i + 1).toNat)
  case atStart => exact ⟨n, by omega, rfl, by rw [List.drop_of_length_le (by simp; omega)]; rfl⟩
  case round =>
    obtain ⟨k, hk, rfl, rfl⟩ := hrel
    by_cases hlt : 0 < k
    · obtain ⟨j, rfl⟩ : ∃ j, k = j + 1 := ⟨k - 1, by omega⟩
      rw [show (((j + 1 : Nat) : Int) - 1) = (j : Int) by omega]
      have hin : at' + j < bs.length := by omega
      have hcell := HC.out (at' + j) (by omega)
      have hx : bs.getD (at' + j) 0 < 256 := by
        have := H256.out bs[at' + j] (List.getElem_mem hin)
        simpa [hin] using this
      have hs : bs.getD (at' + j) 0 :: ((bs.drop at').take n).drop (j + 1) = ((bs.drop at').take n).drop j := by
        have hj2 : j < ((bs.drop at').take n).length := by simp; omega
        rw [List.drop_eq_getElem_cons hj2]
        congr 1
        simp [hin]
      have hor := leN_cons_or (((bs.drop at').take n).drop (j + 1)) (bs.getD (at' + j) 0) (fun y hy => H256.out y (List.mem_of_mem_drop (List.mem_of_mem_take (List.mem_of_mem_drop hy)))) hx (by simp; omega)
      rw [hs] at hor
      have HOR := Lib.hid hor
      clear hor hs hin
      generalize bs.getD (at' + j) 0 = x at hcell HOR hx
      go_wp2
      rw [HOR.out]
      go_round
      case rel => exact ⟨j, by omega, rfl, rfl⟩
      case measure => simp [intOf]
    · have hk0 : k = 0 := by omega
      subst hk0
      rw [List.drop_zero]
      go_wp2
      go_ret2
      exact ⟨rfl, by go_grown⟩
theorem rget_any (a : Option Addr) (len cap : Nat) (bs : List Nat) (at' n : Int) (w : World) (hb : IsBytes w a len bs) (hlc : len ≤ cap) :
    Calls Try.prog 22 #[.slice a len cap, .int .i64 at', .int .i64 n] w fun e w' => e = .returned (.tuple #[.int .u64 (getN bs at' n).1, .int .i64 (getN bs at' n).2]) ∧ Below w.heap.size w w' := by
  have hl := hb.len
  unfold getN
  by_cases h : n < 1 ∨ 8 < n ∨ at' < 0 ∨ (bs.length : Int) < at'
  · rw [if_pos h]; exact rget_arg a len cap at' n w hb.2.1 (by omega)
  rw [if_neg h]
  by_cases h5 : (bs.length : Int) - at' < n
  · rw [if_pos h5]; exact rget_short a len cap at' n w hb.2.1 (by omega) (by omega) (by omega) (by omega) (by omega)
  rw [if_neg h5]
  obtain ⟨x, rfl⟩ := Int.eq_ofNat_of_zero_le (show 0 ≤ at' by omega)
  obtain ⟨y, rfl⟩ := Int.eq_ofNat_of_zero_le (show 0 ≤ n by omega)
  exact rget_in a len cap bs x y w hb hlc (by omega) (by omega) (by omega)
end Go.Proofs.Ytpkgfajphkabcaa
