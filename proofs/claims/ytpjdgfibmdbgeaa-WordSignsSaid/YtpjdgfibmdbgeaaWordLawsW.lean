/-
  The walks of WordSigns, WordOrder, WordLows.
-/
import Derived.Test.YtpjdgfibmdbgeaaWordTellsW
import Derived.Test.YtpjdgfibmdbgeaaWordQ
namespace Go.Proofs.Ytpjdgfibmdbgeaa
open Go.RowKit
set_option linter.unusedVariables false

set_option maxHeartbeats 1000000 in
theorem wordSigns_any (n a1 : Int) (w : World) (h0 : (Lit.int .i64 n).wf = true) (h1 : (Lit.int .i64 a1).wf = true) :
    Calls Try.prog 7 #[.int .i64 n, .int .i64 a1] w fun e w' => e = .returned (.bool true) ∧ Below w.heap.size w w' := by
  have hn := i64_of h0
  have hb := i64_of h1
  clear h0 h1
  have HB := Below.refl w.heap.size w
  go_enter Try.func7, Try.ntmps7
  go_wp2_with fail
  refine (within_nat a1 1 63 w hb (by omega) (by omega) (by omega)).mono ?_
  rintro e w1 ⟨⟨k, hk1, hk2, rfl⟩, rfl⟩
  obtain ⟨q, rfl⟩ : ∃ q : Nat, k = q + 1 := ⟨k - 1, by omega⟩
  have hS := sign_low n (q + 1) (by omega) (by omega)
  have hu : (n % 18446744073709551616).toNat < 18446744073709551616 := by omega
  have eu : IntKind.u64.wrap n = (((n % 18446744073709551616).toNat : Nat) : Int) := by unfold IntKind.wrap; simp [IntKind.bits, IntKind.signed]; omega
  simp only [Nat.add_sub_cancel] at hS
  rw [show ((q + 1 : Nat) : Int) = (q : Int) + 1 from by omega] at hS
  obtain ⟨s1, s2, s3, s4⟩ := hS
  have K1 := Lib.hid (fun W => sign_any (n % 18446744073709551616).toNat ((q : Int) + 1) W hu)
  have K3 := Lib.hid (fun W => low_any (n % 18446744073709551616).toNat ((q : Int) + 1) W hu)
  have hv : ∀ v : Int, (v % 18446744073709551616).toNat < 18446744073709551616 := fun v => by omega
  have K2 := Lib.hid (fun W => low_any (WordP.sign (n % 18446744073709551616).toNat ((q : Int) + 1) % 18446744073709551616).toNat ((q : Int) + 1) W (hv _))
  rw [s3] at K2
  have ev : IntKind.u64.wrap (WordP.sign (n % 18446744073709551616).toNat ((q : Int) + 1)) = (((WordP.sign (n % 18446744073709551616).toNat ((q : Int) + 1) % 18446744073709551616).toNat : Nat) : Int) := by unfold IntKind.wrap; simp [IntKind.bits, IntKind.signed]; omega
  have hP : (2 : Int) ^ q ≤ 4611686018427387904 := by
    have := Nat.pow_le_pow_right (n := 2) (by omega) (show q ≤ 62 by omega)
    have e : (2 : Int) ^ q = ((2 ^ q : Nat) : Int) := by simp
    rw [e]; simp at this; omega
  have hP0 : 0 < (2 : Int) ^ q := by
    have := Nat.two_pow_pos q
    have e : (2 : Int) ^ q = ((2 ^ q : Nat) : Int) := by simp
    rw [e]; omega
  rw [show (((2 ^ q : Nat) : Int)) = (2 : Int) ^ q by simp] at s1 s2 s4
  clear s3 hv
  rw [show ((q + 1 : Nat) : Int) = (q : Int) + 1 from by omega]
  generalize WordP.low (n % 18446744073709551616).toNat ((q : Int) + 1) = lo at K2 K3
  generalize WordP.sign (n % 18446744073709551616).toNat ((q : Int) + 1) = v at *
  generalize (n % 18446744073709551616).toNat = u at *
  have hv2 : (v % 18446744073709551616).toNat < 18446744073709551616 := by omega
  generalize (v % 18446744073709551616).toNat = u2 at *
  have hkq : (1 : Int) ≤ (q : Int) + 1 := by omega
  have hq62 : q ≤ 62 := by omega
  clear hk1 hk2
  rcases (show (-2 ^ q ≤ n ∧ n < 2 ^ q) ∨ n < -2 ^ q ∨ (-2 ^ q ≤ n ∧ 2 ^ q ≤ n) by omega) with ⟨hf1, hf2⟩ | hf1 | ⟨hf1, hf2⟩
  · have hvn := s4.2 ⟨hf1, hf2⟩
    subst hvn
    have hu2 : u2 = u := by omega
    subst hu2
    clear s4 ev
    go_wp2_with fail
    refine (K1.out _).mono ?_
    rintro e w2 ⟨rfl, hb⟩; have HB := below_next HB hb; clear hb
    go_wp2_with fail
    refine (K2.out _).mono ?_
    rintro e w3 ⟨rfl, hb⟩; have HB := below_next HB hb; clear hb
    go_wp2_with fail
    refine (K3.out _).mono ?_
    rintro e w4 ⟨rfl, hb⟩; have HB := below_next HB hb; clear hb
    go_wp2_with fail
    refine (wordRuns_any _).mono ?_
    rintro e w5 ⟨rfl, hb⟩; have HB := below_next HB hb; clear hb
    go_wp2_with fail
    go_ret
    exact ⟨rfl, HB⟩
  · have hvn : (v == n) = false := by simp; intro h; have := s4.1 h; omega
    clear s4
    go_wp2_with fail
    refine (K1.out _).mono ?_
    rintro e w2 ⟨rfl, hb⟩; have HB := below_next HB hb; clear hb
    go_wp2_with fail
    refine (K2.out _).mono ?_
    rintro e w3 ⟨rfl, hb⟩; have HB := below_next HB hb; clear hb
    go_wp2_with fail
    refine (K3.out _).mono ?_
    rintro e w4 ⟨rfl, hb⟩; have HB := below_next HB hb; clear hb
    go_wp2_with fail
    refine (wordRuns_any _).mono ?_
    rintro e w5 ⟨rfl, hb⟩; have HB := below_next HB hb; clear hb
    go_wp2_with fail
    go_ret
    exact ⟨rfl, HB⟩
  · have hvn : (v == n) = false := by simp; intro h; have := s4.1 h; omega
    have hdf : decide (n < (2 : Int) ^ q) = false := by simp; omega
    clear s4
    go_wp2_with fail
    refine (K1.out _).mono ?_
    rintro e w2 ⟨rfl, hb⟩; have HB := below_next HB hb; clear hb
    go_wp2_with fail
    refine (K2.out _).mono ?_
    rintro e w3 ⟨rfl, hb⟩; have HB := below_next HB hb; clear hb
    go_wp2_with fail
    refine (K3.out _).mono ?_
    rintro e w4 ⟨rfl, hb⟩; have HB := below_next HB hb; clear hb
    go_wp2_with fail
    refine (wordRuns_any _).mono ?_
    rintro e w5 ⟨rfl, hb⟩; have HB := below_next HB hb; clear hb
    go_wp2_with fail
    go_ret
    exact ⟨rfl, HB⟩
end Go.Proofs.Ytpjdgfibmdbgeaa
