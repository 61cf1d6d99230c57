/-
  The walks of package word, but for the bytes.
-/
import Derived.Test.YtpjdgfibmdbgeaaCommon
import Derived.Test.YtpjdgfibmdbgeaaWordP
namespace Go.Proofs.Ytpjdgfibmdbgeaa
open Go.RowKit

def keyN (r s : Int) : Nat := (r % 4294967296 * 4294967296 + s % 4294967296).toNat
theorem key_bits (r s : Int) : bits BinOp.or IntKind.u64 (r % 4294967296 * 4294967296) (s % 4294967296) = ((keyN r s : Nat) : Int) := by
  have e1 : r % 4294967296 * 4294967296 = (((r % 4294967296).toNat * 4294967296 : Nat) : Int) := by omega
  have e2 : s % 4294967296 = (((s % 4294967296).toNat : Nat) : Int) := by omega
  have h := nat_join 32 ((r % 4294967296).toNat * 4294967296) (s % 4294967296).toNat (by omega) (by omega)
  unfold keyN
  rw [e1, e2, u64_or_nat _ _ (by omega) (by omega), h]
  omega
theorem key_any (r s : Int) (w : World) :
    Calls Try.prog 20 #[.agg #[.int .i64 r, .int .i64 s]] w fun e w' => e = .returned (.int .u64 (keyN r s)) ∧ Below w.heap.size w w' := by
  go_enter Try.func20, Try.ntmps20
  go_wp2
  go_ret
  exact ⟨ret_int (key_bits r s), by go_grown⟩
theorem zig_any (n : Int) (w : World) (hn : -9223372036854775808 ≤ n ∧ n ≤ 9223372036854775807) :
    Calls Try.prog 16 #[.int .i64 n] w fun e w' => e = .returned (.int .u64 (WordP.zig n)) ∧ Below w.heap.size w w' := by
  go_enter Try.func16, Try.ntmps16
  go_wp2
  go_ret
  exact ⟨ret_int (WordP.zig_xor n hn), by go_grown⟩
theorem zag_any (u : Nat) (w : World) (hu : u < 18446744073709551616) :
    Calls Try.prog 17 #[.int .u64 u] w fun e w' => e = .returned (.int .i64 (WordP.zag u)) ∧ Below w.heap.size w w' := by
  go_enter Try.func17, Try.ntmps17
  go_wp2
  go_ret
  exact ⟨ret_int (WordP.zag_xor u hu), by go_grown⟩
theorem turn_any (u : Nat) (k : Int) (w : World) (hu : u < 18446744073709551616) :
    Calls Try.prog 15 #[.int .u64 u, .int .i64 k] w fun e w' => e = .returned (.int .u64 (WordP.turn u (k % 64).toNat)) ∧ Below w.heap.size w w' := by
  have h63 := WordP.and63 k
  have hn : (k % 64).toNat < 64 := by omega
  have hr := Lib.hid (WordP.turn_or u (k % 64).toNat hu hn)
  generalize (k % 64).toNat = n at h63 hn hr ⊢
  go_enter Try.func15, Try.ntmps15
  go_wp2
  have e : bits BinOp.or IntKind.u64 (IntKind.u64.wrap ((u : Int) * 2 ^ n)) ((u : Int) / 2 ^ (64 - n)) = ((WordP.turn u n : Nat) : Int) := by
    rw [← hr.out, show ((2 : Int) ^ n) = ((2 ^ n : Nat) : Int) by simp, show ((2 : Int) ^ (64 - n)) = ((2 ^ (64 - n) : Nat) : Int) by simp, ← Int.natCast_mul, WordP.u64_wrap]
    rfl
  go_ret
  exact ⟨ret_int e, by go_grown⟩
theorem low_any (u : Nat) (k : Int) (w : World) (hu : u < 18446744073709551616) :
    Calls Try.prog 13 #[.int .u64 u, .int .i64 k] w fun e w' => e = .returned (.int .u64 (WordP.low u k)) ∧ Below w.heap.size w w' := by
  go_enter Try.func13, Try.ntmps13
  go_wp2
  · go_ret
    exact ⟨ret_int (by rw [WordP.low_none ‹_›]; rfl), by go_grown⟩
  · go_ret
    exact ⟨ret_int (by rw [WordP.low_all ‹_›]), by go_grown⟩
  · go_ret
    exact ⟨ret_int (WordP.low_bits hu ‹_› ‹_›), by go_grown⟩
theorem sign_any (u : Nat) (k : Int) (w : World) (hu : u < 18446744073709551616) :
    Calls Try.prog 14 #[.int .u64 u, .int .i64 k] w fun e w' => e = .returned (.int .i64 (WordP.sign u k)) ∧ Below w.heap.size w w' := by
  go_enter Try.func14, Try.ntmps14
  go_wp2
  · go_ret
    exact ⟨ret_int (WordP.sign_none ‹_›), by go_grown⟩
  · go_ret
    exact ⟨ret_int (WordP.sign_all hu ‹_›), by go_grown⟩
  · go_ret
    exact ⟨ret_int (WordP.sign_some hu ‹_› ‹_›), by go_grown⟩
theorem inst_any (u : Nat) (w : World) (hu : u < 18446744073709551616) :
    Calls Try.prog 33 #[.int .u64 u] w fun e w' => e = .returned (.agg #[.int .i64 ((u / 4294967296 : Nat) : Int), .int .i64 ((u % 4294967296 : Nat) : Int)]) ∧ Below w.heap.size w w' := by
  go_enter Try.func33, Try.ntmps33
  go_wp2
  exact bodyPost_ret (v := .agg #[.int .i64 ((u : Int) / 4294967296), .int .i64 ((u : Int) % 4294967296)]) (results_cell_row rfl _ _ w.heap.size 35 #[.int .i64 ((u : Int) / 4294967296), .int .i64 ((u : Int) % 4294967296)] (0, 0) _ rfl (holds_alloc w _ _) Try.underlying35 rfl (by kernel_rfl)) rfl ⟨rfl, by go_grown⟩

/-! ### The document's own -/
theorem rlow_any (u : Nat) (k : Int) (w : World) (hu : u < 18446744073709551616) :
    Calls Try.prog 21 #[.int .u64 u, .int .i64 k] w fun e w' => e = .returned (.int .u64 (WordP.low u k)) ∧ Below w.heap.size w w' := by
  go_enter Try.func21, Try.ntmps21
  go_wp2
  · go_ret
    exact ⟨ret_int (by rw [WordP.low_none (by omega)]; rfl), by go_grown⟩
  · go_ret
    exact ⟨ret_int (by rw [WordP.low_all ‹_›]), by go_grown⟩
  · go_ret
    exact ⟨ret_int (WordP.low_bits hu (by omega) ‹_›), by go_grown⟩
theorem rzig_any (n : Int) (w : World) (hn : -9223372036854775808 ≤ n ∧ n ≤ 9223372036854775807) :
    Calls Try.prog 24 #[.int .i64 n] w fun e w' => e = .returned (.int .u64 (WordP.zig n)) ∧ Below w.heap.size w w' := by
  go_enter Try.func24, Try.ntmps24
  go_wp2
  · go_ret
    exact ⟨ret_int (WordP.rzig_neg hn ‹_›), by go_grown⟩
  · go_ret
    exact ⟨ret_int (WordP.rzig_pos ‹_›), by go_grown⟩
theorem rzag_any (u : Nat) (w : World) (hu : u < 18446744073709551616) :
    Calls Try.prog 25 #[.int .u64 u] w fun e w' => e = .returned (.int .i64 (WordP.zag u)) ∧ Below w.heap.size w w' := by
  go_enter Try.func25, Try.ntmps25
  go_wp2
  · go_ret
    exact ⟨ret_int (WordP.rzag_odd hu ‹_›), by go_grown⟩
  · go_ret
    exact ⟨ret_int (WordP.rzag_even hu ‹_›), by go_grown⟩
theorem rless_any (a b c d : Int) (w : World) :
    Calls Try.prog 32 #[.agg #[.int .i64 a, .int .i64 b], .agg #[.int .i64 c, .int .i64 d]] w fun e w' => e = .returned (.bool (decide (a < c) || a == c && decide (b < d))) ∧ Below w.heap.size w w' := by
  go_enter Try.func32, Try.ntmps32
  go_wp2
  all_goals
    go_ret
    exact ⟨ret_bool (by simp [*]), by go_grown⟩
theorem rsign_any (u : Nat) (k : Int) (w : World) (hu : u < 18446744073709551616) :
    Calls Try.prog 22 #[.int .u64 u, .int .i64 k] w fun e w' => e = .returned (.int .i64 (WordP.sign u k)) ∧ Below w.heap.size w w' := by
  have R := Lib.hid (fun W => rlow_any u k W hu)
  go_enter Try.func22, Try.ntmps22
  go_wp2_with fail
  · go_ret
    exact ⟨ret_int (WordP.sign_none (by omega)), by go_grown⟩
  · go_ret
    exact ⟨ret_int (by rw [WordP.wrap_nat u hu]; unfold WordP.sign; rw [if_neg (by omega), if_pos ‹_›]), by go_grown⟩
  · refine (R.out _).mono ?_
    rintro e w1 ⟨rfl, hb⟩
    have HB := Lib.hid hb; clear hb
    obtain ⟨q, rfl⟩ : ∃ q : Nat, k = q + 1 := ⟨(k - 1).toNat, by omega⟩
    have hq : q < 63 := by omega
    have hS := Lib.hid (WordP.rsign_q u q hq)
    rw [WordP.low_pos (by omega) (by omega), show ((q : Int) + 1).toNat = q + 1 by omega]
    have hm : u % 2 ^ (q + 1) < 2 ^ (q + 1) := Nat.mod_lt _ (Nat.two_pow_pos _)
    have hP : 2 ^ (q + 1) ≤ 9223372036854775808 := by
      have := Nat.pow_le_pow_right (n := 2) (by omega) (show q + 1 ≤ 63 by omega); simpa using this
    have hP2 : (2 : Int) ^ q ≤ 4611686018427387904 := by
      have := Nat.pow_le_pow_right (n := 2) (by omega) (show q ≤ 62 by omega)
      have e : (2 : Int) ^ q = ((2 ^ q : Nat) : Int) := by simp
      rw [e]; simp at this; omega
    have hm2 : u % 2 ^ (q + 1) < 9223372036854775808 := by omega
    generalize u % 2 ^ (q + 1) = m at hm hm2 hS ⊢
    clear hm hP
    go_wp2
    · go_region
      go_wp2
      go_ret
      exact ⟨ret_int (by
        rw [hS.out, if_pos (WordP.top_true ‹_›)]
        have e : (2 : Int) ^ q = ((2 ^ q : Nat) : Int) := by simp
        rw [e] at hP2 ⊢
        generalize 2 ^ q = p at hP2 ⊢
        unfold wrap64
        omega), HB.out.trans ⟨rfl, rfl, rfl, Nat.le_refl _, fun _ _ => rfl⟩⟩
    · go_ret
      exact ⟨ret_int (by rw [hS.out, if_neg (WordP.top_false ‹_›)]), HB.out⟩
set_option maxHeartbeats 1000000 in
theorem rturn_any (u : Nat) (k : Int) (w : World) (hu : u < 18446744073709551616) :
    Calls Try.prog 23 #[.int .u64 u, .int .i64 k] w fun e w' => e = .returned (.int .u64 (WordP.turn u (k % 64).toNat)) ∧ Below w.heap.size w w' := by
  have h63 := WordP.iand63 k
  have hn : (k % 64).toNat < 64 := by omega
  generalize (k % 64).toNat = n at h63 hn ⊢
  go_enter Try.func23, Try.ntmps23
  go_wp2
  go_loop [0, 5] (fun x i => ∃ j : Nat, j ≤ n ∧ i = .int .i64 j ∧ x = .int .u64 (WordP.turn u j)) (fun _ i => n - (intOf i).toNat)
  case atStart => exact ⟨0, by omega, rfl, by rw [WordP.turn_zero u hu]⟩
  case round =>
    obtain ⟨j, hj, rfl, rfl⟩ := hrel
    by_cases hlt : j < n
    · have hl := WordP.turn_lt u j hu (by omega)
      have hr := Lib.hid (WordP.turn_turn u j 1 hu (by omega) (by omega))
      have ho := Lib.hid (WordP.turn_or (WordP.turn u j) 1 hl (by omega))
      generalize WordP.turn u j = x at hl hr ho ⊢
      go_wp2
      have e : bits BinOp.or IntKind.u64 (IntKind.u64.wrap ((x : Int) * 2)) ((x : Int) / 9223372036854775808) = ((WordP.turn u (j + 1) : Nat) : Int) := by
        have h1 := ho.out
        rw [hr.out, show (j + 1) % 64 = j + 1 by omega] at h1
        rw [← h1, show (x : Int) * 2 = ((x * 2 ^ 1 : Nat) : Int) by omega, WordP.u64_wrap]
        rfl
      go_round
      case rel => exact ⟨j + 1, by omega, by go_num, by rw [e]⟩
      case measure => simp [intOf]; omega
    · have hjn : j = n := by omega
      subst hjn
      go_wp2
      go_ret
      exact ⟨rfl, by go_grown⟩
end Go.Proofs.Ytpjdgfibmdbgeaa
