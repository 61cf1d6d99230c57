/-
  The walk of WordTurns.
-/
import Derived.Test.YtpjdgfibmdbgeaaWordTellsW
namespace Go.Proofs.Ytpjdgfibmdbgeaa
open Go.RowKit
set_option linter.unusedVariables false

theorem cnt_grow (k v : Nat) (hv : v < 2 ^ k) : WordP.cnt (k + 1) v = WordP.cnt k v := by
  have := WordP.cnt_top k v 0 hv (by decide)
  simpa using this
theorem cnt_step (v : Nat) (hv : v < 18446744073709551616) : WordP.cnt 64 v = v % 2 + WordP.cnt 64 (v / 2) := by
  rw [show WordP.cnt 64 v = v % 2 + WordP.cnt 63 (v / 2) from rfl, cnt_grow 63 (v / 2) (by omega)]
set_option maxHeartbeats 1000000 in
theorem count_any (u : Nat) (w : World) (hu : u < 18446744073709551616) :
    Calls Try.prog 30 #[.int .u64 u] w fun e w' => e = .returned (.int .i64 (WordP.cnt 64 u)) ∧ Below w.heap.size w w' := by
  go_enter Try.func30, Try.ntmps30
  go_wp2
  go_loop [0, 3] (fun v n => ∃ x c : Nat, v = .int .u64 x ∧ n = .int .i64 c ∧ x < 18446744073709551616 ∧ c + WordP.cnt 64 x = WordP.cnt 64 u) (fun v _ => (intOf v).toNat)
  case atStart => exact ⟨u, 0, rfl, rfl, hu, by omega⟩
  case round =>
    obtain ⟨x, c, rfl, rfl, hx, hc⟩ := hrel
    have hle := WordP.cnt_le 64 u
    by_cases h0 : 0 < x
    · have hs := cnt_step x hx
      have ha := WordP.and_one x hx
      have HC := Lib.hid hc
      have HS := Lib.hid hs
      have hc65 : c ≤ 64 := by omega
      clear hc hs hle
      go_wp2
      go_round
      case rel => exact ⟨x / 2, c + x % 2, by go_num, by first | (rw [ha]; go_num) | go_num, by omega, by have := HC.out; have := HS.out; omega⟩
      case measure => simp [intOf]; omega
    · have hx0 : x = 0 := by omega
      subst hx0
      rw [WordP.cnt_zero] at hc
      go_wp2
      go_ret
      exact ⟨ret_int (by omega), by go_grown⟩

set_option maxHeartbeats 1000000 in
theorem wordTurns_any (a0 a1 a2 : Int) (w : World) (h0 : (Lit.int .u64 a0).wf = true) (h1 : (Lit.int .i64 a1).wf = true) (h2 : (Lit.int .i64 a2).wf = true) :
    Calls Try.prog 6 #[.int .u64 a0, .int .i64 a1, .int .i64 a2] w fun e w' => e = .returned (.bool true) ∧ Below w.heap.size w w' := by
  obtain ⟨u, rfl, hu⟩ := u64_of h0
  clear h0 h1 h2
  have hmf : ∀ (fn : Fn) (first cap : Array Value) (w : World), (Instr.makeFunc fn first cap).run Try.prog w = .ok (.func fn first cap) w := fun _ _ _ _ => rfl
  have ei := WordP.iand63 a1
  have ej := WordP.iand63 a2
  have hi : (a1 % 64).toNat < 64 := by omega
  have hj : (a2 % 64).toNat < 64 := by omega
  have K1 := Lib.hid (fun W => turn_any u a1 W hu)
  have K3 := Lib.hid (fun W => turn_any (WordP.turn u (a1 % 64).toNat) a2 W (WordP.turn_lt u _ hu hi))
  generalize (a1 % 64).toNat = i at ei hi K1 K3 ⊢
  generalize (a2 % 64).toNat = j at ej hj K3 ⊢
  have hx := WordP.turn_lt u i hu hi
  have t2 := WordP.turn_turn u i ((((64 : Int) - i) % 64).toNat) hu hi (by omega)
  rw [show (i + (((64 : Int) - i) % 64).toNat) % 64 = 0 by omega, WordP.turn_zero u hu] at t2
  have t3 := WordP.turn_turn u i j hu hi hj
  have t4 := WordP.cnt_turn u i hu hi
  have K2 := Lib.hid (fun W => turn_any (WordP.turn u i) ((64 : Int) - i) W hx)
  have K4 := Lib.hid (fun W => turn_any u ((i : Int) + j) W hu)
  rw [t2] at K2
  rw [show (((i : Int) + j) % 64).toNat = (i + j) % 64 by omega, ← t3] at K4
  have K5 := Lib.hid (fun W => count_any (WordP.turn u i) W hx)
  have K6 := Lib.hid (fun W => count_any u W hu)
  rw [t4] at K5
  clear t2 t3 t4
  generalize WordP.turn u i = x at *
  have HB := Below.refl w.heap.size w
  go_enter Try.func6, Try.ntmps6
  go_wp2_with fail
  refine (K1.out _).mono ?_
  rintro e w1 ⟨rfl, hb⟩; have HB := below_next HB hb; clear hb
  go_wp2_with fail
  refine (K2.out _).mono ?_
  rintro e w2 ⟨rfl, hb⟩; have HB := below_next HB hb; clear hb
  go_wp2_with fail
  refine (K3.out _).mono ?_
  rintro e w3 ⟨rfl, hb⟩; have HB := below_next HB hb; clear hb
  go_wp2_with fail
  refine (K4.out _).mono ?_
  rintro e w4 ⟨rfl, hb⟩; have HB := below_next HB hb; clear hb
  go_wp2_with fail
  refine (K5.out _).mono ?_
  rintro e w5 ⟨rfl, hb⟩; have HB := below_next HB hb; clear hb
  go_wp2_with fail
  refine (K6.out _).mono ?_
  rintro e w6 ⟨rfl, hb⟩; have HB := below_next HB hb; clear hb
  go_wp2_with fail
  refine (wordRuns_any _).mono ?_
  rintro e w7 ⟨rfl, hb⟩; have HB := below_next HB hb; clear hb
  go_wp2_with fail
  go_ret
  exact ⟨rfl, HB⟩
end Go.Proofs.Ytpjdgfibmdbgeaa
