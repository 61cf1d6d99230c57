/-
  The walk of SpanRuns.
-/
import Derived.Test.YtonnidebpbnpaaaSpanWalks
namespace Go.Proofs.Ytonnidebpbnpaaa
open Go.RowKit

theorem closed_has1 : SpanP.has ⟨#[97]⟩ ⟨#[99]⟩ ⟨#[98]⟩ = true := by simp [SpanP.has, SpanP.under, SpanP.emp, SpanP.lt, ByteArray.toList_eq, Op.bytesLess]
theorem closed_has2 : SpanP.has ⟨#[97]⟩ ⟨#[99]⟩ ⟨#[99]⟩ = false := by simp [SpanP.has, SpanP.under, SpanP.emp, SpanP.lt, ByteArray.toList_eq, Op.bytesLess]
theorem closed_empty : SpanP.empty ⟨#[98]⟩ ⟨#[98]⟩ = true := by simp [SpanP.empty, SpanP.under, SpanP.emp, SpanP.lt, ByteArray.toList_eq, Op.bytesLess]
theorem closed_meets1 : SpanP.meets ⟨#[97]⟩ ⟨#[99]⟩ ⟨#[98]⟩ ⟨#[100]⟩ = true := by simp [SpanP.meets, SpanP.empty, SpanP.under, SpanP.emp, SpanP.lt, ByteArray.toList_eq, Op.bytesLess]
theorem closed_meets2 : SpanP.meets ⟨#[97]⟩ ⟨#[98]⟩ ⟨#[98]⟩ ⟨#[99]⟩ = false := by simp [SpanP.meets, SpanP.empty, SpanP.under, SpanP.emp, SpanP.lt, ByteArray.toList_eq, Op.bytesLess]
theorem closed_covers : SpanP.covers ⟨#[97]⟩ ⟨#[]⟩ ⟨#[98]⟩ ⟨#[99]⟩ = true := by simp [SpanP.covers, SpanP.empty, SpanP.under, SpanP.emp, SpanP.lt, ByteArray.toList_eq, Op.bytesLess]
theorem closed_max : Lib.maxS ⟨#[97]⟩ ⟨#[98]⟩ = ⟨#[98]⟩ := by simp [Lib.maxS]; decide
theorem closed_hi : SpanP.bothHi ⟨#[99]⟩ ⟨#[]⟩ = ⟨#[99]⟩ := by simp [SpanP.bothHi, SpanP.emp, ByteArray.toList_eq]

set_option maxHeartbeats 2000000 in
theorem spanRuns_any (w : World) : Calls Try.prog 3 #[] w fun e w' => e = .returned (.bool true) ∧ Below w.heap.size w w' := by
  have k1 := fun W => of_any ⟨#[97]⟩ W (by decide)
  rw [show SpanP.succ ⟨#[97]⟩ = ⟨#[97, 0]⟩ from rfl] at k1
  have k2 := fun W => has_any ⟨#[97]⟩ ⟨#[99]⟩ ⟨#[98]⟩ W
  have k3 := fun W => has_any ⟨#[97]⟩ ⟨#[99]⟩ ⟨#[99]⟩ W
  have k4 := fun W => empty_any ⟨#[98]⟩ ⟨#[98]⟩ W
  have k5 := fun W => meets_any ⟨#[97]⟩ ⟨#[99]⟩ ⟨#[98]⟩ ⟨#[100]⟩ W
  have k6 := fun W => meets_any ⟨#[97]⟩ ⟨#[98]⟩ ⟨#[98]⟩ ⟨#[99]⟩ W
  have k7 := fun W => covers_any ⟨#[97]⟩ ⟨#[]⟩ ⟨#[98]⟩ ⟨#[99]⟩ W
  have k8 := fun W => both_any ⟨#[97]⟩ ⟨#[99]⟩ ⟨#[98]⟩ ⟨#[]⟩ W
  simp only [closed_has1] at k2
  simp only [closed_has2] at k3
  simp only [closed_empty] at k4
  simp only [closed_meets1] at k5
  simp only [closed_meets2] at k6
  simp only [closed_covers] at k7
  simp only [closed_max, closed_hi] at k8
  have K1 := Lib.hid k1; have K2 := Lib.hid k2; have K3 := Lib.hid k3; have K4 := Lib.hid k4; have K5 := Lib.hid k5; have K6 := Lib.hid k6; have K7 := Lib.hid k7; have K8 := Lib.hid k8
  clear k1 k2 k3 k4 k5 k6 k7 k8
  have HB := Below.refl w.heap.size w
  go_enter Try.func3, Try.ntmps3
  go_wp2_with (first
    | (go_at_call 9; refine (lawof_any _ _ _).mono ?_; rintro e w' ⟨rfl, hb⟩; have HB := below_next HB hb; clear hb)
    | (go_at_call 8; refine (K1.out _).mono ?_; rintro e w' ⟨rfl, hb⟩; have HB := below_next HB hb; clear hb)
    | (go_at_call 10; (with_reducible refine (K2.out _).mono ?_); rintro e w' ⟨rfl, hb⟩; have HB := below_next HB hb; clear hb)
    | (go_at_call 10; (with_reducible refine (K3.out _).mono ?_); rintro e w' ⟨rfl, hb⟩; have HB := below_next HB hb; clear hb)
    | (go_at_call 11; (with_reducible refine (K4.out _).mono ?_); rintro e w' ⟨rfl, hb⟩; have HB := below_next HB hb; clear hb)
    | (go_at_call 12; (with_reducible refine (K5.out _).mono ?_); rintro e w' ⟨rfl, hb⟩; have HB := below_next HB hb; clear hb)
    | (go_at_call 12; (with_reducible refine (K6.out _).mono ?_); rintro e w' ⟨rfl, hb⟩; have HB := below_next HB hb; clear hb)
    | (go_at_call 13; (with_reducible refine (K7.out _).mono ?_); rintro e w' ⟨rfl, hb⟩; have HB := below_next HB hb; clear hb)
    | (go_at_call 14; (with_reducible refine (K8.out _).mono ?_); rintro e w' ⟨rfl, hb⟩; have HB := below_next HB hb; clear hb))
  go_ret
  exact ⟨rfl, HB⟩
end Go.Proofs.Ytonnidebpbnpaaa
