/-
  The walk of FrontRuns.
-/
import Derived.Test.YtfjllpnmkbfheaaFrontRefW
import Derived.Laws.StructEq
import Derived.Laws.Tables
import Derived.Laws.Cover2
namespace Go.Proofs.Ytfjllpnmkbfheaa
open Go.RowKit

/-- Two values of type Deps are the same just if each of their seven numbers is. -/
@[go_sem] theorem eq_deps (a0 a1 a2 a3 a4 a5 a6 b0 b1 b2 b3 b4 b5 b6 : Int) (w : World) : (Op.equalIn 10000 28 (.agg #[.int .i64 a0, .int .i64 a1, .int .i64 a2, .int .i64 a3, .int .i64 a4, .int .i64 a5, .int .i64 a6]) (.agg #[.int .i64 b0, .int .i64 b1, .int .i64 b2, .int .i64 b3, .int .i64 b4, .int .i64 b5, .int .i64 b6])).run Try.prog w = .ok (a0 == b0 && (a1 == b1 && (a2 == b2 && (a3 == b3 && (a4 == b4 && (a5 == b5 && a6 == b6)))))) w := by
  have u3 := Try.underlying3
  have g3 := Try.isAgg3
  have z3 := Try.sizeOf3
  rw [show (10000 : Nat) = 9999 + 1 from rfl, Op.equalIn]
  simp only [Sem.run_bind, run_underlying Try.underlying28, Result.andThen_ok]
  simp only [Std.Legacy.Range.forIn_eq_forIn_range', Std.Legacy.Range.size, Nat.sub_zero, Nat.add_sub_cancel, Nat.div_one, List.range'_succ, List.range'_zero, List.forIn_cons, List.forIn_nil]
  go_simp
  by_cases h0 : a0 = b0
  · by_cases h1 : a1 = b1
    · by_cases h2 : a2 = b2
      · by_cases h3 : a3 = b3
        · by_cases h4 : a4 = b4
          · by_cases h5 : a5 = b5
            · by_cases h6 : a6 = b6 <;> simp [h0, h1, h2, h3, h4, h5, h6]
            · simp [h0, h1, h2, h3, h4, h5]
          · simp [h0, h1, h2, h3, h4]
        · simp [h0, h1, h2, h3]
      · simp [h0, h1, h2]
    · simp [h0, h1]
  · simp [h0]

def da (a b : Int) : Nat → Int
  | 0 => a
  | 1 => b
  | _ => 0
def fr0 : FrontP.Fr := fun _ _ => 0
def fr1 : FrontP.Fr := FrontP.heard fr0 3 0 (da 5 2)
def fr2 : FrontP.Fr := FrontP.heard fr1 3 1 (da 3 9)
def fr3 : FrontP.Fr := FrontP.heard fr2 3 2 (da 9 1)
theorem st2 : depsV (FrontP.stable fr2 3 0) = .agg #[.int .i64 0, .int .i64 0, .int .i64 0, .int .i64 0, .int .i64 0, .int .i64 0, .int .i64 0] := by kernel_rfl
theorem st3 : depsV (FrontP.stable fr3 3 0) = .agg #[.int .i64 3, .int .i64 1, .int .i64 0, .int .i64 0, .int .i64 0, .int .i64 0, .int .i64 0] := by kernel_rfl

set_option maxHeartbeats 1000000 in
theorem frontRuns_any (w : World) : Calls Try.prog 3 #[] w fun e w' => e = .returned (.bool true) ∧ Below w.heap.size w w' := by
  go_enter Try.func3, Try.ntmps3
  go_wp2_with fail
  refine (new_in 3 0 w (.inl rfl) (by decide)).mono ?_
  rintro e w1 ⟨g, rfl, hg, hf, hb1⟩
  have HF := Lib.hid hf; clear hf
  have HB := Lib.hid (Touch.of_below (g := g) hb1)
  clear hb1
  go_wp2_with fail
  refine (hear_any g 3 0 0 fr0 (da 5 2) w1 HF.out).mono ?_
  rintro e w2 ⟨rfl, hf, ht⟩
  have HF2 := Lib.hid hf; clear hf
  have HT2 := Lib.hid (HB.out.trans ht); clear ht
  go_wp2_with fail
  refine (hear_any g 3 0 1 fr1 (da 3 9) w2 HF2.out).mono ?_
  rintro e w3 ⟨rfl, hf, ht⟩
  have HF3 := Lib.hid hf; clear hf
  have HT3 := Lib.hid (HT2.out.trans ht); clear ht
  go_wp2_with fail
  refine (stable_any g 3 0 fr2 w3 HF3.out (by decide)).mono ?_
  rintro e w4 ⟨rfl, hb4⟩
  rw [st2]
  have HF4 := Lib.hid (HF3.out.below hb4 HF3.out.lt)
  have HT4 := Lib.hid (HT3.out.trans (.of_below hb4)); clear hb4
  go_wp2_with fail
  have hlt4 := HF4.out.lt
  refine (hear_any g 3 0 2 fr2 (da 9 1) _ (HF4.out.below (B := w4.heap.size) (by go_grown) hlt4)).mono ?_
  rintro e w5 ⟨rfl, hf, ht⟩
  have HF5 := Lib.hid hf; clear hf
  have HB5 := Lib.hid ((show Holds _ w4.heap.size 28 (depCells fun _ => 0) from holds_alloc w4 _ _).touch ht (by omega))
  have HT5 := Lib.hid ((HT4.out.trans (.of_below (by go_grown))).trans ht); clear ht
  have b0 := HB5.out.cell 0
  have b1 := HB5.out.cell 1
  have b2 := HB5.out.cell 2
  have b3 := HB5.out.cell 3
  have b4 := HB5.out.cell 4
  have b5 := HB5.out.cell 5
  have b6 := HB5.out.cell 6
  simp only [depCells, List.getElem?_cons_zero, List.getElem?_cons_succ] at b0 b1 b2 b3 b4 b5 b6
  go_wp2_with fail
  refine (stable_any g 3 0 fr3 w5 HF5.out (by decide)).mono ?_
  rintro e w6 ⟨rfl, hb6⟩
  rw [st3]
  have HT6 := Lib.hid (HT5.out.trans (.of_below hb6)); clear hb6
  go_wp2_with fail
  go_ret
  exact ⟨rfl, HT6.out.below hg (Nat.le_refl _)⟩
end Go.Proofs.Ytfjllpnmkbfheaa
