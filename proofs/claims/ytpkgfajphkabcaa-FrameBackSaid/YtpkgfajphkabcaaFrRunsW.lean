/-
  The walks of FrameRuns and FrameSizes.
-/
import Derived.Test.YtpkgfajphkabcaaFrPutW
import Derived.Test.YtpkgfajphkabcaaBookBytes
import Derived.Lib.SlBytesConst
import Derived.Lib.SlBytesRow
namespace Go.Proofs.Ytpkgfajphkabcaa
open Go.RowKit
set_option linter.unusedVariables false

theorem fr_ab8 : (fr [97, 98]).length = 8 := by decide +kernel
theorem nx_ab : nx (fr [97, 98]) 0 = ([97, 98], 8, 0) := by decide +kernel
theorem nx_z : nx [0, 0, 0, 0] 0 = ([], 0, 4) := by decide +kernel
theorem nx_7 : nx ((fr [97, 98]).take 7) 0 = ([], 0, 3) := by decide +kernel
set_option maxHeartbeats 1000000 in
theorem frameRuns_any (w : World) : Calls Try.prog 3 #[] w fun e w' => e = .returned (.bool true) ∧ Below w.heap.size w w' := by
  have kc := fun (w : World) (C : Array Value) (n c : Nat) => Lib.run_convert_bytes_const (P := Try.prog) w 22 5 C n c Try.underlying22 Try.underlying5
  go_enter Try.func3, Try.ntmps3
  go_wp2_with fail
  have hl := IsBytes.lit w 5 [97, 98] (2, 3) (by decide) (by decide)
  have hk := fput_any none (some ⟨w.heap.size, 0, none⟩) 0 0 2 2 [] [97, 98] _ (IsBytes.nil _ _) (fun _ => rfl) (by omega) hl (by intro h; cases h) (by omega)
  rw [fr_ab8, Nat.zero_add, List.nil_append] at hk
  refine hk.mono ?_
  rintro e w1 ⟨c, rfl, hc, h1, hb1, _⟩
  simp only [World.size_alloc] at h1
  have H1 := Lib.hid h1; clear h1 hl hk
  have HB := Lib.hid ((show Below w.heap.size w _ by go_grown).trans (hb1.mono (by simp)))
  clear hb1
  go_wp2_with fail
  have hk := next_any (some ⟨w.heap.size + 1, 0, none⟩) 8 c (fr [97, 98]) 0 _ H1.out hc
  unfold NextAns at hk
  rw [nx_ab] at hk
  refine hk.mono ?_
  rintro e w2 ⟨p, c2, rfl, hc2, -, h2, hb2⟩
  have H1 := Lib.hid (H1.out.below hb2)
  have H2 := Lib.hid h2; clear h2 hk
  have HB := Lib.hid (below_next HB.out hb2); clear hb2
  go_wp2_with (at_make; go_must (refine wpList_make_block w2 rfl _ _ 22 rfl 5 (.int .u8 0) 1 rfl (by kernel_rfl) rfl .i64 .i64 _ _ 4 4 rfl rfl rfl rfl (by omega) (by omega) (by unfold maxLen; omega) ?_); intro w3 hh3 hb3 hs3)
  have hz : IsBytes w3 (some ⟨w2.heap.size, 0, none⟩) 4 [0, 0, 0, 0] := Holds.bytes (bs := [0, 0, 0, 0]) hh3 (by decide) (by decide)
  have HB := Lib.hid (below_next HB.out hb3)
  have H1 := Lib.hid (H1.out.below hb3)
  have H2 := Lib.hid (H2.out.below hb3)
  have hk := next_any _ 4 4 _ 0 _ hz (by omega)
  unfold NextAns at hk
  rw [nx_z] at hk
  clear hb3 hh3 hz
  refine hk.mono ?_
  rintro e w4 ⟨p4, c4, rfl, -, -, -, hb4⟩
  clear hk
  have HB := Lib.hid (below_next HB.out hb4)
  have H1 := Lib.hid (H1.out.below hb4)
  have H2 := Lib.hid (H2.out.below hb4)
  clear hb4
  go_wp2_with fail
  have hk := next_any _ 7 c _ 0 _ (H1.out.pre 7 (by omega)) (by omega)
  unfold NextAns at hk
  rw [nx_7] at hk
  refine hk.mono ?_
  rintro e w5 ⟨p5, c5, rfl, -, -, -, hb5⟩
  clear hk
  have HB := Lib.hid (below_next HB.out hb5)
  have H2 := Lib.hid (H2.out.below hb5)
  clear hb5
  obtain ⟨b, off, rfl, hlt, hcell⟩ := H2.out.2.2.2 (by decide)
  have c0 := hcell 0 (by decide)
  have c1 := hcell 1 (by decide)
  simp only [Nat.add_zero, List.getD_cons_zero, List.getD_cons_succ] at c0 c1
  clear hcell
  have kv := Lib.run_convert_whole (P := Try.prog) w5 22 5 9 Try.underlying22 Try.underlying5 Try.underlying9 b off ⟨#[97, 98]⟩ (by
    intro i hi
    have hi2 : i < 2 := hi
    rcases (show i = 0 ∨ i = 1 by omega) with rfl | rfl
    · exact c0
    · exact c1) c2
  rw [show (ByteArray.mk #[97, 98]).size = 2 from rfl] at kv
  go_wp2_with fail
  go_ret
  exact ⟨rfl, HB.out⟩
set_option maxHeartbeats 1000000 in
theorem frameSizes_any (a : Option Addr) (len cap : Nat) (bs : List Nat) (x : Int) (w : World) (hb : IsBytes w a len bs) (hcap : cap ≤ 140737488351232) (hlc : len ≤ cap) (hnil : a = none → cap = 0) (hx : (Lit.int .i64 x).wf = true) :
    Calls Try.prog 4 #[.slice a len cap, .int .i64 x] w fun e w' => e = .returned (.bool true) ∧ Below w.heap.size w w' := by
  simp [Lit.wf, IntKind.min, IntKind.max, IntKind.signed, IntKind.bits] at hx
  have HBS := Lib.hid hb; clear hb
  have HNIL := Lib.hid hnil; clear hnil
  go_enter Try.func4, Try.ntmps4
  go_wp2_with fail
  refine (within_nat x 0 16386 w hx (by omega) (by omega) (by omega)).mono ?_
  rintro e w1 ⟨⟨n, hn0, hn, rfl⟩, rfl⟩
  have hn : n ≤ 16386 := by omega
  clear hn0 hx
  go_wp2_with (at_make; go_must (refine wpList_make_block w rfl _ _ 22 rfl 5 (.int .u8 0) 1 rfl (by kernel_rfl) rfl .i64 .i64 _ _ n n rfl rfl rfl rfl (by omega) (by omega) (by unfold maxLen; omega) ?_); intro w1 hh1 hb1 hs1)
  have hz : IsBytes w1 (some ⟨w.heap.size, 0, none⟩) n (List.replicate n 0) := by
    have := Holds.bytes (bs := List.replicate n 0) (by simpa using hh1) (by simp) (by simp; omega)
    simpa using this
  have hk := fput_any a (some ⟨w.heap.size, 0, none⟩) len cap n n bs _ w1 (HBS.out.below hb1) HNIL.out (by omega) hz (by intro h; cases h) (by omega)
  rw [fr_len, List.length_replicate] at hk
  by_cases hf : n = 0 ∨ 16384 < n
  · rw [if_pos hf, Nat.add_zero] at hk
    refine hk.mono ?_
    rintro e w2 ⟨c, rfl, _, _, hb2, _⟩
    have HB := Lib.hid (hb1.trans (hb2.mono hb1.size))
    clear hk hz hh1 hb1 hb2
    rcases hf with rfl | hf
    · go_wp2_with fail
      refine (frameRuns_any _).mono ?_
      rintro e w3 ⟨rfl, hb3⟩
      go_wp2_with fail
      go_ret
      exact ⟨rfl, below_next HB.out hb3⟩
    · have q1 : decide ((n : Int) ≤ 16384) = false := by simp; omega
      have q2 : ((0 : Int) == (n : Int) + 6) = false := by simp; omega
      go_wp2_with fail
      refine (frameRuns_any _).mono ?_
      rintro e w3 ⟨rfl, hb3⟩
      go_wp2_with fail
      go_ret
      exact ⟨rfl, below_next HB.out hb3⟩
  · rw [if_neg hf] at hk
    refine hk.mono ?_
    rintro e w2 ⟨c, rfl, _, _, hb2, _⟩
    have HB := Lib.hid (hb1.trans (hb2.mono hb1.size))
    clear hk hz hh1 hb1 hb2
    have hf1 : 1 ≤ n := by omega
    have hf2 : n ≤ 16384 := by omega
    clear hf
    have q1 : decide ((n : Int) ≤ 16384) = true := by simp; omega
    have q2 : ((len : Int) + ((n : Int) + 6) - (len : Int) == (n : Int) + 6) = true := by simp; omega
    have q3 : ((len : Int) + ((n : Int) + 6) - (len : Int) == 0) = false := by simp; omega
    go_wp2_with fail
    refine (frameRuns_any _).mono ?_
    rintro e w3 ⟨rfl, hb3⟩
    go_wp2_with fail
    go_ret
    exact ⟨rfl, below_next HB.out hb3⟩
end Go.Proofs.Ytpkgfajphkabcaa
