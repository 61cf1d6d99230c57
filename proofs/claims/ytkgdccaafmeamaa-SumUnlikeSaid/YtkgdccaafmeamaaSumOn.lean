/-
  The walks of sum.On and the reference's On: both come to 'SumP.on c bs', for any bytes; the world stays.
-/
import Derived.Test.YtkgdccaafmeamaaCommon
import Derived.Test.YtkgdccaafmeamaaSumPlain
namespace Go.Proofs.Ytkgdccaafmeamaa
open Go.RowKit

theorem u32_inv (c : Nat) (hc : c < 4294967296) : bits BinOp.xor IntKind.u32 IntKind.u32.max (c : Int) = ((SumP.inv c : Nat) : Int) := by
  have e : IntKind.u32.max = ((4294967295 : Nat) : Int) := by decide
  rw [e, u32_xor_nat _ _ (by decide) hc]
  unfold SumP.inv
  congr 1
  apply Nat.eq_of_testBit_eq
  intro i
  have := Nat.testBit_two_pow_sub_succ (n := 32) hc i
  rw [Nat.testBit_xor, show (4294967295 : Nat) - c = 2 ^ 32 - (c + 1) from by omega, this, show (4294967295 : Nat) = 2 ^ 32 - 1 from rfl, Nat.testBit_two_pow_sub_one]
  by_cases hi : i < 32
  · simp [hi]
  · have : c.testBit i = false := Nat.testBit_lt_two_pow (Nat.lt_of_lt_of_le hc (Nat.pow_le_pow_right (n := 2) (by decide) (by omega : 32 ≤ i)))
    simp [hi, this]

theorem u32_xor' (c x : Nat) (hc : c < 4294967296) (hx : x < 256) : bits BinOp.xor IntKind.u32 (c : Int) (x : Int) = ((c ^^^ x : Nat) : Int) := u32_xor_nat c x hc (by omega)
theorem sh_hit (d : Nat) (hd : d < 4294967296) (h : (bits BinOp.and IntKind.u32 (d : Int) 1 == 1) = true) : bits BinOp.xor IntKind.u32 ((d : Int) / 2) 3988292384 = ((SumP.sh d : Nat) : Int) := by
  have e := u32_and_nat d 1 hd (by decide)
  rw [show ((1 : Nat) : Int) = 1 from rfl] at e
  rw [e, nat_mask1] at h
  have h1 : d % 2 = 1 := by
    have := eq_of_beq h
    omega
  rw [show ((d : Int) / 2) = ((d / 2 : Nat) : Int) from by omega, show (3988292384 : Int) = ((3988292384 : Nat) : Int) from rfl, u32_xor_nat _ _ (by omega) (by decide)]
  rw [SumP.sh, if_pos h1]
theorem sh_miss (d : Nat) (hd : d < 4294967296) (h : (bits BinOp.and IntKind.u32 (d : Int) 1 == 1) = false) : ((d : Int) / 2) = ((SumP.sh d : Nat) : Int) := by
  have e := u32_and_nat d 1 hd (by decide)
  rw [show ((1 : Nat) : Int) = 1 from rfl] at e
  rw [e, nat_mask1] at h
  have h1 : ¬ d % 2 = 1 := by intro h1; rw [h1] at h; simp at h
  rw [SumP.sh, if_neg h1]; omega

set_option maxHeartbeats 400000 in
theorem on_any (c : Nat) (a : Option Addr) (len cap : Nat) (bs : List Nat) (w : World) (hc : c < 4294967296) (hb : IsBytes w a len bs) :
    Calls Try.prog 9 #[.int .u32 c, .slice a len cap] w fun e w' => e = .returned (.int .u32 (SumP.on c bs : Nat)) ∧ w = w' := by
  have hinv := u32_inv c hc
  obtain ⟨hl, hm, h8, hcell⟩ := hb
  have Hl := Lib.hid hl; clear hl
  have H8 := Lib.hid h8; clear h8
  have HC := Lib.hid hcell; clear hcell
  have Hinv := Lib.hid hinv; clear hinv
  go_enter Try.func9, Try.ntmps9
  go_wp2
  go_loop [0, 12] (fun c0 i => ∃ k : Nat, k ≤ len ∧ i = .int .i64 k ∧ c0 = .int .u32 (SumP.crc (SumP.inv c) (bs.take k) : Nat)) (fun _ i => len - (intOf i).toNat)
  case atStart => exact ⟨0, by omega, rfl, by rw [Hinv.out]; rfl⟩
  case round =>
    obtain ⟨k, hk, rfl, rfl⟩ := hrel
    have hfin : ¬ k < len → SumP.on c bs = SumP.inv (SumP.crc (SumP.inv c) (bs.take k)) := fun h => by
      rw [List.take_of_length_le (by rw [Hl.out]; omega)]; rfl
    have hc1lt : SumP.crc (SumP.inv c) (bs.take k) < 4294967296 := SumP.crc_lt SumP.inv_lt (fun y hy => H8.out y (List.mem_of_mem_take hy))
    obtain ⟨c1, hc1⟩ : ∃ c1, c1 = SumP.crc (SumP.inv c) (bs.take k) := ⟨_, rfl⟩
    rw [← hc1] at hc1lt hfin ⊢
    have Hfin := Lib.hid hfin; clear hfin
    have Hc1 := Lib.hid hc1; clear hc1
    by_cases hlt : k < len
    · obtain ⟨b, off, rfl, _, hcell⟩ := HC.out (by omega)
      have hx := hcell k hlt
      clear hcell
      have hx256 : bs.getD k 0 < 256 := H8.out _ (SumP.getD_mem (by rw [Hl.out]; exact hlt))
      have Hstep := Lib.hid (SumP.crc_take (SumP.inv c) bs k (by rw [Hl.out]; exact hlt))
      generalize bs.getD k 0 = x at hx hx256 Hstep
      rw [← Hc1.out] at Hstep
      go_wp2
      go_loop [0, 20] (fun c0 i => ∃ j : Nat, j ≤ 8 ∧ i = .int .i64 j ∧ c0 = .int .u32 (SumP.shN j (c1 ^^^ x) : Nat)) (fun _ i => 8 - (intOf i).toNat)
      case atStart => exact ⟨0, by omega, rfl, by rw [u32_xor' c1 x hc1lt hx256]; rfl⟩
      case round =>
        obtain ⟨j, hj, rfl, rfl⟩ := hrel
        have hd : SumP.shN j (c1 ^^^ x) < 4294967296 := SumP.shN_lt (Nat.xor_lt_two_pow (n := 32) hc1lt (by omega))
        have Hs := Lib.hid (SumP.shN_snoc j (c1 ^^^ x))
        have H8j : j = 8 → SumP.shN j (c1 ^^^ x) = SumP.feed c1 x := fun h => by subst h; rfl
        have H8j := Lib.hid H8j
        generalize SumP.shN j (c1 ^^^ x) = d at hd Hs H8j
        go_wp2
        · go_round
          case rel => exact ⟨j + 1, by omega, by go_num, by rw [Hs.out, sh_hit d hd ‹_›]⟩
          case measure => simp [intOf]; omega
        · go_round
          case rel => exact ⟨j + 1, by omega, by go_num, by rw [Hs.out, sh_miss d hd ‹_›]⟩
          case measure => simp [intOf]; omega
        · go_round
          case rel => exact ⟨k + 1, by omega, by go_num, by rw [Hstep.out, H8j.out (by omega)]⟩
          case measure => simp [intOf]; omega
    · have e2 := u32_inv c1 hc1lt
      go_wp2
      go_ret
      exact ⟨ret_int (by rw [Hfin.out hlt]), rfl⟩

set_option maxHeartbeats 400000 in
theorem refon_any (c : Nat) (a : Option Addr) (len cap : Nat) (bs : List Nat) (w : World) (hc : c < 4294967296) (hb : IsBytes w a len bs) :
    Calls Try.prog 10 #[.int .u32 c, .slice a len cap] w fun e w' => e = .returned (.int .u32 (SumP.on c bs : Nat)) ∧ w = w' := by
  have hinv := u32_inv c hc
  obtain ⟨hl, hm, h8, hcell⟩ := hb
  have Hl := Lib.hid hl; clear hl
  have H8 := Lib.hid h8; clear h8
  have HC := Lib.hid hcell; clear hcell
  have Hinv := Lib.hid hinv; clear hinv
  go_enter Try.func10, Try.ntmps10
  go_wp2
  go_loop [0, 5] (fun c0 i => ∃ k : Nat, k ≤ len ∧ i = .int .i64 k ∧ c0 = .int .u32 (SumP.crc (SumP.inv c) (bs.take k) : Nat)) (fun _ i => len - (intOf i).toNat)
  case atStart => exact ⟨0, by omega, rfl, by rw [Hinv.out]; rfl⟩
  case round =>
    obtain ⟨k, hk, rfl, rfl⟩ := hrel
    have hfin : ¬ k < len → SumP.on c bs = SumP.inv (SumP.crc (SumP.inv c) (bs.take k)) := fun h => by
      rw [List.take_of_length_le (by rw [Hl.out]; omega)]; rfl
    have hc1lt : SumP.crc (SumP.inv c) (bs.take k) < 4294967296 := SumP.crc_lt SumP.inv_lt (fun y hy => H8.out y (List.mem_of_mem_take hy))
    obtain ⟨c1, hc1⟩ : ∃ c1, c1 = SumP.crc (SumP.inv c) (bs.take k) := ⟨_, rfl⟩
    rw [← hc1] at hc1lt hfin ⊢
    have Hfin := Lib.hid hfin; clear hfin
    have Hc1 := Lib.hid hc1; clear hc1
    by_cases hlt : k < len
    · obtain ⟨b, off, rfl, _, hcell⟩ := HC.out (by omega)
      have hx := hcell k hlt
      clear hcell
      have hx256 : bs.getD k 0 < 256 := H8.out _ (SumP.getD_mem (by rw [Hl.out]; exact hlt))
      have Hstep := Lib.hid (SumP.crc_take (SumP.inv c) bs k (by rw [Hl.out]; exact hlt))
      generalize bs.getD k 0 = x at hx hx256 Hstep
      rw [← Hc1.out] at Hstep
      go_wp2
      go_loop [0, 6] (fun c0 i => ∃ j : Nat, j ≤ 8 ∧ i = .int .i64 j ∧ c0 = .int .u32 (SumP.shN j (c1 ^^^ x) : Nat)) (fun _ i => 8 - (intOf i).toNat)
      case atStart => exact ⟨0, by omega, rfl, by rw [u32_xor' c1 x hc1lt hx256]; rfl⟩
      case round =>
        obtain ⟨j, hj, rfl, rfl⟩ := hrel
        have hd : SumP.shN j (c1 ^^^ x) < 4294967296 := SumP.shN_lt (Nat.xor_lt_two_pow (n := 32) hc1lt (by omega))
        have Hs := Lib.hid (SumP.shN_snoc j (c1 ^^^ x))
        have H8j : j = 8 → SumP.shN j (c1 ^^^ x) = SumP.feed c1 x := fun h => by subst h; rfl
        have H8j := Lib.hid H8j
        generalize SumP.shN j (c1 ^^^ x) = d at hd Hs H8j
        go_wp2
        · go_round
          case rel => exact ⟨j + 1, by omega, by go_num, by rw [Hs.out, sh_hit d hd ‹_›]⟩
          case measure => simp [intOf]; omega
        · go_round
          case rel => exact ⟨j + 1, by omega, by go_num, by rw [Hs.out, sh_miss d hd ‹_›]⟩
          case measure => simp [intOf]; omega
        · go_round
          case rel => exact ⟨k + 1, by omega, by go_num, by rw [Hstep.out, H8j.out (by omega)]⟩
          case measure => simp [intOf]; omega
    · have e2 := u32_inv c1 hc1lt
      go_wp2
      go_ret
      exact ⟨ret_int (by rw [Hfin.out hlt]), rfl⟩

theorem of_any (a : Option Addr) (len cap : Nat) (bs : List Nat) (w : World) (hb : IsBytes w a len bs) :
    Calls Try.prog 7 #[.slice a len cap] w fun e w' => e = .returned (.int .u32 (SumP.on 0 bs : Nat)) ∧ w = w' := by
  go_enter Try.func7, Try.ntmps7
  go_wp2_with (first | (go_at_call 9; refine (on_any 0 a len cap bs _ (by omega) hb).mono ?_; rintro e w1 ⟨rfl, rfl⟩))
  go_ret
  exact ⟨rfl, rfl⟩

theorem runs_value : SumP.on 0 [49, 50, 51, 52, 53, 54, 55, 56, 57] = 3421780262 := by decide +kernel
set_option maxHeartbeats 400000 in
theorem sumRuns_any (w : World) : Calls Try.prog 3 #[] w fun e w' => e = .returned (.bool true) ∧ Below w.heap.size w w' := by
  have kc := fun (w : World) (C : Array Value) (n c : Nat) => Lib.run_convert_bytes_const (P := Try.prog) w 24 5 C n c Try.underlying24 Try.underlying5
  have h1 := IsBytes.lit w 5 [49, 50, 51, 52, 53, 54, 55, 56, 57] (9, 10) (by decide) (by decide)
  have h2 := fun W => of_any none 0 0 [] W (IsBytes.nil _ _)
  have h3 := of_any (some ⟨w.heap.size, 0, none⟩) 9 9 _ _ h1
  rw [runs_value] at h3
  have H2 := Lib.hid h2; clear h2
  have H3 := Lib.hid h3; clear h3 h1
  go_enter Try.func3, Try.ntmps3
  go_wp2_with fail
  refine (show Calls _ _ _ _ _ from H3.out).mono ?_
  rintro e w1 ⟨rfl, rfl⟩
  go_wp2_with (first | (go_at_call 7; refine (H2.out _).mono ?_; rintro e w1 ⟨rfl, rfl⟩))
  go_ret
  exact ⟨rfl, (Below.refl _ _).alloc (Nat.le_refl _) _⟩
end Go.Proofs.Ytkgdccaafmeamaa
