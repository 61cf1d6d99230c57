/-
  The walks of sum.On and the reference's On: both come to 'SumP.on c bs', for any bytes; the world stays.
-/
import Derived.Test.YtpkgfajphkabcaaCommon
import Derived.Test.YtpkgfajphkabcaaSumPlain
namespace Go.Proofs.Ytpkgfajphkabcaa
open Go.RowKit

theorem u32_inv (c : Nat) (hc : c < 4294967296) : bits BinOp.xor IntKind.u32 IntKind.u32.max (c : Int) = ((SumP.inv c : Nat) : Int) := by
  have e : IntKind.u32.max = ((4294967295 : Nat) : Int) := by decide
  rw [e, u32_xor_nat _ _ (by decide) hc]
  unfold SumP.inv
  congr 1
  apply Nat.eq_of_testBit_eq
  intro i
  have := Nat.testBit_two_pow_sub_succ (n := 32) hc i
  rw [Nat.testBit_xor, show (4294967295 : Nat) - c = 2 ^ 32 - (c + 1) from by omega, this, show (4294967295 : Nat) = 2 ^ 32 - 1 from rfl, Nat.testBit_two_pow_sub_one]
  by_cases hi : i < 32
  · simp [hi]
  · have : c.testBit i = false := Nat.testBit_lt_two_pow (Nat.lt_of_lt_of_le hc (Nat.pow_le_pow_right (n := 2) (by decide) (by omega : 32 ≤ i)))
    simp [hi, this]

theorem u32_xor' (c x : Nat) (hc : c < 4294967296) (hx : x < 256) : bits BinOp.xor IntKind.u32 (c : Int) (x : Int) = ((c ^^^ x : Nat) : Int) := u32_xor_nat c x hc (by omega)
theorem sh_hit (d : Nat) (hd : d < 4294967296) (h : (bits BinOp.and IntKind.u32 (d : Int) 1 == 1) = true) : bits BinOp.xor IntKind.u32 ((d : Int) / 2) 3988292384 = ((SumP.sh d : Nat) : Int) := by
  have e := u32_and_nat d 1 hd (by decide)
  rw [show ((1 : Nat) : Int) = 1 from rfl] at e
  rw [e, nat_mask1] at h
  have h1 : d % 2 = 1 := by
    have := eq_of_beq h
    omega
  rw [show ((d : Int) / 2) = ((d / 2 : Nat) : Int) from by omega, show (3988292384 : Int) = ((3988292384 : Nat) : Int) from rfl, u32_xor_nat _ _ (by omega) (by decide)]
  rw [SumP.sh, if_pos h1]
theorem sh_miss (d : Nat) (hd : d < 4294967296) (h : (bits BinOp.and IntKind.u32 (d : Int) 1 == 1) = false) : ((d : Int) / 2) = ((SumP.sh d : Nat) : Int) := by
  have e := u32_and_nat d 1 hd (by decide)
  rw [show ((1 : Nat) : Int) = 1 from rfl] at e
  rw [e, nat_mask1] at h
  have h1 : ¬ d % 2 = 1 := by intro h1; rw [h1] at h; simp at h
  rw [SumP.sh, if_neg h1]; omega

set_option maxHeartbeats 400000 in
theorem on_any (c : Nat) (a : Option Addr) (len cap : Nat) (bs : List Nat) (w : World) (hc : c < 4294967296) (hb : IsBytes w a len bs) :
    Calls Try.prog 25 #[.int .u32 c, .slice a len cap] w fun e w' => e = .returned (.int .u32 (SumP.on c bs : Nat)) ∧ w = w' := by
  have hinv := u32_inv c hc
  obtain ⟨hl, hm, h8, hcell⟩ := hb
  have Hl := Lib.hid hl; clear hl
  have H8 := Lib.hid h8; clear h8
  have HC := Lib.hid hcell; clear hcell
  have Hinv := Lib.hid hinv; clear hinv
  go_enter Try.func25, Try.ntmps25
  go_wp2
  go_loop [0, 12] (fun c0 i => ∃ k : Nat, k ≤ len ∧ i = .int .i64 k ∧ c0 = .int .u32 (SumP.crc (SumP.inv c) (bs.take k) : Nat)) (fun _ i => len - (intOf i).toNat)
  case atStart => exact ⟨0, by omega, rfl, by rw [Hinv.out]; rfl⟩
  case round =>
    obtain ⟨k, hk, rfl, rfl⟩ := hrel
    have hfin : ¬ k < len → SumP.on c bs = SumP.inv (SumP.crc (SumP.inv c) (bs.take k)) := fun h => by
      rw [List.take_of_length_le (by rw [Hl.out]; omega)]; rfl
    have hc1lt : SumP.crc (SumP.inv c) (bs.take k) < 4294967296 := SumP.crc_lt SumP.inv_lt (fun y hy => H8.out y (List.mem_of_mem_take hy))
    obtain ⟨c1, hc1⟩ : ∃ c1, c1 = SumP.crc (SumP.inv c) (bs.take k) := ⟨_, rfl⟩
    rw [← hc1] at hc1lt hfin ⊢
    have Hfin := Lib.hid hfin; clear hfin
    have Hc1 := Lib.hid hc1; clear hc1
    by_cases hlt : k < len
    · obtain ⟨b, off, rfl, _, hcell⟩ := HC.out (by omega)
      have hx := hcell k hlt
      clear hcell
      have hx256 : bs.getD k 0 < 256 := H8.out _ (SumP.getD_mem (by rw [Hl.out]; exact hlt))
      have Hstep := Lib.hid (SumP.crc_take (SumP.inv c) bs k (by rw [Hl.out]; exact hlt))
      generalize bs.getD k 0 = x at hx hx256 Hstep
      rw [← Hc1.out] at Hstep
      go_wp2
      go_loop [0, 20] (fun c0 i => ∃ j : Nat, j ≤ 8 ∧ i = .int .i64 j ∧ c0 = .int .u32 (SumP.shN j (c1 ^^^ x) : Nat)) (fun _ i => 8 - (intOf i).toNat)
      case atStart => exact ⟨0, by omega, rfl, by rw [u32_xor' c1 x hc1lt hx256]; rfl⟩
      case round =>
        obtain ⟨j, hj, rfl, rfl⟩ := hrel
        have hd : SumP.shN j (c1 ^^^ x) < 4294967296 := SumP.shN_lt (Nat.xor_lt_two_pow (n := 32) hc1lt (by omega))
        have Hs := Lib.hid (SumP.shN_snoc j (c1 ^^^ x))
        have H8j : j = 8 → SumP.shN j (c1 ^^^ x) = SumP.feed c1 x := fun h => by subst h; rfl
        have H8j := Lib.hid H8j
        generalize SumP.shN j (c1 ^^^ x) = d at hd Hs H8j
        go_wp2
        · go_round
          case rel => exact ⟨j + 1, by omega, by go_num, by rw [Hs.out, sh_hit d hd ‹_›]⟩
          case measure => simp [intOf]; omega
        · go_round
          case rel => exact ⟨j + 1, by omega, by go_num, by rw [Hs.out, sh_miss d hd ‹_›]⟩
          case measure => simp [intOf]; omega
        · go_round
          case rel => exact ⟨k + 1, by omega, by go_num, by rw [Hstep.out, H8j.out (by omega)]⟩
          case measure => simp [intOf]; omega
    · have e2 := u32_inv c1 hc1lt
      go_wp2
      go_ret
      exact ⟨ret_int (by rw [Hfin.out hlt]), rfl⟩

set_option maxHeartbeats 400000 in
theorem refon_any (c : Nat) (a : Option Addr) (len cap : Nat) (bs : List Nat) (w : World) (hc : c < 4294967296) (hb : IsBytes w a len bs) :
    Calls Try.prog 23 #[.int .u32 c, .slice a len cap] w fun e w' => e = .returned (.int .u32 (SumP.on c bs : Nat)) ∧ w = w' := by
  have hinv := u32_inv c hc
  obtain ⟨hl, hm, h8, hcell⟩ := hb
  have Hl := Lib.hid hl; clear hl
  have H8 := Lib.hid h8; clear h8
  have HC := Lib.hid hcell; clear hcell
  have Hinv := Lib.hid hinv; clear hinv
  go_enter Try.func23, Try.ntmps23
  go_wp2
  go_loop [0, 5] (fun c0 i => ∃ k : Nat, k ≤ len ∧ i = .int .i64 k ∧ c0 = .int .u32 (SumP.crc (SumP.inv c) (bs.take k) : Nat)) (fun _ i => len - (intOf i).toNat)
  case atStart => exact ⟨0, by omega, rfl, by rw [Hinv.out]; rfl⟩
  case round =>
    obtain ⟨k, hk, rfl, rfl⟩ := hrel
    have hfin : ¬ k < len → SumP.on c bs = SumP.inv (SumP.crc (SumP.inv c) (bs.take k)) := fun h => by
      rw [List.take_of_length_le (by rw [Hl.out]; omega)]; rfl
    have hc1lt : SumP.crc (SumP.inv c) (bs.take k) < 4294967296 := SumP.crc_lt SumP.inv_lt (fun y hy => H8.out y (List.mem_of_mem_take hy))
    obtain ⟨c1, hc1⟩ : ∃ c1, c1 = SumP.crc (SumP.inv c) (bs.take k) := ⟨_, rfl⟩
    rw [← hc1] at hc1lt hfin ⊢
    have Hfin := Lib.hid hfin; clear hfin
    have Hc1 := Lib.hid hc1; clear hc1
    by_cases hlt : k < len
    · obtain ⟨b, off, rfl, _, hcell⟩ := HC.out (by omega)
      have hx := hcell k hlt
      clear hcell
      have hx256 : bs.getD k 0 < 256 := H8.out _ (SumP.getD_mem (by rw [Hl.out]; exact hlt))
      have Hstep := Lib.hid (SumP.crc_take (SumP.inv c) bs k (by rw [Hl.out]; exact hlt))
      generalize bs.getD k 0 = x at hx hx256 Hstep
      rw [← Hc1.out] at Hstep
      go_wp2
      go_loop [0, 6] (fun c0 i => ∃ j : Nat, j ≤ 8 ∧ i = .int .i64 j ∧ c0 = .int .u32 (SumP.shN j (c1 ^^^ x) : Nat)) (fun _ i => 8 - (intOf i).toNat)
      case atStart => exact ⟨0, by omega, rfl, by rw [u32_xor' c1 x hc1lt hx256]; rfl⟩
      case round =>
        obtain ⟨j, hj, rfl, rfl⟩ := hrel
        have hd : SumP.shN j (c1 ^^^ x) < 4294967296 := SumP.shN_lt (Nat.xor_lt_two_pow (n := 32) hc1lt (by omega))
        have Hs := Lib.hid (SumP.shN_snoc j (c1 ^^^ x))
        have H8j : j = 8 → SumP.shN j (c1 ^^^ x) = SumP.feed c1 x := fun h => by subst h; rfl
        have H8j := Lib.hid H8j
        generalize SumP.shN j (c1 ^^^ x) = d at hd Hs H8j
        go_wp2
        · go_round
          case rel => exact ⟨j + 1, by omega, by go_num, by rw [Hs.out, sh_hit d hd ‹_›]⟩
          case measure => simp [intOf]; omega
        · go_round
          case rel => exact ⟨j + 1, by omega, by go_num, by rw [Hs.out, sh_miss d hd ‹_›]⟩
          case measure => simp [intOf]; omega
        · go_round
          case rel => exact ⟨k + 1, by omega, by go_num, by rw [Hstep.out, H8j.out (by omega)]⟩
          case measure => simp [intOf]; omega
    · have e2 := u32_inv c1 hc1lt
      go_wp2
      go_ret
      exact ⟨ret_int (by rw [Hfin.out hlt]), rfl⟩

theorem of_any (a : Option Addr) (len cap : Nat) (bs : List Nat) (w : World) (hb : IsBytes w a len bs) :
    Calls Try.prog 20 #[.slice a len cap] w fun e w' => e = .returned (.int .u32 (SumP.on 0 bs : Nat)) ∧ w = w' := by
  go_enter Try.func20, Try.ntmps20
  go_wp2_with (first | (go_at_call 25; refine (on_any 0 a len cap bs _ (by omega) hb).mono ?_; rintro e w1 ⟨rfl, rfl⟩))
  go_ret
  exact ⟨rfl, rfl⟩
end Go.Proofs.Ytpkgfajphkabcaa
