/-
  The walk of SumUnlike.
-/
import Derived.Test.YtkgdccaafmeamaaSumLaws
import Derived.Test.YtkgdccaafmeamaaSumFlip
import Derived.Test.YtkgdccaafmeamaaOwn
namespace Go.Proofs.Ytkgdccaafmeamaa
open Go.RowKit

set_option maxHeartbeats 1000000 in
theorem unlike_out (c : Nat) (a : Option Addr) (len cap : Nat) (x y : Int) (w : World) (h : len = 0 ∨ 1000 < len) :
    Calls Try.prog 6 #[.int .u32 c, .slice a len cap, .int .i64 x, .int .u32 y] w fun e w' => e = .returned (.bool true) ∧ Below w.heap.size w w' := by
  by_cases h0 : len = 0
  · subst h0
    go_enter Try.func6, Try.ntmps6
    go_wp2_with (go_at_call 3; refine (sumRuns_any _).mono ?_; rintro e w' ⟨rfl, hb⟩)
    go_ret
    exact ⟨rfl, hb⟩
  · have h1 : ((len : Int) == 0) = false := by simp; omega
    have h2 : (1000 : Int) < (len : Int) := by omega
    go_enter Try.func6, Try.ntmps6
    go_wp2_with (go_at_call 3; refine (sumRuns_any _).mono ?_; rintro e w' ⟨rfl, hb⟩)
    go_ret
    exact ⟨rfl, hb⟩

theorem xor_bit (y r : Nat) (hy : y < 256) : bits BinOp.xor IntKind.u8 (y : Int) ((2 : Int) ^ (r % 8) % 256) = ((y ^^^ 2 ^ (r % 8) : Nat) : Int) := by
  have h : 2 ^ (r % 8) < 256 := Nat.pow_lt_pow_right (a := 2) (n := 8) (by decide) (Nat.mod_lt _ (by decide))
  have e0 : ((2 : Int) ^ (r % 8)) = ((2 ^ (r % 8) : Nat) : Int) := by simp
  rw [e0]
  generalize 2 ^ (r % 8) = m at h
  rw [show ((m : Int) % 256) = ((m : Nat) : Int) from by omega, u8_xor_nat y m hy h]
theorem and_one (bu k : Nat) (h : bu < 4294967296) : (bits BinOp.and IntKind.u32 ((bu : Int) / 2 ^ k) 1 == 1) = bu.testBit k := by
  have e := u32_and_nat (bu / 2 ^ k) 1 (Nat.lt_of_le_of_lt (Nat.div_le_self _ _) h) (by decide)
  have e2 : ((bu : Int) / 2 ^ k) = ((bu / 2 ^ k : Nat) : Int) := by simp
  rw [e2, show ((1 : Int)) = ((1 : Nat) : Int) from rfl, e, nat_mask1, Nat.testBit_eq_decide_div_mod_eq]
  by_cases h : bu / 2 ^ k % 2 = 1
  · simp [h]
  · have : bu / 2 ^ k % 2 = 0 := by omega
    simp [this]

set_option maxHeartbeats 1000000 in
theorem unlike_in (c bu : Nat) (b off len cap : Nat) (bs : List Nat) (x : Int) (w : World) (hc : c < 4294967296) (hbu : bu < 4294967296) (hb : IsBytes w (some ⟨b, off, none⟩) len bs)
    (h0 : 0 < len) (h1 : len ≤ 1000) (hx : -9223372036854775808 ≤ x ∧ x ≤ 9223372036854775807) :
    Calls Try.prog 6 #[.int .u32 c, .slice (some ⟨b, off, none⟩) len cap, .int .i64 x, .int .u32 bu] w fun e w' => e = .returned (.bool true) ∧ Below w.heap.size w w' := by
  have hne : ((len : Int) == 0) = false := by simp; omega
  have hle : ¬ (1000 : Int) < (len : Int) := by omega
  have Hbl := Lib.hid hb.len
  have Hown := Lib.hid (lit_owns w 5 w.heap.size (Nat.le_refl _))
  have Hsrc := Lib.hid (hb.reads.below ((Below.refl w.heap.size w).alloc (Nat.le_refl _) (.cells #[] 5)))
  have Hlen := Lib.hid (show (cells8 bs).length = len * 1 from by rw [length_cells8, Hbl.out, Nat.mul_one])
  go_enter Try.func6, Try.ntmps6
  go_upto_region 4 with (first | (at_builtin; refine wpList_append_cells rfl (.tmp 22) (.tmp 23) 24 rfl w.heap.size 5 (.int .u8 0) 1 1 rfl (by kernel_rfl) rfl (by decide) _ 0 [] rfl Hown.out (some ⟨b, off, none⟩) len cap (cells8 bs) rfl Hlen.out Hsrc.out (by intro h; cases h) (cells8_one bs) (by unfold maxLen; omega) (by omega) (by simp) ?_; intro v1 w1 ho1 hb1 _))
  obtain ⟨g, cap1, spare, rfl, hg, hh, hc1, hm1, _⟩ := owns_holds ho1 (by omega)
  simp only [Nat.zero_add, List.nil_append] at hh hc1 ⊢
  have hbel : Below w.heap.size w w1 := ((Below.refl _ _).alloc (Nat.le_refl _) _).trans hb1
  clear ho1 hb1
  go_wp2_with fail
  refine (within_nat x 0 _ w1 hx (by omega) (by omega) (by omega)).mono ?_
  rintro e w2 ⟨⟨bit, _, hbit, rfl⟩, rfl⟩
  have hbit : bit < 8 * len := by omega
  go_wp2_with fail
  go_loopw [11, 12] (fun t i wr => ∃ k : Nat, k ≤ 32 ∧ i = .int .i64 k ∧ t = .bool (SumP.anyTurn bit bu len k) ∧ Holds wr g 5 (cells8 (SumP.flips bs bit bu k) ++ spare) ∧ Below w.heap.size w wr) (fun _ i _ => 32 - (intOf i).toNat)
  case atStart => exact ⟨0, by omega, rfl, rfl, hh, hbel⟩
  case round =>
    obtain ⟨k, hk, rfl, rfl, hhr, hbr⟩ := hrel
    by_cases hlt : k < 32
    · have hb1 := and_one bu k hbu
      have hlen2 : (SumP.flips bs bit bu k).length = len := by rw [SumP.length_flips, Hbl.out]
      by_cases ht : bu.testBit k = true
      · rw [ht] at hb1
        by_cases hin : bit + k < 8 * len
        · have hi8 : (bit + k) / 8 < len := by omega
          have hcell := hhr.cell ((bit + k) / 8)
          rw [List.getElem?_append_left (by rw [length_cells8, hlen2]; exact hi8), getElem_cells8 _ _ (by rw [hlen2]; exact hi8)] at hcell
          have hfree := hhr.free ((bit + k) / 8)
          have hin' : (bit : Int) + k < 8 * len := by omega
          generalize hy : (SumP.flips bs bit bu k).getD ((bit + k) / 8) 0 = y at hcell
          have hy256 : y < 256 := by
            rw [← hy]
            exact SumP.flips_lt bs bit bu k hb.2.2.1 _ (SumP.getD_mem (by rw [hlen2]; exact hi8))
          have HY := Lib.hid hy256
          have HT := Lib.hid (show SumP.anyTurn bit bu len (k + 1) = true from by
            unfold SumP.anyTurn SumP.turnsAt
            rw [if_pos (by simp [ht, hin])])
          have HF := Lib.hid (show SumP.flips bs bit bu (k + 1) = SumP.flip1 (SumP.flips bs bit bu k) (bit + k) from by
            rw [SumP.flips, SumP.turnsAt, Hbl.out, if_pos (by simp [ht, hin])])
          have HL := Lib.hid hlen2; clear hlen2
          have Hy := Lib.hid hy; clear hy hy256 ht
          go_upto_region 10 with (fail)
          go_region
          go_wp2
          go_roundw
          case rel =>
            refine ⟨k + 1, by omega, by go_num, ?_, ?_, (hbr.setCell (p := ⟨g, (bit + k) / 8, none⟩) hg _).drew⟩
            · rw [HT.out]
            · have hset := hhr.set ((bit + k) / 8) (.int .u8 ((y ^^^ 2 ^ ((bit + k) % 8) : Nat) : Int))
              rw [List.set_append_left _ _ (by rw [length_cells8, HL.out]; exact hi8), set_cells8] at hset
              rw [xor_bit y _ HY.out, HF.out, SumP.flip1, Hy.out]
              exact hset
          case measure => simp [intOf]; omega
        · have hin' : ¬ (bit : Int) + k < 8 * len := by omega
          have HT := Lib.hid (show SumP.anyTurn bit bu len (k + 1) = SumP.anyTurn bit bu len k from by
            show (if SumP.turnsAt bit bu len k then true else SumP.anyTurn bit bu len k) = _
            rw [if_neg (by simp [SumP.turnsAt]; omega)])
          have HF := Lib.hid (show SumP.flips bs bit bu (k + 1) = SumP.flips bs bit bu k from by
            rw [SumP.flips, SumP.turnsAt, Hbl.out, if_neg (by simp; omega)])
          go_wp2
          go_roundw
          case rel => exact ⟨k + 1, by omega, by go_num, by rw [HT.out], by rw [HF.out]; exact hhr, hbr⟩
          case measure => simp [intOf]; omega
      · have ht0 : bu.testBit k = false := by simpa using ht
        rw [ht0] at hb1
        have HT := Lib.hid (show SumP.anyTurn bit bu len (k + 1) = SumP.anyTurn bit bu len k from by
          show (if SumP.turnsAt bit bu len k then true else SumP.anyTurn bit bu len k) = _
          rw [if_neg (by simp [SumP.turnsAt, ht0])])
        have HF := Lib.hid (show SumP.flips bs bit bu (k + 1) = SumP.flips bs bit bu k from by
          rw [SumP.flips, SumP.turnsAt, if_neg (by simp [ht0])])
        clear ht ht0
        go_wp2
        go_roundw
        case rel => exact ⟨k + 1, by omega, by go_num, by rw [HT.out], by rw [HF.out]; exact hhr, hbr⟩
        case measure => simp [intOf]; omega
    · have hk32 : k = 32 := by omega
      subst hk32
      have hlen2 : (SumP.flips bs bit bu 32).length = len := by rw [SumP.length_flips, Hbl.out]
      have hfb : IsBytes wr (some ⟨g, 0, none⟩) len (SumP.flips bs bit bu 32) := by
        refine ⟨hlen2, by omega, SumP.flips_lt _ _ _ _ hb.2.2.1, fun _ => ⟨g, 0, rfl, hhr.lt, fun i hi => ?_⟩⟩
        rw [Nat.zero_add, hhr.cell, List.getElem?_append_left (by rw [length_cells8, hlen2]; exact hi), getElem_cells8 _ _ (by rw [hlen2]; exact hi)]
      have hpb := hb.below hbr
      have hun := SumP.unlike c bs bit bu hb.2.2.1
      rw [Hbl.out] at hun
      have hI : (((SumP.on c bs : Nat) : Int) == ((SumP.on c (SumP.flips bs bit bu 32) : Nat) : Int)) = !SumP.anyTurn bit bu len 32 := by
        rw [← hun]
        by_cases h : SumP.on c bs = SumP.on c (SumP.flips bs bit bu 32)
        · simp [h]
        · simp [h]; omega
      have K1 := Lib.hid (on_any c (some ⟨b, off, none⟩) len cap bs wr hc hpb)
      have K2 := Lib.hid (on_any c (some ⟨g, 0, none⟩) len cap1 _ wr hc hfb)
      clear hun hfb hpb
      generalize SumP.on c bs = p1 at K1 hI
      generalize SumP.on c (SumP.flips bs bit bu 32) = p2 at K2 hI
      generalize SumP.anyTurn bit bu len 32 = t at hI
      have HI := Lib.hid hI; clear hI
      cases t
      all_goals
        have hI := HI.out
        simp only [Bool.not_true, Bool.not_false] at hI
        clear HI
        go_wp2_with fail
        refine (show Calls _ _ _ _ _ from K1.out).mono ?_
        rintro e w3 ⟨rfl, rfl⟩
        go_wp2_with fail
        refine (show Calls _ _ _ _ _ from K2.out).mono ?_
        rintro e w3 ⟨rfl, rfl⟩
        go_wp2_with fail
        refine (sumRuns_any _).mono ?_
        rintro e w4 ⟨rfl, hb4⟩
        go_wp2_with fail
        go_ret
        exact ⟨rfl, hbr.trans (hb4.mono hbr.size)⟩

theorem unlike_any (a0 : Int) (a : Option Addr) (len cap : Nat) (bs : List Nat) (x : Int) (a3 : Int) (w : World) (h0 : (Lit.int .u32 a0).wf = true) (hb : IsBytes w a len bs) (_hcap : cap ≤ 140737488351232) (_hlc : len ≤ cap)
    (hx : (Lit.int .i64 x).wf = true) (h3 : (Lit.int .u32 a3).wf = true) :
    Calls Try.prog 6 #[.int .u32 a0, .slice a len cap, .int .i64 x, .int .u32 a3] w fun e w' => e = .returned (.bool true) ∧ Below w.heap.size w w' := by
  obtain ⟨c, rfl, hc⟩ := u32_of h0
  obtain ⟨bu, rfl, hbu⟩ := u32_of h3
  by_cases h : len = 0 ∨ 1000 < len
  · exact unlike_out c a len cap x bu w h
  · obtain ⟨b, off, rfl, _⟩ := hb.2.2.2 (by omega)
    exact unlike_in c bu b off len cap bs x w hc hbu hb (by omega) (by omega) (i64_of hx)
end Go.Proofs.Ytkgdccaafmeamaa
