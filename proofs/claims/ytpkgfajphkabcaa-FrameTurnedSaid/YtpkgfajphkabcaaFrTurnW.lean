/-
  The walk of FrameTurned.
-/
import Derived.Test.YtpkgfajphkabcaaFrTurnP
import Derived.Test.YtpkgfajphkabcaaFrRunsW
namespace Go.Proofs.Ytpkgfajphkabcaa
open Go.RowKit
set_option linter.unusedVariables false

theorem i64_of {a : Int} (h : (Lit.int .i64 a).wf = true) : -9223372036854775808 ≤ a ∧ a ≤ 9223372036854775807 := by
  simp [Lit.wf, IntKind.min, IntKind.max, IntKind.signed, IntKind.bits] at h
  exact h
theorem u32_of {a : Int} (h : (Lit.int .u32 a).wf = true) : ∃ c : Nat, a = (c : Int) ∧ c < 4294967296 := by
  simp [Lit.wf, IntKind.min, IntKind.max, IntKind.signed, IntKind.bits] at h
  exact ⟨a.toNat, by omega, by omega⟩
set_option maxHeartbeats 1000000 in
theorem turned_out (p q : Option Addr) (plen pcap qlen qcap : Nat) (x y : Int) (w : World) (h : 1000 < plen ∨ 1000 < qlen ∨ qlen = 0) :
    Calls Try.prog 7 #[.slice p plen pcap, .slice q qlen qcap, .int .i64 x, .int .u32 y] w fun e w' => e = .returned (.bool true) ∧ Below w.heap.size w w' := by
  have hq : (1000 < plen) ∨ (plen ≤ 1000 ∧ 1000 < qlen) ∨ (plen ≤ 1000 ∧ qlen ≤ 1000 ∧ qlen = 0) := by omega
  clear h
  rcases hq with h | ⟨h, h2⟩ | ⟨h, h2, rfl⟩
  · have e1 : decide ((1000 : Int) < (plen : Int)) = true := by simp; omega
    go_enter Try.func7, Try.ntmps7
    go_wp2_with (go_at_call 3; refine (frameRuns_any _).mono ?_; rintro e w' ⟨rfl, hb⟩)
    go_ret
    exact ⟨rfl, hb⟩
  · have e1 : decide ((1000 : Int) < (plen : Int)) = false := by simp; omega
    have e2 : decide ((1000 : Int) < (qlen : Int)) = true := by simp; omega
    go_enter Try.func7, Try.ntmps7
    go_wp2_with (go_at_call 3; refine (frameRuns_any _).mono ?_; rintro e w' ⟨rfl, hb⟩)
    go_ret
    exact ⟨rfl, hb⟩
  · have e1 : decide ((1000 : Int) < (plen : Int)) = false := by simp; omega
    go_enter Try.func7, Try.ntmps7
    go_wp2_with (go_at_call 3; refine (frameRuns_any _).mono ?_; rintro e w' ⟨rfl, hb⟩)
    go_ret
    exact ⟨rfl, hb⟩
theorem xor_bit (y r : Nat) (hy : y < 256) : bits BinOp.xor IntKind.u8 (y : Int) ((2 : Int) ^ (r % 8) % 256) = ((y ^^^ 2 ^ (r % 8) : Nat) : Int) := by
  have h : 2 ^ (r % 8) < 256 := Nat.pow_lt_pow_right (a := 2) (n := 8) (by decide) (Nat.mod_lt _ (by decide))
  have e0 : ((2 : Int) ^ (r % 8)) = ((2 ^ (r % 8) : Nat) : Int) := by simp
  rw [e0]
  generalize 2 ^ (r % 8) = m at h
  rw [show ((m : Int) % 256) = ((m : Nat) : Int) from by omega, u8_xor_nat y m hy h]
theorem and_one (bu k : Nat) (h : bu < 4294967296) : (bits BinOp.and IntKind.u32 ((bu : Int) / 2 ^ k) 1 == 1) = bu.testBit k := by
  have e := u32_and_nat (bu / 2 ^ k) 1 (Nat.lt_of_le_of_lt (Nat.div_le_self _ _) h) (by decide)
  have e2 : ((bu : Int) / 2 ^ k) = ((bu / 2 ^ k : Nat) : Int) := by simp
  rw [e2, show ((1 : Int)) = ((1 : Nat) : Int) from rfl, e, nat_mask1, Nat.testBit_eq_decide_div_mod_eq]
  by_cases h : bu / 2 ^ k % 2 = 1
  · simp [h]
  · have : bu / 2 ^ k % 2 = 0 := by omega
    simp [this]

set_option maxHeartbeats 2000000 in
theorem turned_in (p q : Option Addr) (plen pcap qlen qcap : Nat) (ps qs : List Nat) (x : Int) (bu : Nat) (w : World) (hp : IsBytes w p plen ps) (hq : IsBytes w q qlen qs) (hpn : p = none → pcap = 0) (hqn : q = none → qcap = 0) (h1 : plen ≤ 1000) (h2 : qlen ≤ 1000) (h3 : 1 ≤ qlen) (hx : -9223372036854775808 ≤ x ∧ x ≤ 9223372036854775807) (hbu : bu < 4294967296) :
    Calls Try.prog 7 #[.slice p plen pcap, .slice q qlen qcap, .int .i64 x, .int .u32 bu] w fun e w' => e = .returned (.bool true) ∧ Below w.heap.size w w' := by
  have e1 : decide ((1000 : Int) < (plen : Int)) = false := by simp; omega
  have e2 : decide ((1000 : Int) < (qlen : Int)) = false := by simp; omega
  have e3 : ((qlen : Int) == 0) = false := by simp; omega
  have hpl := hp.len
  have hql := hq.len
  have hfp := fr_len ps
  have hfq := fr_len qs
  rw [if_neg (by omega)] at hfq
  have HPS := Lib.hid hp; clear hp
  have HQS := Lib.hid hq; clear hq
  have HPN := Lib.hid hpn; clear hpn
  have HQN := Lib.hid hqn; clear hqn
  have hn1 : (fr ps).length ≤ 1006 := by rw [hfp]; split <;> omega
  clear hfp
  go_enter Try.func7, Try.ntmps7
  go_wp2_with fail
  refine (fput_any none p 0 0 plen pcap [] ps _ (IsBytes.nil _ _) (fun _ => rfl) (by omega) HPS.out HPN.out (by omega)).mono ?_
  rintro e w1 ⟨c1, rfl, hc1, hb1, hbe1, _⟩
  rw [Nat.zero_add, List.nil_append] at hb1
  have HB1 := Lib.hid hb1; clear hb1
  have HBE := Lib.hid hbe1
  have hs1 := hbe1.size; clear hbe1
  go_wp2_with fail
  refine (fput_any (some ⟨w.heap.size, 0, none⟩) q _ c1 qlen qcap (fr ps) qs _ HB1.out (by intro h; cases h) (by omega) (HQS.out.below HBE.out) HQN.out (by omega)).mono ?_
  rintro e w2 ⟨c2, rfl, hc2, _, hbe2, ho2⟩
  have HBE := Lib.hid (below_next HBE.out hbe2); clear hbe2
  obtain ⟨g, cap2, spare, ev, hg, hh, _, _, _⟩ := owns_holds ho2 (by omega)
  simp only [Value.slice.injEq, Option.some.injEq, Addr.mk.injEq] at ev
  obtain ⟨⟨rfl, _⟩, _, rfl⟩ := ev
  clear ho2 HB1
  have hbl : (fr ps ++ fr qs).length = (fr ps).length + (qlen + 6) := by rw [List.length_append, hfq, hql]
  have h8 : ∀ x ∈ fr ps ++ fr qs, x < 256 := by
    intro x hx
    rcases List.mem_append.1 hx with hx | hx
    · exact fr_lt _ HPS.out.2.2.1 x hx
    · exact fr_lt _ HQS.out.2.2.1 x hx
  have H8 := Lib.hid h8; clear h8
  have hst := fun j (hj : 16 ≤ j) (ht : SumP.anyTurn j bu (fr qs).length 32 = true) => scan_turned ps qs j bu HQS.out.2.2.1 (by omega) (by omega) (by omega) hj ht _ rfl
  have HST := Lib.hid hst; clear hst
  have HSW := Lib.hid (scan_whole ps qs (by omega) (by omega) (by omega) _ rfl)
  have hfl := fun j => flips_app (fr ps) (fr qs) j bu 32
  have HFL := Lib.hid hfl; clear hfl
  have hn0 : (plen = 0 ∧ (fr ps).length = 0) ∨ (1 ≤ plen ∧ 7 ≤ (fr ps).length) := by
    have := fr_len ps
    rcases Nat.eq_zero_or_pos plen with h | h
    · left; rw [if_pos (by omega)] at this; omega
    · right; rw [if_neg (by omega)] at this; omega
  have hany := fun j => any_app (fr ps).length j bu (fr qs).length 32
  rw [hfq, hql] at hc2 hany
  have HANY := Lib.hid hany; clear hany
  have HNN := Lib.hid hn0; clear hn0
  generalize hbs : fr ps ++ fr qs = bs at hh hbl H8 HST HSW HFL
  have HBS := Lib.hid hbs; clear hbs
  generalize hnn : (fr ps).length = n at *
  have e4 : ((n : Int) + ((qlen : Int) + 6) != (n : Int) + (qlen : Int) + 6) = false := by simp; omega
  go_wp2_with fail
  refine (within_nat x _ _ _ hx (by omega) (by omega) (by omega)).mono ?_
  rintro e w3 ⟨⟨bit, hbit1, hbit2, rfl⟩, rfl⟩
  clear hx e1 e2 e3 e4
  obtain ⟨j, rfl⟩ : ∃ j, bit = 8 * n + j := ⟨bit - 8 * n, by omega⟩
  have hj : 16 ≤ j := by omega
  have HJ := Lib.hid hj
  obtain ⟨bit, hbd⟩ : ∃ bit, bit = 8 * n + j := ⟨_, rfl⟩
  rw [← hbd] at hbit1 hbit2 ⊢
  have HBD := Lib.hid hbd; clear hbd
  obtain ⟨len, hlen⟩ : ∃ len, len = n + (qlen + 6) := ⟨_, rfl⟩
  have hbit : bit < 8 * len := by omega
  rw [← hlen] at hbl hc2
  have HLEN := Lib.hid hlen
  have hlb : len ≤ 2012 := by omega
  have Hbl := Lib.hid hbl; clear hbl
  rw [← hlen]
  clear hlen
  go_wp2_with fail
  go_loopw [12, 13] (fun t i wr => ∃ k : Nat, k ≤ 32 ∧ i = .int .i64 k ∧ t = .bool (SumP.anyTurn bit bu len k) ∧ Holds wr w1.heap.size 5 (cells8 (SumP.flips bs bit bu k) ++ spare) ∧ Below w.heap.size w wr) (fun _ i _ => 32 - (intOf i).toNat)
  case atStart => exact ⟨0, by omega, rfl, rfl, hh, HBE.out⟩
  case round =>
    obtain ⟨k, hk, rfl, rfl, hhr, hbr⟩ := hrel
    by_cases hlt : k < 32
    · have hb1 := and_one bu k hbu
      have hlen2 : (SumP.flips bs bit bu k).length = len := by rw [SumP.length_flips, Hbl.out]
      by_cases ht : bu.testBit k = true
      · rw [ht] at hb1
        by_cases hin : bit + k < 8 * len
        · have hi8 : (bit + k) / 8 < len := by omega
          have hcell := hhr.cell ((bit + k) / 8)
          rw [List.getElem?_append_left (by rw [length_cells8, hlen2]; exact hi8), getElem_cells8 _ _ (by rw [hlen2]; exact hi8)] at hcell
          have hfree := hhr.free ((bit + k) / 8)
          have hin' : (bit : Int) + k < 8 * len := by omega
          generalize hy : (SumP.flips bs bit bu k).getD ((bit + k) / 8) 0 = y at hcell
          have hy256 : y < 256 := by
            rw [← hy]
            exact SumP.flips_lt bs bit bu k H8.out _ (SumP.getD_mem (by rw [hlen2]; exact hi8))
          have HY := Lib.hid hy256
          have HT := Lib.hid (show SumP.anyTurn bit bu len (k + 1) = true from by
            unfold SumP.anyTurn SumP.turnsAt
            rw [if_pos (by simp [ht, hin])])
          have HF := Lib.hid (show SumP.flips bs bit bu (k + 1) = SumP.flip1 (SumP.flips bs bit bu k) (bit + k) from by
            rw [SumP.flips, SumP.turnsAt, Hbl.out, if_pos (by simp [ht, hin])])
          have HL := Lib.hid hlen2; clear hlen2
          have Hy := Lib.hid hy; clear hy hy256 ht
          go_upto_region 14 with (fail)
          go_region
          go_wp2
          go_roundw
          case rel =>
            refine ⟨k + 1, by omega, by go_num, ?_, ?_, (hbr.setCell (p := ⟨w1.heap.size, (bit + k) / 8, none⟩) hs1 _).drew⟩
            · rw [HT.out]
            · have hset := hhr.set ((bit + k) / 8) (.int .u8 ((y ^^^ 2 ^ ((bit + k) % 8) : Nat) : Int))
              rw [List.set_append_left _ _ (by rw [length_cells8, HL.out]; exact hi8), set_cells8] at hset
              rw [xor_bit y _ HY.out, HF.out, SumP.flip1, Hy.out]
              exact hset
          case measure => simp [intOf]; omega
        · have hin' : ¬ (bit : Int) + k < 8 * len := by omega
          have HT := Lib.hid (show SumP.anyTurn bit bu len (k + 1) = SumP.anyTurn bit bu len k from by
            show (if SumP.turnsAt bit bu len k then true else SumP.anyTurn bit bu len k) = _
            rw [if_neg (by simp [SumP.turnsAt]; omega)])
          have HF := Lib.hid (show SumP.flips bs bit bu (k + 1) = SumP.flips bs bit bu k from by
            rw [SumP.flips, SumP.turnsAt, Hbl.out, if_neg (by simp; omega)])
          go_wp2
          go_roundw
          case rel => exact ⟨k + 1, by omega, by go_num, by rw [HT.out], by rw [HF.out]; exact hhr, hbr⟩
          case measure => simp [intOf]; omega
      · have ht0 : bu.testBit k = false := by simpa using ht
        rw [ht0] at hb1
        have HT := Lib.hid (show SumP.anyTurn bit bu len (k + 1) = SumP.anyTurn bit bu len k from by
          show (if SumP.turnsAt bit bu len k then true else SumP.anyTurn bit bu len k) = _
          rw [if_neg (by simp [SumP.turnsAt, ht0])])
        have HF := Lib.hid (show SumP.flips bs bit bu (k + 1) = SumP.flips bs bit bu k from by
          rw [SumP.flips, SumP.turnsAt, if_neg (by simp [ht0])])
        clear ht ht0
        go_wp2
        go_roundw
        case rel => exact ⟨k + 1, by omega, by go_num, by rw [HT.out], by rw [HF.out]; exact hhr, hbr⟩
        case measure => simp [intOf]; omega
    · have hk32 : k = 32 := by omega
      subst hk32
      have hlen2 : (SumP.flips bs bit bu 32).length = len := by rw [SumP.length_flips, Hbl.out]
      have hfb : IsBytes wr (some ⟨w1.heap.size, 0, none⟩) len (SumP.flips bs bit bu 32) := by
        refine ⟨hlen2, by omega, SumP.flips_lt _ _ _ _ H8.out, fun _ => ⟨w1.heap.size, 0, rfl, hhr.lt, fun i hi => ?_⟩⟩
        rw [Nat.zero_add, hhr.cell, List.getElem?_append_left (by rw [length_cells8, hlen2]; exact hi), getElem_cells8 _ _ (by rw [hlen2]; exact hi)]
      have hsc := fscan_any (some ⟨w1.heap.size, 0, none⟩) len c2 _ wr hfb hc2 (by omega)
      have HBR := Lib.hid hbr
      clear hfb hlen2 hhr hbr
      have hlt32 : ¬ ((32 : Nat) : Int) < 32 := by omega
      cases ht : SumP.anyTurn bit bu len 32
      · have hno : SumP.flips bs bit bu 32 = bs := flips_none bs bit bu 32 (by rw [Hbl.out]; exact ht)
        have hsw := HSW.out
        rw [Hbl.out] at hsw
        rw [hno] at hsc
        generalize scanC (len + 1) bs 0 = R at hsc hsw
        obtain ⟨r1, r2⟩ := R
        simp only at hsw
        subst hsw
        have HSC := Lib.hid hsc
        clear hsc hno ht
        go_wp2_with fail
        refine HSC.out.mono ?_
        rintro e w4 ⟨p3, c3, rfl, hb3⟩
        have HB4 := Lib.hid (below_next HBR.out hb3); clear hb3
        go_wp2_with fail
        refine (frameRuns_any _).mono ?_
        rintro e w5 ⟨rfl, hb5⟩
        have HB5 := Lib.hid (below_next HB4.out hb5); clear hb5
        go_wp2_with fail
        go_ret
        exact ⟨rfl, HB5.out⟩
      · have hfj := HFL.out j
        rw [← HBD.out] at hfj
        have haj := HANY.out j
        rw [← HBD.out, ← HLEN.out, ht] at haj
        have hst := HST.out j HJ.out (by rw [hfq, hql]; exact haj.symm)
        rw [Hbl.out] at hst
        rw [hfj, hst, hpl] at hsc
        have HSC := Lib.hid hsc
        clear hsc ht hst hfj haj
        rcases HNN.out with ⟨hp0, hn0⟩ | ⟨hp0, hn0⟩
        · have hsc := HSC.out
          rw [if_pos hp0] at hsc
          have HSC := Lib.hid hsc; clear hsc
          have hz : ((n : Int) == 0) = true := by simp; omega
          have hz2 : decide (0 < (n : Int)) = false := by simp; omega
          go_wp2_with fail
          refine HSC.out.mono ?_
          rintro e w4 ⟨p3, c3, rfl, hb3⟩
          have HB4 := Lib.hid (below_next HBR.out hb3); clear hb3
          go_wp2_with fail
          refine (frameRuns_any _).mono ?_
          rintro e w5 ⟨rfl, hb5⟩
          have HB5 := Lib.hid (below_next HB4.out hb5); clear hb5
          go_wp2_with fail
          go_ret
          exact ⟨rfl, HB5.out⟩
        · have hsc := HSC.out
          rw [if_neg (by omega)] at hsc
          have HSC := Lib.hid hsc; clear hsc
          have hz2 : decide (0 < (n : Int)) = true := by simp; omega
          go_wp2_with fail
          refine HSC.out.mono ?_
          rintro e w4 ⟨p3, c3, rfl, hb3⟩
          have HB4 := Lib.hid (below_next HBR.out hb3); clear hb3
          go_wp2_with fail
          refine (frameRuns_any _).mono ?_
          rintro e w5 ⟨rfl, hb5⟩
          have HB5 := Lib.hid (below_next HB4.out hb5); clear hb5
          go_wp2_with fail
          go_ret
          exact ⟨rfl, HB5.out⟩
theorem frameTurned_any (p : Option Addr) (plen pcap : Nat) (ps : List Nat) (q : Option Addr) (qlen qcap : Nat) (qs : List Nat) (x y : Int) (w : World) (hp : IsBytes w p plen ps) (_ : pcap ≤ 140737488351232) (_ : plen ≤ pcap) (hpn : p = none → pcap = 0) (hq : IsBytes w q qlen qs) (_ : qcap ≤ 140737488351232) (_ : qlen ≤ qcap) (hqn : q = none → qcap = 0)
    (hx : (Lit.int .i64 x).wf = true) (hy : (Lit.int .u32 y).wf = true) :
    Calls Try.prog 7 #[.slice p plen pcap, .slice q qlen qcap, .int .i64 x, .int .u32 y] w fun e w' => e = .returned (.bool true) ∧ Below w.heap.size w w' := by
  obtain ⟨bu, rfl, hbu⟩ := u32_of hy
  by_cases h : 1000 < plen ∨ 1000 < qlen ∨ qlen = 0
  · exact turned_out p q plen pcap qlen qcap x bu w h
  · exact turned_in p q plen pcap qlen qcap ps qs x bu w hp hq hpn hqn (by omega) (by omega) (by omega) (i64_of hx) hbu
end Go.Proofs.Ytpkgfajphkabcaa
