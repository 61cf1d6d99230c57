/-
  The walk of FrameTells.
-/
import Derived.Test.YtpkgfajphkabcaaFrTellsW
import Derived.Deep.CutRange
namespace Go.Proofs.Ytpkgfajphkabcaa
open Go.RowKit
set_option linter.unusedVariables false

/-- What stands behind Roomy: the bytes, and the room behind them. -/
theorem full_bytes {w : World} {g e len : Nat} {bs : List Nat} {mark : Nat} (h : Holds w g e (cells8 (bs ++ List.replicate 80 mark))) (h8 : ∀ x ∈ bs, x < 256) (hm : mark < 256) (hl : bs.length = len) (hlen : len ≤ 140737488351232) :
    IsBytes w (some ⟨g, 0, none⟩) (len + 80) (bs ++ List.replicate 80 mark) := by
  have := Holds.bytes (bs := bs ++ List.replicate 80 mark) h (by
    intro x hx
    simp only [List.mem_append, List.mem_replicate] at hx
    rcases hx with hx | hx
    · exact h8 x hx
    · omega) (by simp; omega)
  simpa [hl] using this
theorem scanL_len (f : Nat) (bs : List Nat) (i : Nat) : (scanL f bs i).1.length ≤ f := by
  induction f generalizing i with
  | zero => exact Nat.le_refl _
  | succ f ih =>
    unfold scanL
    split
    · have := ih (i + 6 + (nx bs i).1.length); simp; omega
    · simp
set_option maxHeartbeats 2000000 in
theorem frameTells_any (a : Option Addr) (len cap : Nat) (bs : List Nat) (p : Option Addr) (plen pcap : Nat) (ps : List Nat) (x : Int) (w : World) (hb : IsBytes w a len bs) (hnil : a = none → cap = 0) (hlc : len ≤ cap) (hsm : len ≤ 1048576) (hp : IsBytes w p plen ps) (hpn : p = none → pcap = 0) (hplc : plen ≤ pcap) :
    Calls Try.prog 5 #[.slice a len cap, .slice p plen pcap, .int .i64 x] w fun e w' => e = .returned (.bool true) ∧ Below w.heap.size w w' := by
  have hpm := hp.2.1
  have HPN := Lib.hid hpn; clear hpn
  have HN := Lib.hid hnil; clear hnil
  have HBS := Lib.hid hb; clear hb
  have HPP := Lib.hid hp; clear hp
  go_enter Try.func5, Try.ntmps5
  go_upto_if 22 with (fail)
  go_cut [1] from 23 to 24 (fun s wx => ∃ L : Nat, L ≤ 500 ∧ L ≤ plen ∧ s = .slice p L pcap ∧ wx = w)
  case first =>
    by_cases h5 : 500 < plen
    · go_wp2_with fail
      go_meet
      exact ⟨500, by omega, by omega, rfl, rfl⟩
    · go_wp2_with fail
      go_meet
      exact ⟨plen, by omega, by omega, rfl, rfl⟩
  case rest =>
    obtain ⟨L, hL5, hLp, rfl, rfl⟩ := hcut
    have HPS := Lib.hid (HPP.out.pre L hLp)
    generalize ps.take L = qs at HPS
    clear HPP hLp hplc hpm
    have hro := roomy_any a len cap bs 5 wc HBS.out (by omega) (by decide)
    rw [show ((5 : Nat) : Int) = 5 from rfl] at hro
    have HRO := Lib.hid hro; clear hro
    go_wp2_with fail
    refine HRO.out.mono ?_
    rintro e w1 ⟨g1, rfl, hg1, hh1, hb1⟩
    have HF1 := Lib.hid (full_bytes hh1 HBS.out.2.2.1 (by decide) HBS.out.len (by omega))
    have HB := Lib.hid hb1
    clear hh1 HRO hb1
    have hro := roomy_any p L pcap qs 6 w1 (HPS.out.below HB.out) (by omega) (by decide)
    rw [show ((6 : Nat) : Int) = 6 from rfl] at hro
    have HRO := Lib.hid hro; clear hro
    go_wp2_with fail
    refine HRO.out.mono ?_
    rintro e w2 ⟨g2, rfl, hg2, hh2, hb2⟩
    have HF2 := Lib.hid (full_bytes hh2 HPS.out.2.2.1 (by decide) HPS.out.len (by omega))
    have HF1 := Lib.hid (HF1.out.below hb2)
    have HW := Lib.hid (below_next HB.out hb2)
    clear hh2 HRO hb2 HB
    have HA := Lib.hid (HBS.out.below HW.out)
    have HP := Lib.hid (HPS.out.below HW.out)
    have HO := Lib.hid (HF1.out.head HA.out.len)
    have HM := Lib.hid (HF2.out.head HP.out.len)
    clear HBS HPS
    have HB := Lib.hid (Below.refl w2.heap.size w2)
    have hcap80 : len ≤ len + 80 := by omega
    have K1 := Lib.hid (next_any (some ⟨g1, 0, none⟩) len (len + 80) bs x w2 HO.out hcap80)
    unfold NextAns at K1
    have K2 := Lib.hid (fun W (h : Below w2.heap.size w2 W) => rnext_any a len cap bs x W (HA.out.below h) hlc)
    unfold NextAns at K2
    generalize nx bs x = N at K1 K2
    obtain ⟨N1, N2, N3⟩ := N
    simp only at K1 K2
    have hsl := scanL_len (len + 1) bs 0
    have K3 := Lib.hid (fun W (h : Below w2.heap.size w2 W) => fscanL_any (some ⟨g1, 0, none⟩) len (len + 80) bs W (HO.out.below h) hcap80 (by omega))
    have K4 := Lib.hid (fun W (h : Below w2.heap.size w2 W) => rscanL_any a len cap bs W (HA.out.below h) hlc (by omega))
    generalize scanL (len + 1) bs 0 = R at K3 K4 hsl
    obtain ⟨R1, R2⟩ := R
    simp only at K3 K4 hsl
    go_wp2_with fail
    refine K1.out.mono ?_
    rintro e w3 ⟨px, cx, rfl, _, -, hpx, hb3⟩
    have HPX := Lib.hid hpx
    have HB := Lib.hid (below_next HB.out hb3)
    clear hpx hb3 K1
    go_wp2_with fail
    refine (K2.out _ HB.out).mono ?_
    rintro e w4 ⟨py, cy, rfl, _, -, hpy, hb4⟩
    have HPX := Lib.hid (HPX.out.below hb4)
    have HPY := Lib.hid hpy
    have HB := Lib.hid (below_next HB.out hb4)
    clear hpy hb4 K2
    go_wp2_with fail
    refine (K3.out _ HB.out).mono ?_
    rintro e w5 ⟨pl, cl, rfl, _, hl5, hb5⟩
    have HPX := Lib.hid (HPX.out.below hb5)
    have HPY := Lib.hid (HPY.out.below hb5)
    have HL := Lib.hid hl5
    have HB := Lib.hid (below_next HB.out hb5)
    clear hl5 hb5 K3
    go_wp2_with fail
    refine (K4.out _ HB.out).mono ?_
    rintro e w6 ⟨pm, cm, rfl, _, hl6, hb6⟩
    have HPX := Lib.hid (HPX.out.below hb6)
    have HPY := Lib.hid (HPY.out.below hb6)
    have HL := Lib.hid (HL.out.below hb6)
    have HLM := Lib.hid hl6
    have HB := Lib.hid (below_next HB.out hb6)
    clear hl6 hb6 K4
    go_wp2_with fail
    refine (fput_any (some ⟨g1, 0, none⟩) (some ⟨g2, 0, none⟩) len (len + 80) L (L + 80) bs qs _ (HO.out.below HB.out) (by intro h; cases h) (by omega) (HM.out.below HB.out) (by intro h; cases h) (by omega)).mono ?_
    rintro e w7 ⟨c7, rfl, _, h7, hb7, -⟩
    have HPX := Lib.hid (HPX.out.below hb7)
    have HPY := Lib.hid (HPY.out.below hb7)
    have HL := Lib.hid (HL.out.below hb7)
    have HLM := Lib.hid (HLM.out.below hb7)
    have H7 := Lib.hid h7
    have HB := Lib.hid (below_next HB.out hb7)
    clear h7 hb7
    go_wp2_with fail
    refine (rframe_any a p len cap L pcap bs qs _ (HA.out.below HB.out) HN.out (by omega) (HP.out.below HB.out) HPN.out).mono ?_
    rintro e w8 ⟨p8, c8, rfl, h8, hb8⟩
    have HPX := Lib.hid (HPX.out.below hb8)
    have HPY := Lib.hid (HPY.out.below hb8)
    have HL := Lib.hid (HL.out.below hb8)
    have HLM := Lib.hid (HLM.out.below hb8)
    have H7 := Lib.hid (H7.out.below hb8)
    have H8 := Lib.hid h8
    have HB := Lib.hid (below_next HB.out hb8)
    clear h8 hb8
    go_wp2_with fail
    have hk := same_any _ p8 _ _ c7 c8 _ _ _ H7.out H8.out
    simp only [decide_true] at hk
    refine hk.mono ?_
    rintro e w9 ⟨rfl, hb9⟩
    have HPX := Lib.hid (HPX.out.below hb9)
    have HPY := Lib.hid (HPY.out.below hb9)
    have HL := Lib.hid (HL.out.below hb9)
    have HLM := Lib.hid (HLM.out.below hb9)
    have HB := Lib.hid (below_next HB.out hb9)
    clear hb9 hk H7 H8
    go_wp2_with fail
    have hk := same_any px py _ _ cx cy _ _ _ HPX.out HPY.out
    simp only [decide_true] at hk
    refine hk.mono ?_
    rintro e w10 ⟨rfl, hb10⟩
    have HL := Lib.hid (HL.out.below hb10)
    have HLM := Lib.hid (HLM.out.below hb10)
    have HB := Lib.hid (below_next HB.out hb10)
    clear hb10 hk HPX HPY
    go_wp2_with fail
    refine (lists_any pl pm _ cl cm _ _ HL.out HLM.out (by omega)).mono ?_
    rintro e w11 ⟨rfl, hb11⟩
    have HB := Lib.hid (below_next HB.out hb11)
    clear hb11 HL HLM
    go_wp2_with fail
    have hk := intact_true g1 a len cap bs 5 _ (HF1.out.below HB.out) (HA.out.below HB.out)
    rw [show ((5 : Nat) : Int) = 5 from rfl] at hk
    refine hk.mono ?_
    rintro e w12 ⟨rfl, hb12⟩
    have HB := Lib.hid (below_next HB.out hb12)
    clear hb12 hk
    go_wp2_with fail
    have hk := intact_true g2 p L pcap qs 6 _ (HF2.out.below HB.out) (HP.out.below HB.out)
    rw [show ((6 : Nat) : Int) = 6 from rfl] at hk
    refine hk.mono ?_
    rintro e w13 ⟨rfl, hb13⟩
    have HB := Lib.hid (below_next HB.out hb13)
    clear hb13 hk
    go_wp2_with fail
    refine (frameRuns_any _).mono ?_
    rintro e w14 ⟨rfl, hb14⟩
    have HB := Lib.hid (below_next HB.out hb14)
    clear hb14
    go_wp2_with fail
    go_ret
    exact ⟨rfl, HW.out.trans (HB.out.mono HW.out.size)⟩
theorem frameTells_upto (a : Option Addr) (len cap : Nat) (bs : List Nat) (p : Option Addr) (plen pcap : Nat) (ps : List Nat) (x : Int) (w : World) (hb : IsBytes w a len bs) (hcap : cap ≤ 1048576) (hlc : len ≤ cap) (hnil : a = none → cap = 0) (hp : IsBytes w p plen ps) (_ : pcap ≤ 1048576) (hplc : plen ≤ pcap) (hpn : p = none → pcap = 0) (_ : (Lit.int .i64 x).wf = true) :
    Calls Try.prog 5 #[.slice a len cap, .slice p plen pcap, .int .i64 x] w fun e w' => e = .returned (.bool true) ∧ Below w.heap.size w w' :=
  frameTells_any a len cap bs p plen pcap ps x w hb hnil hlc (by omega) hp hpn hplc
end Go.Proofs.Ytpkgfajphkabcaa
