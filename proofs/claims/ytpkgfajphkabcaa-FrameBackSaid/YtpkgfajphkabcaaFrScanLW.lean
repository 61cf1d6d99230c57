/-
  The walks of frame.Scan and the document's own Scan, with what they find.
-/
import Derived.Test.YtpkgfajphkabcaaFrListsW
namespace Go.Proofs.Ytpkgfajphkabcaa
open Go.RowKit
set_option linter.unusedVariables false

theorem bytes_kept2 {w w' : World} {k l : Nat} {bs : List Nat} {v : Value} (h : IsBytes w (some ⟨k, 0, none⟩) l bs) (hne : v.ownBlock = none ∨ some k ≠ v.ownBlock) (hg : w.grownBy w' v.ownBlock) : IsBytes w' (some ⟨k, 0, none⟩) l bs :=
  bytes_kept h hg (by
    rcases hne with h | h
    · rw [h]; intro hh; cases hh
    · exact h)
set_option maxHeartbeats 1000000 in
theorem fscanL_any (a : Option Addr) (len cap : Nat) (bs : List Nat) (w : World) (hb : IsBytes w a len bs) (hlc : len ≤ cap) (hlen : len ≤ 1073741824) :
    Calls Try.prog 13 #[.slice a len cap] w fun e w' => ∃ p c, e = .returned (.tuple #[.slice p (scanL (len + 1) bs 0).1.length c, .int .i64 (scanL (len + 1) bs 0).2]) ∧ (scanL (len + 1) bs 0).1.length ≤ c ∧ IsLists w' p (scanL (len + 1) bs 0).1.length (scanL (len + 1) bs 0).1 ∧ Below w.heap.size w w' := by
  have hbl := hb.len
  have HBS := Lib.hid hb; clear hb
  have HBL := Lib.hid hbl; clear hbl
  obtain ⟨R, hR⟩ : ∃ R, R = scanL (len + 1) bs 0 := ⟨_, rfl⟩
  rw [← hR]
  have HR := Lib.hid hR; clear hR
  go_enter Try.func13, Try.ntmps13
  go_wp2_with fail
  go_loopw [4, 5] (fun out at' wr => ∃ i n f : Nat, ∃ xs : List Value, ∃ ps : List (List Nat), at' = .int .i64 i ∧ i ≤ len ∧ len + 1 ≤ f + i ∧ n ≤ i ∧ wr.ownsRow w.heap.size 22 1 out n xs ∧ (n = 0 → out.ownBlock = none) ∧ Pays wr xs ps ∧ R = (ps ++ (scanL f bs i).1, (scanL f bs i).2) ∧ Below w.heap.size w wr) (fun _ at' _ => len - (intOf at').toNat)
  case atStart => exact ⟨0, 0, len + 1, [], [], rfl, by omega, by omega, by omega, ⟨rfl, .inl ⟨rfl, rfl⟩⟩, fun _ => rfl, ⟨rfl, fun i hi => by simp at hi⟩, by rw [HR.out]; simp, Below.refl _ _⟩
  case round =>
    obtain ⟨i, n, f, xs, ps, rfl, hi, hf, hni, hown, hnb, hpay, hRr, hbel⟩ := hrel
    have HOW := Lib.hid hown; clear hown
    have HNB := Lib.hid hnb; clear hnb
    have HPY := Lib.hid hpay; clear hpay
    have HBE := Lib.hid hbel
    have hsz := hbel.size; clear hbel
    have HRr := Lib.hid hRr; clear hRr
    go_wp2_with fail
    refine (next_any a len cap bs i wr (HBS.out.below HBE.out) hlc).mono ?_
    rintro e w1 ⟨p, c, rfl, hpc, hp0, hp, hb1⟩
    have HP0 := Lib.hid hp0; clear hp0
    obtain ⟨f', rfl⟩ : ∃ f', f = f' + 1 := ⟨f - 1, by omega⟩
    have hok := nx_ok bs i
    have hst : scanL (f' + 1) bs i = if (nx bs i).2.2 = 0 then ((nx bs i).1 :: (scanL f' bs (i + 6 + (nx bs i).1.length)).1, (scanL f' bs (i + 6 + (nx bs i).1.length)).2) else ([], i) := rfl
    by_cases h0 : (nx bs i).2.2 = 0
    · rw [if_pos h0] at hst
      obtain ⟨o1, o2, o3⟩ := hok h0
      rw [h0, o3]
      rw [HBL.out] at o2
      generalize hq : (nx bs i).1 = q at *
      obtain ⟨k, off, rfl, _⟩ := hp.2.2.2 (by omega)
      obtain rfl := HP0.out.2 k off rfl
      have HST := Lib.hid hst; clear hst hok h0 o3 hq
      have HB1 := Lib.hid hb1
      have hs1 := hb1.size
      clear hb1
      have hP := (HPY.out.below HB1.out)
      have hO := owns_below HOW.out HB1.out
      have HW2 := Lib.hid (show Below w1.heap.size w1 (w1.alloc (.cells #[.slice (some ⟨k, 0, none⟩) q.length c] 22)) by go_grown)
      have HP2 := Lib.hid (hP.below HW2.out)
      have HQ2 := Lib.hid (hp.below HW2.out)
      have HO2 := Lib.hid (owns_below hO (HW2.out.mono (Nat.le_refl _)))
      clear hP hO hp
      generalize hm : q.length = m at *
      have HM := Lib.hid hm; clear hm
      go_wp2_with (at_builtin; refine wpList_append_cells rfl (.tmp 20) (.tmp 22) 33 rfl w.heap.size 22 (.slice none 0 0) 1 24 rfl (by kernel_rfl) rfl (by decide) _ n xs rfl HO2.out (some ⟨w1.heap.size, 0, none⟩) 1 1 [.slice (some ⟨k, 0, none⟩) m c] rfl rfl ((holds_alloc w1 _ _).reads 0 _ (fun j v hv => by simpa using hv)) (by intro h; cases h) (by simp [Value.oneCell']) (by unfold maxLen; omega) (by omega) (by simp; omega) ?_; intro v3 w3 ho3 hb3 hg3; have HO3 := Lib.hid ho3; clear ho3)
      go_roundw
      case rel =>
        have hne := pays_apart HQ2.out o1 HO2.out HP2.out HNB.out
        have hq3 : IsBytes w3 (some ⟨k, 0, none⟩) m q := bytes_kept2 HQ2.out hne hg3
        have hp3 := (HP2.out.kept HO2.out HNB.out hg3).snoc (k := k) (c := c) (q := q) (by rw [HM.out]; exact hq3) (by rw [HM.out]; exact o1) (by rw [HM.out]; exact hpc)
        rw [HM.out] at hp3
        refine ⟨i + 6 + m, n + 1, f', _, _, by go_num, by omega, by omega, by omega, HO3.out, fun h => by omega, hp3, ?_, HBE.out.trans ((HB1.out.mono hsz).trans ((HW2.out.mono (Nat.le_trans hsz hs1)).trans hb3))⟩
        rw [HRr.out, HST.out]
        simp
      case measure => simp [intOf]; omega
    · rw [if_neg h0] at hst
      have hne : (((nx bs i).2.2) != 0) = true := by simpa using h0
      generalize (nx bs i).2.2 = er at *
      generalize (nx bs i).2.1 = tt at *
      generalize (nx bs i).1.length = m at *
      have HRe := Lib.hid (show R = (ps, i) from by rw [HRr.out, hst]; simp)
      obtain ⟨q, cq, rfl, hcq, hls⟩ := lists_of_pays HOW.out HPY.out (by omega)
      have HLS := Lib.hid (hls.below hb1)
      have HB1 := Lib.hid (below_next HBE.out hb1)
      have hpl : ps.length = n := hls.1
      clear HOW hst hok hb1 hp h0 HRr HR hls HP0
      go_wp2_with fail
      go_ret2
      rw [HRe.out]
      exact ⟨q, cq, by rw [hpl]; rfl, by rw [hpl]; exact hcq, by rw [hpl]; exact HLS.out, HB1.out⟩
set_option maxHeartbeats 1000000 in
theorem rscanL_any (a : Option Addr) (len cap : Nat) (bs : List Nat) (w : World) (hb : IsBytes w a len bs) (hlc : len ≤ cap) (hlen : len ≤ 1073741824) :
    Calls Try.prog 14 #[.slice a len cap] w fun e w' => ∃ p c, e = .returned (.tuple #[.slice p (scanL (len + 1) bs 0).1.length c, .int .i64 (scanL (len + 1) bs 0).2]) ∧ (scanL (len + 1) bs 0).1.length ≤ c ∧ IsLists w' p (scanL (len + 1) bs 0).1.length (scanL (len + 1) bs 0).1 ∧ Below w.heap.size w w' := by
  have hbl := hb.len
  have HBS := Lib.hid hb; clear hb
  have HBL := Lib.hid hbl; clear hbl
  obtain ⟨R, hR⟩ : ∃ R, R = scanL (len + 1) bs 0 := ⟨_, rfl⟩
  rw [← hR]
  have HR := Lib.hid hR; clear hR
  go_enter Try.func14, Try.ntmps14
  go_wp2_with fail
  go_loopw [4, 5] (fun out at' wr => ∃ i n f : Nat, ∃ xs : List Value, ∃ ps : List (List Nat), at' = .int .i64 i ∧ i ≤ len ∧ len + 1 ≤ f + i ∧ n ≤ i ∧ wr.ownsRow w.heap.size 22 1 out n xs ∧ (n = 0 → out.ownBlock = none) ∧ Pays wr xs ps ∧ R = (ps ++ (scanL f bs i).1, (scanL f bs i).2) ∧ Below w.heap.size w wr) (fun _ at' _ => len - (intOf at').toNat)
  case atStart => exact ⟨0, 0, len + 1, [], [], rfl, by omega, by omega, by omega, ⟨rfl, .inl ⟨rfl, rfl⟩⟩, fun _ => rfl, ⟨rfl, fun i hi => by simp at hi⟩, by rw [HR.out]; simp, Below.refl _ _⟩
  case round =>
    obtain ⟨i, n, f, xs, ps, rfl, hi, hf, hni, hown, hnb, hpay, hRr, hbel⟩ := hrel
    have HOW := Lib.hid hown; clear hown
    have HNB := Lib.hid hnb; clear hnb
    have HPY := Lib.hid hpay; clear hpay
    have HBE := Lib.hid hbel
    have hsz := hbel.size; clear hbel
    have HRr := Lib.hid hRr; clear hRr
    go_wp2_with fail
    refine (rnext_any a len cap bs i wr (HBS.out.below HBE.out) hlc).mono ?_
    rintro e w1 ⟨p, c, rfl, hpc, hp0, hp, hb1⟩
    have HP0 := Lib.hid hp0; clear hp0
    obtain ⟨f', rfl⟩ : ∃ f', f = f' + 1 := ⟨f - 1, by omega⟩
    have hok := nx_ok bs i
    have hst : scanL (f' + 1) bs i = if (nx bs i).2.2 = 0 then ((nx bs i).1 :: (scanL f' bs (i + 6 + (nx bs i).1.length)).1, (scanL f' bs (i + 6 + (nx bs i).1.length)).2) else ([], i) := rfl
    by_cases h0 : (nx bs i).2.2 = 0
    · rw [if_pos h0] at hst
      obtain ⟨o1, o2, o3⟩ := hok h0
      rw [h0, o3]
      rw [HBL.out] at o2
      generalize hq : (nx bs i).1 = q at *
      obtain ⟨k, off, rfl, _⟩ := hp.2.2.2 (by omega)
      obtain rfl := HP0.out.2 k off rfl
      have HST := Lib.hid hst; clear hst hok h0 o3 hq
      have HB1 := Lib.hid hb1
      have hs1 := hb1.size
      clear hb1
      have hP := (HPY.out.below HB1.out)
      have hO := owns_below HOW.out HB1.out
      have HW2 := Lib.hid (show Below w1.heap.size w1 (w1.alloc (.cells #[.slice (some ⟨k, 0, none⟩) q.length c] 22)) by go_grown)
      have HP2 := Lib.hid (hP.below HW2.out)
      have HQ2 := Lib.hid (hp.below HW2.out)
      have HO2 := Lib.hid (owns_below hO (HW2.out.mono (Nat.le_refl _)))
      clear hP hO hp
      generalize hm : q.length = m at *
      have HM := Lib.hid hm; clear hm
      go_wp2_with (at_builtin; refine wpList_append_cells rfl (.tmp 20) (.tmp 22) 33 rfl w.heap.size 22 (.slice none 0 0) 1 24 rfl (by kernel_rfl) rfl (by decide) _ n xs rfl HO2.out (some ⟨w1.heap.size, 0, none⟩) 1 1 [.slice (some ⟨k, 0, none⟩) m c] rfl rfl ((holds_alloc w1 _ _).reads 0 _ (fun j v hv => by simpa using hv)) (by intro h; cases h) (by simp [Value.oneCell']) (by unfold maxLen; omega) (by omega) (by simp; omega) ?_; intro v3 w3 ho3 hb3 hg3; have HO3 := Lib.hid ho3; clear ho3)
      go_roundw
      case rel =>
        have hne := pays_apart HQ2.out o1 HO2.out HP2.out HNB.out
        have hq3 : IsBytes w3 (some ⟨k, 0, none⟩) m q := bytes_kept2 HQ2.out hne hg3
        have hp3 := (HP2.out.kept HO2.out HNB.out hg3).snoc (k := k) (c := c) (q := q) (by rw [HM.out]; exact hq3) (by rw [HM.out]; exact o1) (by rw [HM.out]; exact hpc)
        rw [HM.out] at hp3
        refine ⟨i + 6 + m, n + 1, f', _, _, by go_num, by omega, by omega, by omega, HO3.out, fun h => by omega, hp3, ?_, HBE.out.trans ((HB1.out.mono hsz).trans ((HW2.out.mono (Nat.le_trans hsz hs1)).trans hb3))⟩
        rw [HRr.out, HST.out]
        simp
      case measure => simp [intOf]; omega
    · rw [if_neg h0] at hst
      have hne : (((nx bs i).2.2) != 0) = true := by simpa using h0
      generalize (nx bs i).2.2 = er at *
      generalize (nx bs i).2.1 = tt at *
      generalize (nx bs i).1.length = m at *
      have HRe := Lib.hid (show R = (ps, i) from by rw [HRr.out, hst]; simp)
      obtain ⟨q, cq, rfl, hcq, hls⟩ := lists_of_pays HOW.out HPY.out (by omega)
      have HLS := Lib.hid (hls.below hb1)
      have HB1 := Lib.hid (below_next HBE.out hb1)
      have hpl : ps.length = n := hls.1
      clear HOW hst hok hb1 hp h0 HRr HR hls HP0
      go_wp2_with fail
      go_ret2
      rw [HRe.out]
      exact ⟨q, cq, by rw [hpl]; rfl, by rw [hpl]; exact hcq, by rw [hpl]; exact HLS.out, HB1.out⟩
end Go.Proofs.Ytpkgfajphkabcaa
