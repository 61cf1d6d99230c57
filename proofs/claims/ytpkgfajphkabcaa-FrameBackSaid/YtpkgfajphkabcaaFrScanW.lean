/-
  The walk of frame.Scan, as far as it counts the frames.
-/
import Derived.Test.YtpkgfajphkabcaaFrPutW
namespace Go.Proofs.Ytpkgfajphkabcaa
open Go.RowKit
set_option linter.unusedVariables false

def scanC : Nat → List Nat → Nat → Nat × Nat
  | 0, _, i => (0, i)
  | f + 1, bs, i => if (nx bs i).2.2 = 0 then ((scanC f bs (i + 6 + (nx bs i).1.length)).1 + 1, (scanC f bs (i + 6 + (nx bs i).1.length)).2) else (0, i)
theorem nx_ok (bs : List Nat) (i : Nat) (h : (nx bs i).2.2 = 0) : 1 ≤ (nx bs i).1.length ∧ i + 6 + (nx bs i).1.length ≤ bs.length ∧ (nx bs i).2.1 = ((i + 6 + (nx bs i).1.length : Nat) : Int) := by
  unfold nx at h ⊢
  by_cases h1 : (i : Int) < 0 ∨ (bs.length : Int) < (i : Int)
  · rw [if_pos h1] at h; simp at h
  rw [if_neg h1] at h ⊢
  simp only [Int.toNat_natCast] at h ⊢
  rw [if_pos h]
  unfold nx0 at h ⊢
  by_cases h2 : (bs.drop i).length < 2
  · rw [if_pos h2] at h; simp at h
  rw [if_neg h2] at h ⊢
  by_cases h3 : leN ((bs.drop i).take 2) = 0 ∨ 16384 < leN ((bs.drop i).take 2)
  · rw [if_pos h3] at h; simp at h
  rw [if_neg h3] at h ⊢
  by_cases h4 : (bs.drop i).length < leN ((bs.drop i).take 2) + 6
  · rw [if_pos h4] at h; simp at h
  rw [if_neg h4] at h ⊢
  by_cases h5 : leN (((bs.drop i).drop (2 + leN ((bs.drop i).take 2))).take 4) ≠ SumP.on 0 ((bs.drop i).take (2 + leN ((bs.drop i).take 2)))
  · rw [if_pos h5] at h; simp at h
  rw [if_neg h5]
  generalize leN ((bs.drop i).take 2) = u at *
  simp only [List.length_take, List.length_drop] at h4 ⊢
  refine ⟨by omega, by omega, by omega⟩
set_option maxHeartbeats 1000000 in
theorem fscan_any (a : Option Addr) (len cap : Nat) (bs : List Nat) (w : World) (hb : IsBytes w a len bs) (hlc : len ≤ cap) (hlen : len ≤ 1073741824) :
    Calls Try.prog 13 #[.slice a len cap] w fun e w' => ∃ p c, e = .returned (.tuple #[.slice p (scanC (len + 1) bs 0).1 c, .int .i64 (scanC (len + 1) bs 0).2]) ∧ Below w.heap.size w w' := by
  have hbl := hb.len
  have HBS := Lib.hid hb; clear hb
  have HBL := Lib.hid hbl; clear hbl
  obtain ⟨R, hR⟩ : ∃ R, R = scanC (len + 1) bs 0 := ⟨_, rfl⟩
  rw [← hR]
  have HR := Lib.hid hR; clear hR
  go_enter Try.func13, Try.ntmps13
  go_wp2_with fail
  go_loopw [4, 5] (fun out at' wr => ∃ i n f : Nat, ∃ xs : List Value, at' = .int .i64 i ∧ i ≤ len ∧ len + 1 ≤ f + i ∧ n ≤ i ∧ wr.ownsRow w.heap.size 22 1 out n xs ∧ R = (n + (scanC f bs i).1, (scanC f bs i).2) ∧ Below w.heap.size w wr) (fun _ at' _ => len - (intOf at').toNat)
  case atStart => exact ⟨0, 0, len + 1, [], rfl, by omega, by omega, by omega, ⟨rfl, .inl ⟨rfl, rfl⟩⟩, by rw [HR.out]; simp, Below.refl _ _⟩
  case round =>
    obtain ⟨i, n, f, xs, rfl, hi, hf, hni, hown, hRr, hbel⟩ := hrel
    have HOW := Lib.hid hown; clear hown
    have HBE := Lib.hid hbel
    have hsz := hbel.size; clear hbel
    have HRr := Lib.hid hRr; clear hRr
    go_wp2_with fail
    refine (next_any a len cap bs i wr (HBS.out.below HBE.out) hlc).mono ?_
    rintro e w1 ⟨p, c, rfl, hpc, _, hp, hb1⟩
    obtain ⟨f', rfl⟩ : ∃ f', f = f' + 1 := ⟨f - 1, by omega⟩
    have hok := nx_ok bs i
    have hst : scanC (f' + 1) bs i = if (nx bs i).2.2 = 0 then ((scanC f' bs (i + 6 + (nx bs i).1.length)).1 + 1, (scanC f' bs (i + 6 + (nx bs i).1.length)).2) else (0, i) := rfl
    by_cases h0 : (nx bs i).2.2 = 0
    · rw [if_pos h0] at hst
      obtain ⟨o1, o2, o3⟩ := hok h0
      rw [h0, o3]
      generalize (nx bs i).1.length = m at *
      rw [HBL.out] at o2
      have HST := Lib.hid hst; clear hst hok h0 o3
      have HB1 := Lib.hid hb1
      have hs1 := hb1.size
      clear hb1 hp
      go_wp2_with (at_builtin; refine wpList_append_cells rfl (.tmp 20) (.tmp 22) 33 rfl w.heap.size 22 (.slice none 0 0) 1 24 rfl (by kernel_rfl) rfl (by decide) _ n xs rfl (owns_below HOW.out (HB1.out.trans ((show Below w1.heap.size w1 _ by go_grown).mono hs1))) (some ⟨w1.heap.size, 0, none⟩) 1 1 [.slice p m c] rfl rfl ((holds_alloc w1 _ _).reads 0 _ (fun j v hv => by simpa using hv)) (by intro h; cases h) (by simp [Value.oneCell']) (by unfold maxLen; omega) (by omega) (by simp; omega) ?_; intro v3 w3 ho3 hb3 _; have HO3 := Lib.hid ho3; clear ho3)
      go_roundw
      case rel =>
        refine ⟨i + 6 + m, n + 1, f', _, by go_num, by omega, by omega, by omega, HO3.out, ?_, HBE.out.trans ((HB1.out.mono hsz).trans (((show Below w1.heap.size w1 _ by go_grown).mono (Nat.le_trans hsz hs1)).trans hb3))⟩
        rw [HRr.out, HST.out]
        simp
        omega
      case measure => simp [intOf]; omega
    · rw [if_neg h0] at hst
      have hne : (((nx bs i).2.2) != 0) = true := by simpa using h0
      generalize (nx bs i).2.2 = er at *
      generalize (nx bs i).2.1 = tt at *
      generalize (nx bs i).1.length = m at *
      obtain ⟨q, cq, rfl, _, _, _, _⟩ := owns_form HOW.out (by omega)
      have HRe := Lib.hid (show R = (n, i) from by rw [HRr.out, hst]; rfl)
      have HB1 := Lib.hid (below_next HBE.out hb1)
      clear HOW hst hok hb1 hp h0 HRr HR
      go_wp2_with fail
      go_ret2
      exact ⟨q, cq, by rw [HRe.out]; rfl, HB1.out⟩
end Go.Proofs.Ytpkgfajphkabcaa
