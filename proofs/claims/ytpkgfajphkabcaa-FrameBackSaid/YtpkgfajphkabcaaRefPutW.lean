/-
  The walk of the document's own Put.
-/
import Derived.Test.YtpkgfajphkabcaaRefGetW
namespace Go.Proofs.Ytpkgfajphkabcaa
open Go.RowKit

set_option maxHeartbeats 1000000 in
theorem rput_any (a : Option Addr) (len cap : Nat) (bs : List Nat) (n : Int) (u : Nat) (w : World) (hb : IsBytes w a len bs) (hnil : a = none → cap = 0) (_hu : u < 18446744073709551616) (hl : len ≤ 140737488351232) :
    Calls Try.prog 24 #[.slice a len cap, .int .i64 n, .int .u64 u] w fun e w' => ∃ p c, e = .returned (.slice p (len + cut8 n) c) ∧ len + cut8 n ≤ c ∧ c ≤ maxLen ∧ IsBytes w' p (len + cut8 n) (bs ++ putN (cut8 n) u) ∧ (p = none → c = 0) ∧ Below w.heap.size w w' ∧ w'.ownsRow w.heap.size 5 1 (.slice p (len + cut8 n) c) (len + cut8 n) (cells8 (bs ++ putN (cut8 n) u)) := by
  have hlen := hb.len
  have HBS := Lib.hid hb; clear hb
  have HNIL := Lib.hid hnil; clear hnil
  have hM : ∀ j : Nat, j < cut8 n ↔ (j : Int) < n ∧ (j : Int) < 8 := fun j => by unfold cut8; omega
  have hM8 : cut8 n ≤ 8 := by unfold cut8; omega
  generalize cut8 n = M at hM hM8 ⊢
  have HM := Lib.hid hM; clear hM
  go_enter Try.func24, Try.ntmps24
  go_upto_region 1 with (fail)
  have HO1 := Lib.hid (lit_owns w 5 w.heap.size (Nat.le_refl _))
  go_wp2_with (at_builtin; refine wpList_append_cells rfl (.tmp 9) (.tmp 10) 22 rfl w.heap.size 5 (.int .u8 0) 1 1 rfl (by kernel_rfl) rfl (by decide) _ 0 [] rfl HO1.out a len cap (cells8 bs) rfl (by rw [length_cells8, hlen, Nat.mul_one]) (HBS.out.reads.below (by go_grown)) HNIL.out (cells8_one bs) (by unfold maxLen; omega) (by omega) (by simp) ?_; intro v2 w2 ho2 hb2 _; have HO2 := Lib.hid ho2; clear ho2)
  go_loopw [7, 8] (fun out i wr => ∃ j : Nat, j ≤ M ∧ i = .int .i64 j ∧ wr.ownsRow w.heap.size 5 1 out (len + j) (cells8 (bs ++ putN j u)) ∧ Below w.heap.size w wr) (fun _ i _ => M - (intOf i).toNat)
  case atStart => exact ⟨0, by omega, rfl, by have := HO2.out; simpa [putN] using this, (show Below w.heap.size w _ by go_grown).trans hb2⟩
  case round =>
    obtain ⟨j, hj, rfl, hown, hbel⟩ := hrel
    clear HO2 HO1 hb2
    by_cases hlt : j < M
    · obtain ⟨hl1, hl2⟩ := (HM.out j).1 hlt
      have HS := Lib.hid (putN_snoc j u)
      have HOW := Lib.hid hown; clear hown
      have hsz := hbel.size
      have HBE := Lib.hid hbel; clear hbel
      go_wp2_with (at_builtin; refine wpList_append_cells rfl (.tmp 21) (.tmp 27) 22 rfl w.heap.size 5 (.int .u8 0) 1 1 rfl (by kernel_rfl) rfl (by decide) _ (len + j) (cells8 (bs ++ putN j u)) rfl (owns_below HOW.out (by go_grown)) (some ⟨wr.heap.size, 0, none⟩) 1 1 [.int .u8 ((u : Int) / 2 ^ (8 * j) % 256)] rfl rfl ((holds_alloc wr _ _).reads 0 _ (fun j v hv => by simpa using hv)) (by intro h; cases h) (by simp [Value.oneCell']) (by unfold maxLen; omega) (by omega) (by simp; omega) ?_; intro v3 w3 ho3 hb3 _; have HO3 := Lib.hid ho3; clear ho3)
      go_roundw
      case rel =>
        refine ⟨j + 1, by omega, by go_num, ?_, HBE.out.trans ((show Below w.heap.size wr _ by go_grown).trans hb3)⟩
        have := HO3.out
        rw [HS.out, ← List.append_assoc, show (256 : Nat) ^ j = 2 ^ (8 * j) from by rw [Nat.pow_mul]]
        simpa [cells8, Nat.add_assoc] using this
      case measure => simp [intOf]; omega
    · have hjM : j = M := by omega
      subst hjM
      obtain ⟨p, c, rfl, h1, h2, h3, h4⟩ := owns_form hown (by omega)
      have HI := Lib.hid (h4 _ rfl (fun x hx => by
        rcases List.mem_append.1 hx with hx | hx
        · exact HBS.out.2.2.1 x hx
        · exact putN_lt _ _ x hx))
      have HBE := Lib.hid hbel
      have H3 := Lib.hid h3
      have HOWN := Lib.hid hown
      clear h4 h3 hbel hown
      by_cases h1n : (j : Int) < n
      · have h28 : ¬ (j : Int) < 8 := fun h => hlt ((HM.out j).2 ⟨h1n, h⟩)
        go_wp2
        go_ret
        exact ⟨p, c, rfl, h1, h2, HI.out, H3.out, HBE.out, HOWN.out⟩
      · go_wp2
        go_ret
        exact ⟨p, c, rfl, h1, h2, HI.out, H3.out, HBE.out, HOWN.out⟩
end Go.Proofs.Ytpkgfajphkabcaa
