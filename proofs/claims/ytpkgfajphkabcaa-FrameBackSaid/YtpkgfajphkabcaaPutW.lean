/-
  The walks of word's bytes: Put.
-/
import Derived.Test.YtpkgfajphkabcaaGetW
import Derived.Test.YtpkgfajphkabcaaOwn
namespace Go.Proofs.Ytpkgfajphkabcaa
open Go.RowKit

/-- The lowest n bytes of a number, the lowest first. -/
def putN : Nat → Nat → List Nat
  | 0, _ => []
  | n + 1, u => u % 256 :: putN n (u / 256)
theorem putN_len (n u : Nat) : (putN n u).length = n := by
  induction n generalizing u with
  | zero => rfl
  | succ n ih => simp [putN, ih]
theorem putN_lt (n u : Nat) : ∀ x ∈ putN n u, x < 256 := by
  induction n generalizing u with
  | zero => intro x hx; simp [putN] at hx
  | succ n ih =>
    intro x hx
    simp only [putN, List.mem_cons] at hx
    rcases hx with rfl | hx
    · omega
    · exact ih _ x hx
theorem putN_snoc (n u : Nat) : putN (n + 1) u = putN n u ++ [u / 256 ^ n % 256] := by
  induction n generalizing u with
  | zero => simp [putN]
  | succ n ih =>
    rw [putN, ih, putN, List.cons_append, Nat.div_div_eq_div_mul, Nat.pow_succ, Nat.mul_comm 256]
def cut8 (n : Int) : Nat := min n.toNat 8

/-- A made block with room, as a slice that is owned and empty. -/
theorem made_owns {w : World} {g cap : Nat} {e : TypeId} {z : Value} (base : Nat) (hb : base ≤ g) (hg : Holds w g e (List.replicate cap z)) (hm : cap ≤ maxLen) : w.ownsRow base e 1 (.slice (some ⟨g, 0, none⟩) 0 cap) 0 [] :=
  ⟨rfl, .inr ⟨g, cap, (List.replicate cap z).toArray, rfl, hb, hg, Nat.zero_le _, hm, by simp, by simp⟩⟩

theorem owns_below {w w' : World} {base size n : Nat} {e : TypeId} {v : Value} {xs : List Value} (h : w.ownsRow base e size v n xs) (hb : Below w.heap.size w w') : w'.ownsRow base e size v n xs := by
  obtain ⟨h1, h2⟩ := h
  refine ⟨h1, ?_⟩
  rcases h2 with h2 | ⟨g, cap, cur, hv, hg, hh, hr⟩
  · exact .inl h2
  · have : g < w.heap.size := (Array.getElem?_eq_some_iff.1 hh).1
    exact .inr ⟨g, cap, cur, hv, hg, by rw [hb.block g this]; exact hh, hr⟩
theorem owns_form {w : World} {base n : Nat} {e : TypeId} {v : Value} {xs : List Value} (h : w.ownsRow base e 1 v n xs) (hn : n ≤ 281474976710656) :
    ∃ p c, v = .slice p n c ∧ n ≤ c ∧ c ≤ maxLen ∧ (p = none → c = 0) ∧ ∀ l : List Nat, xs = cells8 l → (∀ x ∈ l, x < 256) → IsBytes w p n l := by
  obtain ⟨h1, h2⟩ := h
  rcases h2 with ⟨rfl, rfl⟩ | ⟨g, cap, cur, rfl, hg, hh, hc, hm, hs, ht⟩
  · refine ⟨none, 0, rfl, Nat.le_refl _, Nat.zero_le _, fun _ => rfl, ?_⟩
    rintro l rfl _
    have : l = [] := by simpa [cells8] using h1
    subst this
    exact IsBytes.nil _ _
  · refine ⟨some ⟨g, 0, none⟩, cap, rfl, hc, hm, (by intro h; cases h), ?_⟩
    rintro l rfl h8
    rw [Nat.mul_one] at h1 ht
    have hl : l.length = n := by simpa [cells8] using h1
    have hlt : g < w.heap.size := (Array.getElem?_eq_some_iff.1 hh).1
    refine ⟨hl, hn, h8, fun _ => ⟨g, 0, rfl, hlt, fun i hi => ?_⟩⟩
    have h2 : cur[i]? = (cells8 l)[i]? := by rw [← ht, List.getElem?_take_of_lt hi, Array.getElem?_toList]
    unfold World.cell?
    simp only [hh, Nat.zero_add]
    rw [h2]
    simp [cells8, hl, hi]
set_option maxHeartbeats 1000000 in
theorem put_any (a : Option Addr) (len cap : Nat) (bs : List Nat) (n : Int) (u : Nat) (w : World) (hb : IsBytes w a len bs) (hnil : a = none → cap = 0) (_hu : u < 18446744073709551616) (hl : len ≤ 140737488351232) :
    Calls Try.prog 19 #[.slice a len cap, .int .i64 n, .int .u64 u] w fun e w' => ∃ p c, e = .returned (.slice p (len + cut8 n) c) ∧ len + cut8 n ≤ c ∧ c ≤ maxLen ∧ IsBytes w' p (len + cut8 n) (bs ++ putN (cut8 n) u) ∧ (p = none → c = 0) ∧ Below w.heap.size w w' ∧ w'.ownsRow w.heap.size 5 1 (.slice p (len + cut8 n) c) (len + cut8 n) (cells8 (bs ++ putN (cut8 n) u)) := by
  have hM : (n < 0 ∧ cut8 n = 0) ∨ (8 < n ∧ cut8 n = 8) ∨ ∃ m : Nat, n = m ∧ m ≤ 8 ∧ cut8 n = m := by
    unfold cut8
    rcases (show n < 0 ∨ 8 < n ∨ (0 ≤ n ∧ n ≤ 8) by omega) with h | h | h
    · exact .inl ⟨h, by omega⟩
    · exact .inr (.inl ⟨h, by omega⟩)
    · exact .inr (.inr ⟨n.toNat, by omega, by omega, by omega⟩)
  generalize cut8 n = M at hM ⊢
  have hlen := hb.len
  have HBS := Lib.hid hb; clear hb
  have HNIL := Lib.hid hnil; clear hnil
  rcases hM with ⟨hn, rfl⟩ | ⟨hn, rfl⟩ | ⟨m, rfl, hm8, rfl⟩
  all_goals
    go_enter Try.func19, Try.ntmps19
    go_upto_region 1 with (fail)
    go_wp2_with (first
      | (at_make; refine wpList_make_block w rfl (.const (.int .i64 0)) (.tmp 10) 22 rfl 5 (.int .u8 0) 1 rfl (by kernel_rfl) rfl .i64 .i64 _ _ 0 (len + 8) rfl rfl rfl (by push_cast; rfl) (by omega) (by omega) (by unfold maxLen; omega) ?_; intro w1 hh1 hb1 hs1; have HO1 := Lib.hid (made_owns w.heap.size (Nat.le_refl _) hh1 (by unfold maxLen; omega)))
      | (at_builtin; refine wpList_append_cells rfl (.tmp 11) (.tmp 12) 22 rfl w.heap.size 5 (.int .u8 0) 1 1 rfl (by kernel_rfl) rfl (by decide) _ 0 [] rfl HO1.out a len cap (cells8 bs) rfl (by rw [length_cells8, hlen, Nat.mul_one]) (HBS.out.reads.below hb1) HNIL.out (cells8_one bs) (by unfold maxLen; omega) (by omega) (by omega) ?_; intro v2 w2 ho2 hb2 _; have HO2 := Lib.hid ho2; clear ho2))
  · go_loopw [2, 7, 17] (fun uu out i wr => ∃ j : Nat, j ≤ 0 ∧ i = .int .i64 j ∧ uu = .int .u64 ((u / 256 ^ j : Nat) : Int) ∧ wr.ownsRow w.heap.size 5 1 out (len + j) (cells8 (bs ++ putN j u)) ∧ Below w.heap.size w wr) (fun _ _ i _ => 0 - (intOf i).toNat)
    case atStart => exact ⟨0, by omega, rfl, by simp, by have := HO2.out; simpa [putN] using this, hb1.trans hb2⟩
    case round =>
      obtain ⟨j, hj, rfl, rfl, hown, hbel⟩ := hrel
      clear HO2 HO1 hh1 hb1 hb2 hs1
      by_cases hlt : j < 0
      · exact absurd hlt (Nat.not_lt_zero _)
      · have hjM : j = 0 := by omega
        subst hjM
        obtain ⟨p, c, rfl, h1, h2, h3, h4⟩ := owns_form hown (by omega)
        have HI := Lib.hid (h4 _ rfl (fun x hx => by
          rcases List.mem_append.1 hx with hx | hx
          · exact HBS.out.2.2.1 x hx
          · exact putN_lt _ _ x hx))
        have HBE := Lib.hid hbel
        have H3 := Lib.hid h3
        have HOWN := Lib.hid hown
        clear h4 h3 hbel hown
        go_wp2
        go_ret
        exact ⟨p, c, rfl, h1, h2, HI.out, H3.out, HBE.out, HOWN.out⟩
  · go_loopw [2, 7, 17] (fun uu out i wr => ∃ j : Nat, j ≤ 8 ∧ i = .int .i64 j ∧ uu = .int .u64 ((u / 256 ^ j : Nat) : Int) ∧ wr.ownsRow w.heap.size 5 1 out (len + j) (cells8 (bs ++ putN j u)) ∧ Below w.heap.size w wr) (fun _ _ i _ => 8 - (intOf i).toNat)
    case atStart => exact ⟨0, by omega, rfl, by simp, by have := HO2.out; simpa [putN] using this, hb1.trans hb2⟩
    case round =>
      obtain ⟨j, hj, rfl, rfl, hown, hbel⟩ := hrel
      clear HO2 HO1 hh1 hb1 hb2 hs1
      by_cases hlt : j < 8
      · have HS := Lib.hid (putN_snoc j u)
        have hq : u / 256 ^ j < 18446744073709551616 := Nat.lt_of_le_of_lt (Nat.div_le_self _ _) _hu
        have hq2 : u / 256 ^ (j + 1) = u / 256 ^ j / 256 := by rw [Nat.pow_succ, Nat.div_div_eq_div_mul]
        have HQ2 := Lib.hid hq2; clear hq2
        generalize u / 256 ^ j = q at *
        have HOW := Lib.hid hown; clear hown
        have hsz := hbel.size
        have HBE := Lib.hid hbel; clear hbel
        have HJ := Lib.hid hj
        go_upto_region 4 with (fail)
        go_wp2_with (at_builtin; refine wpList_append_cells rfl (.tmp 19) (.tmp 22) 22 rfl w.heap.size 5 (.int .u8 0) 1 1 rfl (by kernel_rfl) rfl (by decide) _ (len + j) (cells8 (bs ++ putN j u)) rfl (owns_below HOW.out (by go_grown)) (some ⟨wr.heap.size, 0, none⟩) 1 1 [.int .u8 ((q : Int) % 256)] rfl rfl ((holds_alloc wr _ _).reads 0 _ (fun j v hv => by simpa using hv)) (by intro h; cases h) (by simp [Value.oneCell']) (by unfold maxLen; omega) (by omega) (by simp; omega) ?_; intro v3 w3 ho3 hb3 _; have HO3 := Lib.hid ho3; clear ho3)
        go_roundw
        case rel =>
          refine ⟨j + 1, by omega, by go_num, by rw [HQ2.out, Int.natCast_ediv]; rfl, ?_, HBE.out.trans ((show Below w.heap.size wr _ by go_grown).trans hb3)⟩
          have := HO3.out
          rw [HS.out, ← List.append_assoc]
          simpa [cells8, Nat.add_assoc] using this
        case measure => simp [intOf]; omega
      · have hjM : j = 8 := by omega
        subst hjM
        obtain ⟨p, c, rfl, h1, h2, h3, h4⟩ := owns_form hown (by omega)
        have HI := Lib.hid (h4 _ rfl (fun x hx => by
          rcases List.mem_append.1 hx with hx | hx
          · exact HBS.out.2.2.1 x hx
          · exact putN_lt _ _ x hx))
        have HBE := Lib.hid hbel
        have H3 := Lib.hid h3
        have HOWN := Lib.hid hown
        clear h4 h3 hbel hown
        go_wp2
        go_ret
        exact ⟨p, c, rfl, h1, h2, HI.out, H3.out, HBE.out, HOWN.out⟩
  · go_loopw [2, 7, 17] (fun uu out i wr => ∃ j : Nat, j ≤ M ∧ i = .int .i64 j ∧ uu = .int .u64 ((u / 256 ^ j : Nat) : Int) ∧ wr.ownsRow w.heap.size 5 1 out (len + j) (cells8 (bs ++ putN j u)) ∧ Below w.heap.size w wr) (fun _ _ i _ => M - (intOf i).toNat)
    case atStart => exact ⟨0, by omega, rfl, by simp, by have := HO2.out; simpa [putN] using this, hb1.trans hb2⟩
    case round =>
      obtain ⟨j, hj, rfl, rfl, hown, hbel⟩ := hrel
      clear HO2 HO1 hh1 hb1 hb2 hs1
      by_cases hlt : j < M
      · have HS := Lib.hid (putN_snoc j u)
        have hq : u / 256 ^ j < 18446744073709551616 := Nat.lt_of_le_of_lt (Nat.div_le_self _ _) _hu
        have hq2 : u / 256 ^ (j + 1) = u / 256 ^ j / 256 := by rw [Nat.pow_succ, Nat.div_div_eq_div_mul]
        have HQ2 := Lib.hid hq2; clear hq2
        generalize u / 256 ^ j = q at *
        have HOW := Lib.hid hown; clear hown
        have hsz := hbel.size
        have HBE := Lib.hid hbel; clear hbel
        have HJ := Lib.hid hj
        go_upto_region 4 with (fail)
        go_wp2_with (at_builtin; refine wpList_append_cells rfl (.tmp 19) (.tmp 22) 22 rfl w.heap.size 5 (.int .u8 0) 1 1 rfl (by kernel_rfl) rfl (by decide) _ (len + j) (cells8 (bs ++ putN j u)) rfl (owns_below HOW.out (by go_grown)) (some ⟨wr.heap.size, 0, none⟩) 1 1 [.int .u8 ((q : Int) % 256)] rfl rfl ((holds_alloc wr _ _).reads 0 _ (fun j v hv => by simpa using hv)) (by intro h; cases h) (by simp [Value.oneCell']) (by unfold maxLen; omega) (by omega) (by simp; omega) ?_; intro v3 w3 ho3 hb3 _; have HO3 := Lib.hid ho3; clear ho3)
        go_roundw
        case rel =>
          refine ⟨j + 1, by omega, by go_num, by rw [HQ2.out, Int.natCast_ediv]; rfl, ?_, HBE.out.trans ((show Below w.heap.size wr _ by go_grown).trans hb3)⟩
          have := HO3.out
          rw [HS.out, ← List.append_assoc]
          simpa [cells8, Nat.add_assoc] using this
        case measure => simp [intOf]; omega
      · have hjM : j = M := by omega
        subst hjM
        obtain ⟨p, c, rfl, h1, h2, h3, h4⟩ := owns_form hown (by omega)
        have HI := Lib.hid (h4 _ rfl (fun x hx => by
          rcases List.mem_append.1 hx with hx | hx
          · exact HBS.out.2.2.1 x hx
          · exact putN_lt _ _ x hx))
        have HBE := Lib.hid hbel
        have H3 := Lib.hid h3
        have HOWN := Lib.hid hown
        clear h4 h3 hbel hown
        go_wp2
        go_ret
        exact ⟨p, c, rfl, h1, h2, HI.out, H3.out, HBE.out, HOWN.out⟩
end Go.Proofs.Ytpkgfajphkabcaa
