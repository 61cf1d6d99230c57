/-
  The walks of the statements' own helpers over bytes: Same[byte], Roomy[byte], Intact[byte].
-/
import Derived.Test.YtpkgfajphkabcaaBook
namespace Go.Proofs.Ytpkgfajphkabcaa
open Go.RowKit

theorem take_eq_succ {xs ys : List Nat} {k : Nat} (h : xs.take k = ys.take k) (ha : k < xs.length) (hb : k < ys.length) (hx : xs.getD k 0 = ys.getD k 0) : xs.take (k + 1) = ys.take (k + 1) := by
  rw [List.take_succ_eq_append_getElem ha, List.take_succ_eq_append_getElem hb, h]
  simp [ha, hb] at hx
  rw [hx]

set_option maxHeartbeats 400000 in
theorem same_any (a b : Option Addr) (la lb ca cb : Nat) (xs ys : List Nat) (w : World) (ha : IsBytes w a la xs) (hb : IsBytes w b lb ys) :
    Calls Try.prog 15 #[.slice a la ca, .slice b lb cb] w fun e w' => e = .returned (.bool (decide (xs = ys))) ∧ Below w.heap.size w w' := by
  obtain ⟨hla, hma, h8a, hca⟩ := ha
  obtain ⟨hlb, hmb, h8b, hcb⟩ := hb
  have Hla := Lib.hid hla; clear hla
  have Hlb := Lib.hid hlb; clear hlb
  have HCa := Lib.hid hca; clear hca
  have HCb := Lib.hid hcb; clear hcb
  have H8a := Lib.hid h8a; clear h8a
  have H8b := Lib.hid h8b; clear h8b
  by_cases hne : la = lb
  · have hneB : ((la : Int) != lb) = false := by simp [hne]
    have Hne := Lib.hid hne; clear hne
    go_enter Try.func15, Try.ntmps15
    go_wp2
    go_loopw [5] (fun i wr => ∃ k n : Nat, k ≤ la ∧ i = .int .i64 k ∧ xs.take k = ys.take k ∧ wr = w.drewN n) (fun i _ => la - (intOf i).toNat)
    case atStart => exact ⟨0, 0, by omega, rfl, by simp, rfl⟩
    case round =>
      obtain ⟨k, n, hk, rfl, hpre, rfl⟩ := hrel
      have Hpre := Lib.hid hpre; clear hpre
      by_cases hlt : k < la
      · have hlt2 : k < lb := by have := Hne.out; omega
        obtain ⟨b1, o1, rfl, _, hc1⟩ := HCa.out (by omega)
        obtain ⟨b2, o2, rfl, _, hc2⟩ := HCb.out (by omega)
        have hx1 := hc1 k hlt
        have hx2 := hc2 k hlt2
        clear hc1 hc2
        have Hs := Lib.hid (fun h => take_eq_succ Hpre.out (by rw [Hla.out]; exact hlt) (by rw [Hlb.out]; exact hlt2) h)
        have Hd : xs.getD k 0 ≠ ys.getD k 0 → ¬ xs = ys := fun h e => h (by rw [e])
        have Hd := Lib.hid Hd
        generalize xs.getD k 0 = x at hx1 Hs Hd
        generalize ys.getD k 0 = y at hx2 Hs Hd
        have h0k : (0 : Int) ≤ (k : Int) := by omega
        have hka : (k : Int) < (la : Int) := by omega
        have hkb : (k : Int) < (lb : Int) := by omega
        go_wp2
        go_quiet (fail)
        go_wp2
        · go_ret
          have hne2 : (x : Int) ≠ y := by simpa using (‹((x : Int) != y) = true›)
          exact ⟨ret_bool (by have := Hd.out (by omega); simp [this]), below_drewN (below_drewN (Below.refl _ _) _) _⟩
        · have heq : x = y := by have : (x : Int) = y := by simpa using (‹((x : Int) != y) = false›)
                                 omega
          go_roundw
          case rel => exact ⟨k + 1, n + nq, by omega, by go_num, Hs.out heq, rfl⟩
          case measure => simp [intOf]; omega
      · have Hfin : xs = ys := by
          have h1 := Hpre.out
          rwa [List.take_of_length_le (by rw [Hla.out]; omega), List.take_of_length_le (by rw [Hlb.out, ← Hne.out]; omega)] at h1
        have Hfin := Lib.hid Hfin
        go_wp2
        go_ret
        exact ⟨ret_bool (by simp [Hfin.out]), below_drewN (Below.refl _ _) _⟩
  · have hneB : ((la : Int) != lb) = true := by simp; omega
    go_enter Try.func15, Try.ntmps15
    go_wp2
    go_ret
    have : xs ≠ ys := fun e => hne (by rw [← Hla.out, ← Hlb.out, e])
    exact ⟨ret_bool (by simp [this]), Below.refl _ _⟩

/-! ### Roomy -/
/-- What stands in the room when the marks have been written up to 'k'. -/
def marked (xs : List Nat) (mark k n : Nat) : List Nat := xs ++ (List.replicate (k - xs.length) mark ++ List.replicate (n - k) 0)
theorem marked_set (xs : List Nat) (mark k n : Nat) (h : xs.length ≤ k) (hk : k < n) : (cells8 (marked xs mark k n)).set k (.int .u8 (mark : Int)) = cells8 (marked xs mark (k + 1) n) := by
  unfold cells8 marked
  simp only [List.map_append, List.map_replicate]
  rw [List.set_append_right _ _ (by simpa using h), List.set_append_right _ _ (by simp)]
  simp only [List.length_map, List.length_replicate, Nat.sub_self]
  obtain ⟨m, hm⟩ : ∃ m, n - k = m + 1 := ⟨n - k - 1, by omega⟩
  rw [hm, List.replicate_succ, List.set_cons_zero, show n - (k + 1) = m from by omega, show k + 1 - xs.length = (k - xs.length) + 1 from by omega, List.replicate_succ']
  simp
theorem marked_full (xs : List Nat) (mark n : Nat) : marked xs mark n n = xs ++ List.replicate (n - xs.length) mark := by simp [marked]
theorem marked_start (xs : List Nat) (mark n : Nat) : splice (List.replicate n (Value.int .u8 0)) 0 (cells8 xs) = cells8 (marked xs mark xs.length n) := by
  simp [splice, cells8, marked]

set_option maxHeartbeats 1000000 in
theorem roomy_any (a : Option Addr) (la ca : Nat) (xs : List Nat) (mark : Nat) (w : World) (ha : IsBytes w a la xs) (hr : la ≤ 140737488351232) (_hm : mark < 256) :
    Calls Try.prog 11 #[.slice a la ca, .int .u8 mark] w fun e w' => ∃ g, e = .returned (.slice (some ⟨g, 0, none⟩) (la + 80) (la + 80)) ∧ w.heap.size ≤ g ∧ Holds w' g 5 (cells8 (xs ++ List.replicate 80 mark)) ∧ Below w.heap.size w w' := by
  have HA := ha
  obtain ⟨hla, hma, h8a, hca⟩ := ha
  have Hla := Lib.hid hla; clear hla hca h8a
  go_enter Try.func11, Try.ntmps11
  go_upto_region 2 with (first | (at_make; refine wpList_make_block w rfl (.tmp 9) (.tmp 9) 22 rfl 5 (.int .u8 0) 1 rfl (by kernel_rfl) rfl .i64 .i64 _ _ (la + 80) (la + 80) rfl rfl (by push_cast; rfl) (by push_cast; rfl) (Nat.le_refl _) (by omega) (by unfold maxLen; omega) ?_; intro w1 hh1 hb1 hs1))
  have hcs : (cells8 xs).length = Nat.min la (la + 80) := by rw [length_cells8, Hla.out]; exact (Nat.min_eq_left (by omega)).symm
  have Hcs := Lib.hid hcs; clear hcs
  have hfit : 0 + (cells8 xs).length ≤ (List.replicate (la + 80) (Value.int .u8 0)).length := by rw [length_cells8, Hla.out]; simp
  have Hfit := Lib.hid hfit; clear hfit
  have Hs1 := Lib.hid hs1; clear hs1
  have hsrc := HA.reads.below hb1
  go_wp2_with (first | (refine wpList_copy_block rfl (.tmp 11) (.tmp 12) 22 22 rfl 5 rfl (by kernel_rfl) w.heap.size 0 (la + 80) (la + 80) a la ca rfl rfl (List.replicate (la + 80) (.int .u8 0)) 5 hh1 (cells8 xs) Hcs.out hsrc Hfit.out (cells8_one xs) ?_; intro w2 hh2 hb2 _ hs2))
  rw [marked_start xs mark] at hh2
  have hb : Below w.heap.size w w2 := hb1.trans hb2
  have HL := Lib.hid (Hla.out)
  go_loopw [6] (fun i wr => ∃ k : Nat, la ≤ k ∧ k ≤ la + 80 ∧ i = .int .i64 k ∧ Holds wr w.heap.size 5 (cells8 (marked xs mark k (la + 80))) ∧ Below w.heap.size w wr) (fun i _ => la + 80 - (intOf i).toNat)
  case atStart => exact ⟨la, by omega, by omega, rfl, by rw [HL.out] at hh2; exact hh2, hb⟩
  case round =>
    obtain ⟨k, hk0, hk, rfl, hh, hbr⟩ := hrel
    clear hh2 hb hs2
    by_cases hlt : k < la + 80
    · have hcell := hh.cell k
      have hlen : (cells8 (marked xs mark k (la + 80))).length = la + 80 := by simp [length_cells8, marked]; rw [Hla.out]; omega
      obtain ⟨v, hv⟩ : ∃ v, (cells8 (marked xs mark k (la + 80)))[k]? = some v := ⟨_, List.getElem?_eq_getElem (by omega)⟩
      rw [hv] at hcell
      have hfree := hh.free k
      have hset := hh.set k (.int .u8 (mark : Int))
      rw [marked_set xs mark k _ (by rw [Hla.out]; exact hk0) hlt] at hset
      clear hlen hv
      go_wp2
      go_roundw
      case rel => exact ⟨k + 1, by omega, by omega, by go_num, hset, hbr.setCell (Nat.le_refl _) _⟩
      case measure => simp [intOf]; omega
    · have hkk : k = la + 80 := by omega
      subst hkk
      rw [marked_full, Hla.out, show la + 80 - la = 80 from by omega] at hh
      go_wp2
      go_ret
      exact ⟨_, rfl, Nat.le_refl _, hh, hbr⟩

theorem IsBytes.head {w : World} {a : Option Addr} {len k : Nat} {xs ys : List Nat} (h : IsBytes w a len (xs ++ ys)) (hk : xs.length = k) : IsBytes w a k xs := by
  obtain ⟨h1, h2, h3, h4⟩ := h
  simp only [List.length_append] at h1
  refine ⟨hk, by omega, fun x hx => h3 x (by simp [hx]), fun h0 => ?_⟩
  obtain ⟨b, off, ha, hlt, hc⟩ := h4 (by omega)
  refine ⟨b, off, ha, hlt, fun i hi => ?_⟩
  rw [hc i (by omega)]
  simp [List.getElem?_append_left (show i < xs.length by omega)]

set_option maxHeartbeats 1000000 in
theorem intact_true (g : Nat) (a : Option Addr) (la ca : Nat) (xs : List Nat) (mark : Nat) (w : World) (hf : IsBytes w (some ⟨g, 0, none⟩) (la + 80) (xs ++ List.replicate 80 mark)) (ha : IsBytes w a la xs) :
    Calls Try.prog 18 #[.slice (some ⟨g, 0, none⟩) (la + 80) (la + 80), .slice a la ca, .int .u8 mark] w fun e w' => e = .returned (.bool true) ∧ Below w.heap.size w w' := by
  have hhead := hf.head ha.len
  obtain ⟨hlf, hmf, h8f, hcf⟩ := hf
  have hla := ha.len
  obtain ⟨b, off, hb, hlt, hcf⟩ := hcf (by omega)
  simp only [Option.some.injEq, Addr.mk.injEq] at hb
  obtain ⟨rfl, rfl, _⟩ := hb
  have hcell : ∀ i, la ≤ i → i < la + 80 → w.cell? ⟨g, i, none⟩ = some (.int .u8 (mark : Int)) := fun i h1 h2 => by
    have := hcf i h2
    rw [Nat.zero_add] at this
    rw [this]
    rw [List.getD_eq_getElem?_getD, List.getElem?_append_right (by omega), List.getElem?_replicate, if_pos (by omega)]
    rfl
  clear hcf h8f
  have HC := Lib.hid hcell; clear hcell
  have Hla := Lib.hid hla; clear hla
  have Hlf := Lib.hid hlf; clear hlf
  have hsame := fun c1 c2 => same_any (some ⟨g, 0, none⟩) a la la c1 c2 xs xs w hhead ha
  have HS := Lib.hid hsame; clear hsame
  go_enter Try.func18, Try.ntmps18
  go_wp2_with (first | (go_at_call 15; refine (HS.out _ _).mono ?_; rintro e w1 ⟨rfl, hb1⟩))
  go_loop [7] (fun i => ∃ k : Nat, la ≤ k ∧ k ≤ la + 80 ∧ i = .int .i64 k) (fun i => la + 80 - (intOf i).toNat)
  case atStart => exact ⟨la, by omega, by omega, rfl⟩
  case round =>
    obtain ⟨k, hk0, hk, rfl⟩ := hrel
    by_cases hlt2 : k < la + 80
    · have hx := HC.out k hk0 hlt2
      rw [← hb1.cell (p := ⟨g, k, none⟩) hlt] at hx
      go_wp2
      go_round
      case rel => exact ⟨k + 1, by omega, by omega, by go_num⟩
      case measure => simp [intOf]; omega
    · go_wp2
      go_ret
      exact ⟨rfl, hb1⟩
end Go.Proofs.Ytpkgfajphkabcaa
