/-
  The walk of QuorumFew.
-/
import Derived.Test.YtmpefdepcbfcdaaQuSizesW
namespace Go.Proofs.Ytmpefdepcbfcdaa
open Go.RowKit
set_option linter.unusedVariables false
set_option linter.unusedSimpArgs false

def fitN (n : Int) : Nat := 3 + 2 * (n % 3).toNat
theorem fitN_in (n : Int) : fitN n = 3 ∨ fitN n = 5 ∨ fitN n = 7 := by
  have h1 := Int.emod_nonneg n (show (3 : Int) ≠ 0 by omega)
  have h2 := Int.emod_lt_of_pos n (show (0 : Int) < 3 by omega)
  unfold fitN
  omega
set_option maxHeartbeats 1000000 in
theorem fit_any (n : Int) (w : World) (hn : (Lit.int .i64 n).wf = true) : Calls Try.prog 17 #[.int .i64 n] w fun e w' => e = .returned (.int .i64 (fitN n : Nat)) ∧ Below w.heap.size w w' := by
  have h1 := Int.emod_nonneg n (show (3 : Int) ≠ 0 by omega)
  have h2 := Int.emod_lt_of_pos n (show (0 : Int) < 3 by omega)
  obtain ⟨k0, hk0⟩ : ∃ k0 : Nat, n % 3 = k0 := ⟨(n % 3).toNat, by omega⟩
  have HF := Lib.hid (show (fitN n : Int) = 3 + 2 * (k0 : Int) by unfold fitN; omega)
  have hw := fun W => within_any n 0 2 W (wf64 hn) (by omega) (by omega) (by omega)
  rw [show (0 : Int) + n % (2 - 0 + 1) = (k0 : Int) by omega] at hw
  have HW := Lib.hid hw; clear hw
  have hk2 : k0 ≤ 2 := by omega
  clear hk0 h1 h2
  go_enter Try.func17, Try.ntmps17
  go_wp2_with fail
  refine (HW.out _).mono ?_
  rintro e w3 ⟨rfl, hw3⟩
  have hL : Holds w3 w.heap.size 3 [.int .i64 3, .int .i64 5, .int .i64 7] := by rw [← hw3]; exact holds_alloc w _ _
  have hb3 : Below w.heap.size w w3 := by rw [← hw3]; go_grown
  clear hw3
  have hc0 : w3.cell? ⟨w.heap.size, k0, none⟩ = some (.int .i64 (3 + 2 * (k0 : Int))) := by
    rcases (show k0 = 0 ∨ k0 = 1 ∨ k0 = 2 by omega) with rfl | rfl | rfl
    · exact hL.cell 0
    · exact hL.cell 1
    · exact hL.cell 2
  clear hL
  have HB := Lib.hid hb3; clear hb3
  go_wp2_with fail
  go_ret
  exact ⟨ret_int (by rw [HF.out]), HB.out⟩
theorem joinAll_ge (own : At) (R : Nat → At) (k : Nat) : own.q ≤ (joinAll (consA own R) k).q ∧ ∀ i, own.d i ≤ (joinAll (consA own R) k).d i := by
  induction k with
  | zero => exact ⟨Int.le_refl _, fun i => Int.le_refl _⟩
  | succ k ih =>
    unfold joinAll At.join mxI
    constructor
    · simp only; split <;> omega
    · intro i
      have := ih.2 i
      simp only
      split <;> omega
def depL (d : Nat → Int) : List Value := [.int .i64 (d 0), .int .i64 (d 1), .int .i64 (d 2), .int .i64 (d 3), .int .i64 (d 4), .int .i64 (d 5), .int .i64 (d 6)]
theorem depL_get (d : Nat → Int) (k : Nat) (hk : k < 7) : (depL d)[k]? = some (.int .i64 (d k)) := by
  rcases (show k = 0 ∨ k = 1 ∨ k = 2 ∨ k = 3 ∨ k = 4 ∨ k = 5 ∨ k = 6 by omega) with rfl | rfl | rfl | rfl | rfl | rfl | rfl <;> rfl
set_option maxHeartbeats 1000000 in
theorem covers_yes (a b : Nat → Int) (w : World) (h : ∀ i, i < 7 → b i ≤ a i) :
    Calls Try.prog 28 #[.agg #[.int .i64 (a 0), .int .i64 (a 1), .int .i64 (a 2), .int .i64 (a 3), .int .i64 (a 4), .int .i64 (a 5), .int .i64 (a 6)], .agg #[.int .i64 (b 0), .int .i64 (b 1), .int .i64 (b 2), .int .i64 (b 3), .int .i64 (b 4), .int .i64 (b 5), .int .i64 (b 6)]] w fun e w' => e = .returned (.bool true) ∧ Below w.heap.size w w' := by
  have H := Lib.hid h; clear h
  have hidx := fun q hq W => idx_deps b q hq W
  have hha : Holds ((w.alloc (.cells #[.int .i64 (a 0), .int .i64 (a 1), .int .i64 (a 2), .int .i64 (a 3), .int .i64 (a 4), .int .i64 (a 5), .int .i64 (a 6)] 24)).alloc (.cells #[.int .i64 (b 0), .int .i64 (b 1), .int .i64 (b 2), .int .i64 (b 3), .int .i64 (b 4), .int .i64 (b 5), .int .i64 (b 6)] 24)) w.heap.size 24 (depL a) := holds_past (holds_alloc w _ _) _
  have hb0 : Below w.heap.size w ((w.alloc (.cells #[.int .i64 (a 0), .int .i64 (a 1), .int .i64 (a 2), .int .i64 (a 3), .int .i64 (a 4), .int .i64 (a 5), .int .i64 (a 6)] 24)).alloc (.cells #[.int .i64 (b 0), .int .i64 (b 1), .int .i64 (b 2), .int .i64 (b 3), .int .i64 (b 4), .int .i64 (b 5), .int .i64 (b 6)] 24)) := by go_grown
  have HA := Lib.hid (And.intro hha hb0); clear hha hb0
  have HI := Lib.hid hidx; clear hidx
  go_enter Try.func28, Try.ntmps28
  go_wp2_with fail
  go_loopw [8] (fun i wr => ∃ q : Nat, q ≤ 7 ∧ i = .int .i64 q ∧ Holds wr w.heap.size 24 (depL a) ∧ Below w.heap.size w wr) (fun i _ => 7 - (intOf i).toNat)
  case atStart => exact ⟨0, by omega, rfl, HA.out⟩
  case round =>
    clear HA
    obtain ⟨q, hq, rfl, hha, hb⟩ := hrel
    have HB := Lib.hid hb; clear hb
    by_cases h1 : q < 7
    · have hix := HI.out q h1
      have hle := H.out q h1
      have hcell := hha.cell q
      rw [depL_get a q h1] at hcell
      have HA := Lib.hid hha; clear hha
      go_wp2_with fail
      go_roundw
      case rel => exact ⟨q + 1, by omega, by go_num, HA.out, HB.out⟩
      case measure => simp [intOf]; omega
    · have hq7 : q = 7 := by omega
      subst hq7
      clear hha
      go_wp2_with fail
      go_ret
      exact ⟨rfl, HB.out⟩
/-- A nil list of whatever that is handed in has no room. -/
theorem open_rows_nil {H : Type} {enc : TypeId × Value → H} {P : Program} {W : World} {t e : TypeId} {a : Option Addr} {len cap : Nat} {d : DataW H} {pl : List MemPlace}
    (ht : P.underlying t = some (.slice e)) (h : DataW.Trod enc P W 0 (fun _ => true) true t (.slice a len cap) d pl) : a = none → cap = 0 := by
  obtain ⟨fuel, hf⟩ := h
  rcases Deep.open_slice ht hf with ⟨hcs, _⟩ | ⟨x, l, c, m, k, D, Pl, hcs, _⟩
  · simp [Value.cells] at hcs
    obtain ⟨rfl, rfl, rfl⟩ := hcs
    exact fun _ => rfl
  · simp [Value.cells] at hcs
    obtain ⟨rfl, rfl, rfl⟩ := hcs
    intro h; cases h
theorem IsRows.cong {w : World} {a : Option Addr} {len n : Nat} {V V' : Nat → List Value} (h : IsRows w a len n V) (hv : ∀ i, i < len → V i = V' i) : IsRows w a len n V' :=
  ⟨h.1, fun i hi => by rw [← hv i hi]; exact h.2.1 i hi, fun h0 => by obtain ⟨b, off, ha, hlt, hc⟩ := h.2.2 h0; exact ⟨b, off, ha, hlt, fun i hi j hj => by rw [← hv i hi]; exact hc i hi j hj⟩⟩
def attrLeaves : List Leaf := [.int .i64, .int .i64, .int .i64, .int .i64, .int .i64, .int .i64, .int .i64, .int .i64]
def saidLeaves : List Leaf := [.int .i64, .int .i64, .int .i64, .int .i64, .int .i64, .int .i64, .int .i64, .int .i64, .int .i64, .string, .string, .string, .string, .int .i64, .int .i64, .int .i64, .int .i64, .int .i64, .int .i64, .int .i64, .int .i64, .bool]
def mkAt (q d0 d1 d2 d3 d4 d5 d6 : Int) : At := ⟨q, fun i => match i with | 0 => d0 | 1 => d1 | 2 => d2 | 3 => d3 | 4 => d4 | 5 => d5 | _ => d6⟩
theorem at_of {l : List Value} (h : AllOk attrLeaves l) : ∃ a : At, l = a.cells := by
  unfold attrLeaves at h
  obtain ⟨_, _, rfl, ⟨q, rfl, _⟩, h0⟩ := h.cons
  obtain ⟨_, _, rfl, ⟨d0, rfl, _⟩, h1⟩ := h0.cons
  obtain ⟨_, _, rfl, ⟨d1, rfl, _⟩, h2⟩ := h1.cons
  obtain ⟨_, _, rfl, ⟨d2, rfl, _⟩, h3⟩ := h2.cons
  obtain ⟨_, _, rfl, ⟨d3, rfl, _⟩, h4⟩ := h3.cons
  obtain ⟨_, _, rfl, ⟨d4, rfl, _⟩, h5⟩ := h4.cons
  obtain ⟨_, _, rfl, ⟨d5, rfl, _⟩, h6⟩ := h5.cons
  obtain ⟨_, _, rfl, ⟨d6, rfl, _⟩, h7⟩ := h6.cons
  obtain rfl := h7.nil
  exact ⟨mkAt q d0 d1 d2 d3 d4 d5 d6, rfl⟩
theorem sd_of {l : List Value} (h : AllOk saidLeaves l) : ∃ s : Sd, l = s.cells := by
  unfold saidLeaves at h
  obtain ⟨_, _, rfl, ⟨r, rfl, _⟩, h0⟩ := h.cons
  obtain ⟨_, _, rfl, ⟨st, rfl, _⟩, h1⟩ := h0.cons
  obtain ⟨_, _, rfl, ⟨pe, rfl, _⟩, h2⟩ := h1.cons
  obtain ⟨_, _, rfl, ⟨pr, rfl, _⟩, h3⟩ := h2.cons
  obtain ⟨_, _, rfl, ⟨ve, rfl, _⟩, h4⟩ := h3.cons
  obtain ⟨_, _, rfl, ⟨vr, rfl, _⟩, h5⟩ := h4.cons
  obtain ⟨_, _, rfl, ⟨xk, rfl, _⟩, h6⟩ := h5.cons
  obtain ⟨_, _, rfl, ⟨xc, rfl, _⟩, h7⟩ := h6.cons
  obtain ⟨_, _, rfl, ⟨xs, rfl, _⟩, h8⟩ := h7.cons
  obtain ⟨_, _, rfl, ⟨xa, rfl, _⟩, h9⟩ := h8.cons
  obtain ⟨_, _, rfl, ⟨xb, rfl, _⟩, h10⟩ := h9.cons
  obtain ⟨_, _, rfl, ⟨xo, rfl, _⟩, h11⟩ := h10.cons
  obtain ⟨_, _, rfl, ⟨xv, rfl, _⟩, h12⟩ := h11.cons
  obtain ⟨_, _, rfl, ⟨q, rfl, _⟩, h13⟩ := h12.cons
  obtain ⟨_, _, rfl, ⟨d0, rfl, _⟩, h14⟩ := h13.cons
  obtain ⟨_, _, rfl, ⟨d1, rfl, _⟩, h15⟩ := h14.cons
  obtain ⟨_, _, rfl, ⟨d2, rfl, _⟩, h16⟩ := h15.cons
  obtain ⟨_, _, rfl, ⟨d3, rfl, _⟩, h17⟩ := h16.cons
  obtain ⟨_, _, rfl, ⟨d4, rfl, _⟩, h18⟩ := h17.cons
  obtain ⟨_, _, rfl, ⟨d5, rfl, _⟩, h19⟩ := h18.cons
  obtain ⟨_, _, rfl, ⟨d6, rfl, _⟩, h20⟩ := h19.cons
  obtain ⟨_, _, rfl, ⟨sm, rfl⟩, h21⟩ := h20.cons
  obtain rfl := h21.nil
  exact ⟨⟨r, st, pe, pr, ve, vr, ⟨xk, xc, xs, xa, xb, xo, xv⟩, mkAt q d0 d1 d2 d3 d4 d5 d6, sm⟩, rfl⟩
theorem rows_at {len : Nat} {V : Nat → List Value} (h : ∀ i, i < len → AllOk attrLeaves (V i)) : ∃ R : Nat → At, ∀ i, i < len → V i = (R i).cells := by
  have hx : ∀ i, ∃ s : At, i < len → V i = s.cells := fun i => by
    by_cases hi : i < len
    · obtain ⟨s, hs⟩ := at_of (h i hi); exact ⟨s, fun _ => hs⟩
    · exact ⟨At.of 0, fun h => absurd h hi⟩
  exact ⟨fun i => Classical.choose (hx i), fun i => Classical.choose_spec (hx i)⟩
theorem rows_sd {len : Nat} {V : Nat → List Value} (h : ∀ i, i < len → AllOk saidLeaves (V i)) : ∃ S : Nat → Sd, ∀ i, i < len → V i = (S i).cells := by
  have hx : ∀ i, ∃ s : Sd, i < len → V i = s.cells := fun i => by
    by_cases hi : i < len
    · obtain ⟨s, hs⟩ := sd_of (h i hi); exact ⟨s, fun _ => hs⟩
    · exact ⟨sdOf 0 0 0 false, fun h => absurd h hi⟩
  exact ⟨fun i => Classical.choose (hx i), fun i => Classical.choose_spec (hx i)⟩
theorem IsRows.less {w : World} {a : Option Addr} {len n : Nat} {V : Nat → List Value} (h : IsRows w a len n V) {k : Nat} (hk : k ≤ len) : IsRows w a k n V :=
  ⟨Nat.le_trans hk h.1, fun i hi => h.2.1 i (by omega), fun h0 => by obtain ⟨b, off, ha, hlt, hc⟩ := h.2.2 (by omega); exact ⟨b, off, ha, hlt, fun i hi => hc i (by omega)⟩⟩
set_option maxRecDepth 4000 in
set_option maxHeartbeats 8000000 in
theorem quorumFew_any (n o : Int) (a : Option Addr) (len cap : Nat) (S : Nat → Sd) (own : At) (a2 : Option Addr) (len2 cap2 : Nat) (R : Nat → At) (w : World) (hn : (Lit.int .i64 n).wf = true)
    (hS : IsRows w a len 22 fun i => (S i).cells) (hlc : len ≤ cap) (hR : IsRows w a2 len2 8 fun i => (R i).cells) (hlc2 : len2 ≤ cap2) (hcm : cap ≤ maxLen) (hcm2 : cap2 ≤ maxLen) (hnil : a2 = none → cap2 = 0) :
    Calls Try.prog 9 #[.int .i64 n, .int .i64 o, .slice a len cap, .agg #[.int .i64 own.q, .int .i64 (own.d 0), .int .i64 (own.d 1), .int .i64 (own.d 2), .int .i64 (own.d 3), .int .i64 (own.d 4), .int .i64 (own.d 5), .int .i64 (own.d 6)], .slice a2 len2 cap2] w fun e w' => e = .returned (.bool true) ∧ Below w.heap.size w w' := by
  unfold maxLen at hcm hcm2
  have hK := fitN_in n
  have hf := fun W => fit_any n W hn
  have hp := fun W L (h : Below w.heap.size w W) (hL : L ≤ len) (hk : L < fitN n / 2 + 1) => prepared_any (fitN n) o a L cap S W ((hS.below h).less hL) (by omega) (by omega) (by omega)
  have hq := fun W L (h : Below w.heap.size w W) (hL : L ≤ len2) (hk : L ≤ 6) => pre_any (fitN n) false true own a2 L cap2 R W ((hR.below h).less hL) (by omega) hnil (by omega) (by omega) (by omega)
  have hge := joinAll_ge own R
  generalize fitN n = K at hK hf hp hq
  have hp2 : ∀ W L, Below w.heap.size w W → L ≤ len → L < K / 2 + 1 → Calls Try.prog 21 #[.int .i64 K, .int .i64 o, .slice a L cap] W fun e w' => e = .returned (.tuple #[.int .i64 0, .agg #[.int .i64 0, .int .i64 0, .int .i64 0, .string ⟨#[]⟩, .string ⟨#[]⟩, .string ⟨#[]⟩, .string ⟨#[]⟩], .agg #[.int .i64 0, .int .i64 0, .int .i64 0, .int .i64 0, .int .i64 0, .int .i64 0, .int .i64 0, .int .i64 0]]) ∧ Below W.heap.size W w' := by
    intro W L h1 h2 h3
    have := hp W L h1 h2 h3
    rw [show prepared K o S L = (0, Cm.zero, At.of 0) by rw [prepared, if_pos h3]] at this
    exact this
  have hq2 : ∀ W L, Below w.heap.size w W → L ≤ len2 → L ≤ 6 → L < K / 2 → Calls Try.prog 16 #[.int .i64 K, .bool false, .agg #[.int .i64 own.q, .int .i64 (own.d 0), .int .i64 (own.d 1), .int .i64 (own.d 2), .int .i64 (own.d 3), .int .i64 (own.d 4), .int .i64 (own.d 5), .int .i64 (own.d 6)], .slice a2 L cap2, .bool true] W fun e w' => e = .returned (.tuple #[.int .i64 0, .agg #[.int .i64 0, .int .i64 0, .int .i64 0, .int .i64 0, .int .i64 0, .int .i64 0, .int .i64 0, .int .i64 0]]) ∧ Below W.heap.size W w' := by
    intro W L h1 h2 h3 h4
    have := hq W L h1 h2 h3
    rw [show preA K false own R L true = (0, At.of 0) by rw [preA, if_neg (by simp), if_pos (.inl h4)]] at this
    exact this
  have hq3 : ∀ W L, Below w.heap.size w W → L ≤ len2 → L ≤ 6 → ¬ L < K / 2 → ∃ A : At, own.q ≤ A.q ∧ (∀ i, own.d i ≤ A.d i) ∧ Calls Try.prog 16 #[.int .i64 K, .bool false, .agg #[.int .i64 own.q, .int .i64 (own.d 0), .int .i64 (own.d 1), .int .i64 (own.d 2), .int .i64 (own.d 3), .int .i64 (own.d 4), .int .i64 (own.d 5), .int .i64 (own.d 6)], .slice a2 L cap2, .bool true] W fun e w' => e = .returned (.tuple #[.int .i64 2, .agg #[.int .i64 A.q, .int .i64 (A.d 0), .int .i64 (A.d 1), .int .i64 (A.d 2), .int .i64 (A.d 3), .int .i64 (A.d 4), .int .i64 (A.d 5), .int .i64 (A.d 6)]]) ∧ Below W.heap.size W w' := by
    intro W L h1 h2 h3 h4
    have := hq W L h1 h2 h3
    rw [show preA K false own R L true = (2, joinAll (consA own R) L) by rw [preA, if_neg (by simp), if_neg (by simp; omega)]] at this
    exact ⟨_, (hge L).1, (hge L).2, this⟩
  have HF := Lib.hid hf; have HP := Lib.hid hp2; have HQ2 := Lib.hid hq2; have HQ3 := Lib.hid hq3
  clear hf hp hq hp2 hq2 hq3 hS hR hge
  have hl1 : ((K : Int) / 2 + 1 ≤ (len : Int) ∧ K / 2 + 1 ≤ len) ∨ (¬ (K : Int) / 2 + 1 ≤ (len : Int) ∧ ¬ K / 2 + 1 ≤ len) := by omega
  have hl2 : ((K : Int) - 1 < (len2 : Int) ∧ K - 1 < len2) ∨ (¬ (K : Int) - 1 < (len2 : Int) ∧ ¬ K - 1 < len2 ∧ K / 2 ≤ len2) ∨ (¬ (K : Int) - 1 < (len2 : Int) ∧ ¬ K - 1 < len2 ∧ ¬ K / 2 ≤ len2) := by omega
  have hK3 : 3 ≤ K := by omega
  have hK7 : K ≤ 7 := by omega
  go_enter Try.func9, Try.ntmps9
  go_wp2_with fail
  have hbx := holds_alloc w 26 own.cells
  have hb0 : Below w.heap.size w (w.alloc (.cells own.cells.toArray 26)) := by go_grown
  have HX := Lib.hid (And.intro hbx hb0); clear hbx hb0
  refine (HF.out _).mono ?_
  rintro e w1 ⟨rfl, hb⟩
  have hbx := HX.out.1.below hb HX.out.1.lt
  have hbl := below_next HX.out.2 hb
  have HO := Lib.hid hbx; have HB := Lib.hid hbl
  clear HX hb hbx hbl
  generalize w.heap.size = g8 at HO
  rcases hl1 with ⟨h1, h1'⟩ | ⟨h1, h1'⟩
  all_goals rcases hl2 with ⟨h2, h2'⟩ | ⟨h2, h2', h3'⟩ | ⟨h2, h2', h3'⟩
  all_goals
    go_wp2_with fail
    refine (HP.out _ _ HB.out (by omega) (by omega)).mono ?_
    rintro e w2 ⟨rfl, hb⟩
    have HO2 := Lib.hid (HO.out.below hb HO.out.lt)
    have HB2 := Lib.hid (below_next HB.out hb)
    clear hb HO HB HP
    have hbz : Below w2.heap.size w2 ((w2.alloc (.cells #[.int .i64 0, .int .i64 0, .int .i64 0, .string ⟨#[]⟩, .string ⟨#[]⟩, .string ⟨#[]⟩, .string ⟨#[]⟩] 32)).alloc (.cells #[.int .i64 0, .int .i64 0, .int .i64 0, .int .i64 0, .int .i64 0, .int .i64 0, .int .i64 0, .int .i64 0] 26)) := by go_grown
    go_upto_region 8 with (fail)
    go_name_world W3 hW3
    rw [hW3] at hbz
    clear hW3
    have HO := Lib.hid (HO2.out.below hbz HO2.out.lt)
    have HB := Lib.hid (below_next HB2.out hbz)
    clear hbz HO2 HB2
    have a0 := HO.out.cell 0
    have a1 := HO.out.cell 1
    have a2' := HO.out.cell 2
    have a3 := HO.out.cell 3
    have a4 := HO.out.cell 4
    have a5 := HO.out.cell 5
    have a6 := HO.out.cell 6
    have a7 := HO.out.cell 7
    simp only [At.cells, List.getElem?_cons_zero, List.getElem?_cons_succ] at a0 a1 a2' a3 a4 a5 a6 a7
  · obtain ⟨A, hq, hd, hc⟩ := HQ3.out W3 (K - 1) HB.out (by omega) (by omega) (by omega)
    have HC := Lib.hid hc; have HD := Lib.hid hd
    clear hc hd HQ3 HQ2
    go_wp2_with fail
    refine HC.out.mono ?_
    rintro e w4 ⟨rfl, hb⟩
    have HO2 := Lib.hid (HO.out.below hb HO.out.lt)
    have HB2 := Lib.hid (below_next HB.out hb)
    clear hb HO HB HC a0 a1 a2' a3 a4 a5 a6 a7
    have hbx := holds_alloc w4 26 A.cells
    have hbz : Below w4.heap.size w4 (w4.alloc (.cells A.cells.toArray 26)) := by go_grown
    go_upto_region 9 with (fail)
    go_name_world W5 hW5
    have hbx' : Holds W5 w4.heap.size 26 A.cells := by rw [← hW5]; exact hbx
    have hbz' : Below w4.heap.size w4 W5 := by rw [← hW5]; exact hbz
    clear hW5 hbx hbz
    have HO := Lib.hid (HO2.out.below hbz' HO2.out.lt)
    have HB := Lib.hid (below_next HB2.out hbz')
    have HX := Lib.hid hbx'
    clear hbx' hbz' HO2 HB2
    have a0 := HO.out.cell 0
    have a1 := HO.out.cell 1
    have a2' := HO.out.cell 2
    have a3 := HO.out.cell 3
    have a4 := HO.out.cell 4
    have a5 := HO.out.cell 5
    have a6 := HO.out.cell 6
    have a7 := HO.out.cell 7
    simp only [At.cells, List.getElem?_cons_zero, List.getElem?_cons_succ] at a0 a1 a2' a3 a4 a5 a6 a7
    have y0 := HX.out.cell 0
    have y1 := HX.out.cell 1
    have y2 := HX.out.cell 2
    have y3 := HX.out.cell 3
    have y4 := HX.out.cell 4
    have y5 := HX.out.cell 5
    have y6 := HX.out.cell 6
    have y7 := HX.out.cell 7
    simp only [At.cells, List.getElem?_cons_zero, List.getElem?_cons_succ] at y0 y1 y2 y3 y4 y5 y6 y7
    go_wp2_with fail
    refine (covers_yes A.d own.d _ (fun i _ => HD.out i)).mono ?_
    rintro e w6 ⟨rfl, hb⟩
    have HO := Lib.hid (HO.out.below hb HO.out.lt)
    have HX := Lib.hid (HX.out.below hb HX.out.lt)
    have HB := Lib.hid (below_next HB.out hb)
    clear hb a0 a1 a2' a3 a4 a5 a6 a7 y0 y1 y2 y3 y4 y5 y6 y7
    have a0 := HO.out.cell 0
    have y0 := HX.out.cell 0
    simp only [At.cells, List.getElem?_cons_zero] at a0 y0
    go_wp2_with fail
    refine (quorumRuns_any _).mono ?_
    rintro e w7 ⟨rfl, hb⟩
    have HB := Lib.hid (below_next HB.out hb)
    clear hb
    go_wp2_with fail
    go_ret
    exact ⟨rfl, HB.out⟩
  · obtain ⟨A, hq, hd, hc⟩ := HQ3.out W3 len2 HB.out (by omega) (by omega) (by omega)
    have HC := Lib.hid hc; have HD := Lib.hid hd
    clear hc hd HQ3 HQ2
    go_wp2_with fail
    refine HC.out.mono ?_
    rintro e w4 ⟨rfl, hb⟩
    have HO2 := Lib.hid (HO.out.below hb HO.out.lt)
    have HB2 := Lib.hid (below_next HB.out hb)
    clear hb HO HB HC a0 a1 a2' a3 a4 a5 a6 a7
    have hbx := holds_alloc w4 26 A.cells
    have hbz : Below w4.heap.size w4 (w4.alloc (.cells A.cells.toArray 26)) := by go_grown
    go_upto_region 9 with (fail)
    go_name_world W5 hW5
    have hbx' : Holds W5 w4.heap.size 26 A.cells := by rw [← hW5]; exact hbx
    have hbz' : Below w4.heap.size w4 W5 := by rw [← hW5]; exact hbz
    clear hW5 hbx hbz
    have HO := Lib.hid (HO2.out.below hbz' HO2.out.lt)
    have HB := Lib.hid (below_next HB2.out hbz')
    have HX := Lib.hid hbx'
    clear hbx' hbz' HO2 HB2
    have a0 := HO.out.cell 0
    have a1 := HO.out.cell 1
    have a2' := HO.out.cell 2
    have a3 := HO.out.cell 3
    have a4 := HO.out.cell 4
    have a5 := HO.out.cell 5
    have a6 := HO.out.cell 6
    have a7 := HO.out.cell 7
    simp only [At.cells, List.getElem?_cons_zero, List.getElem?_cons_succ] at a0 a1 a2' a3 a4 a5 a6 a7
    have y0 := HX.out.cell 0
    have y1 := HX.out.cell 1
    have y2 := HX.out.cell 2
    have y3 := HX.out.cell 3
    have y4 := HX.out.cell 4
    have y5 := HX.out.cell 5
    have y6 := HX.out.cell 6
    have y7 := HX.out.cell 7
    simp only [At.cells, List.getElem?_cons_zero, List.getElem?_cons_succ] at y0 y1 y2 y3 y4 y5 y6 y7
    go_wp2_with fail
    refine (covers_yes A.d own.d _ (fun i _ => HD.out i)).mono ?_
    rintro e w6 ⟨rfl, hb⟩
    have HO := Lib.hid (HO.out.below hb HO.out.lt)
    have HX := Lib.hid (HX.out.below hb HX.out.lt)
    have HB := Lib.hid (below_next HB.out hb)
    clear hb a0 a1 a2' a3 a4 a5 a6 a7 y0 y1 y2 y3 y4 y5 y6 y7
    have a0 := HO.out.cell 0
    have y0 := HX.out.cell 0
    simp only [At.cells, List.getElem?_cons_zero] at a0 y0
    go_wp2_with fail
    refine (quorumRuns_any _).mono ?_
    rintro e w7 ⟨rfl, hb⟩
    have HB := Lib.hid (below_next HB.out hb)
    clear hb
    go_wp2_with fail
    go_ret
    exact ⟨rfl, HB.out⟩
  · have HC := Lib.hid (HQ2.out W3 len2 HB.out (by omega) (by omega) (by omega))
    clear HQ3 HQ2
    have heq := eq_attr (At.of 0) (At.of 0)
    rw [At.eqB_self] at heq
    simp only [At.of] at heq
    go_wp2_with fail
    refine HC.out.mono ?_
    rintro e w4 ⟨rfl, hb⟩
    have HB := Lib.hid (below_next HB.out hb)
    clear hb HC a0 a1 a2' a3 a4 a5 a6 a7
    have hbz : Below w4.heap.size w4 (w4.alloc (.cells #[.int .i64 0, .int .i64 0, .int .i64 0, .int .i64 0, .int .i64 0, .int .i64 0, .int .i64 0, .int .i64 0] 26)) := by go_grown
    have HB := Lib.hid (below_next HB.out hbz)
    clear hbz
    go_wp2_with fail
    refine (quorumRuns_any _).mono ?_
    rintro e w7 ⟨rfl, hb⟩
    have HB := Lib.hid (below_next HB.out hb)
    clear hb
    go_wp2_with fail
    go_ret
    exact ⟨rfl, HB.out⟩
  · obtain ⟨A, hq, hd, hc⟩ := HQ3.out W3 (K - 1) HB.out (by omega) (by omega) (by omega)
    have HC := Lib.hid hc; have HD := Lib.hid hd
    clear hc hd HQ3 HQ2
    go_wp2_with fail
    refine HC.out.mono ?_
    rintro e w4 ⟨rfl, hb⟩
    have HO2 := Lib.hid (HO.out.below hb HO.out.lt)
    have HB2 := Lib.hid (below_next HB.out hb)
    clear hb HO HB HC a0 a1 a2' a3 a4 a5 a6 a7
    have hbx := holds_alloc w4 26 A.cells
    have hbz : Below w4.heap.size w4 (w4.alloc (.cells A.cells.toArray 26)) := by go_grown
    go_upto_region 9 with (fail)
    go_name_world W5 hW5
    have hbx' : Holds W5 w4.heap.size 26 A.cells := by rw [← hW5]; exact hbx
    have hbz' : Below w4.heap.size w4 W5 := by rw [← hW5]; exact hbz
    clear hW5 hbx hbz
    have HO := Lib.hid (HO2.out.below hbz' HO2.out.lt)
    have HB := Lib.hid (below_next HB2.out hbz')
    have HX := Lib.hid hbx'
    clear hbx' hbz' HO2 HB2
    have a0 := HO.out.cell 0
    have a1 := HO.out.cell 1
    have a2' := HO.out.cell 2
    have a3 := HO.out.cell 3
    have a4 := HO.out.cell 4
    have a5 := HO.out.cell 5
    have a6 := HO.out.cell 6
    have a7 := HO.out.cell 7
    simp only [At.cells, List.getElem?_cons_zero, List.getElem?_cons_succ] at a0 a1 a2' a3 a4 a5 a6 a7
    have y0 := HX.out.cell 0
    have y1 := HX.out.cell 1
    have y2 := HX.out.cell 2
    have y3 := HX.out.cell 3
    have y4 := HX.out.cell 4
    have y5 := HX.out.cell 5
    have y6 := HX.out.cell 6
    have y7 := HX.out.cell 7
    simp only [At.cells, List.getElem?_cons_zero, List.getElem?_cons_succ] at y0 y1 y2 y3 y4 y5 y6 y7
    go_wp2_with fail
    refine (covers_yes A.d own.d _ (fun i _ => HD.out i)).mono ?_
    rintro e w6 ⟨rfl, hb⟩
    have HO := Lib.hid (HO.out.below hb HO.out.lt)
    have HX := Lib.hid (HX.out.below hb HX.out.lt)
    have HB := Lib.hid (below_next HB.out hb)
    clear hb a0 a1 a2' a3 a4 a5 a6 a7 y0 y1 y2 y3 y4 y5 y6 y7
    have a0 := HO.out.cell 0
    have y0 := HX.out.cell 0
    simp only [At.cells, List.getElem?_cons_zero] at a0 y0
    go_wp2_with fail
    refine (quorumRuns_any _).mono ?_
    rintro e w7 ⟨rfl, hb⟩
    have HB := Lib.hid (below_next HB.out hb)
    clear hb
    go_wp2_with fail
    go_ret
    exact ⟨rfl, HB.out⟩
  · obtain ⟨A, hq, hd, hc⟩ := HQ3.out W3 len2 HB.out (by omega) (by omega) (by omega)
    have HC := Lib.hid hc; have HD := Lib.hid hd
    clear hc hd HQ3 HQ2
    go_wp2_with fail
    refine HC.out.mono ?_
    rintro e w4 ⟨rfl, hb⟩
    have HO2 := Lib.hid (HO.out.below hb HO.out.lt)
    have HB2 := Lib.hid (below_next HB.out hb)
    clear hb HO HB HC a0 a1 a2' a3 a4 a5 a6 a7
    have hbx := holds_alloc w4 26 A.cells
    have hbz : Below w4.heap.size w4 (w4.alloc (.cells A.cells.toArray 26)) := by go_grown
    go_upto_region 9 with (fail)
    go_name_world W5 hW5
    have hbx' : Holds W5 w4.heap.size 26 A.cells := by rw [← hW5]; exact hbx
    have hbz' : Below w4.heap.size w4 W5 := by rw [← hW5]; exact hbz
    clear hW5 hbx hbz
    have HO := Lib.hid (HO2.out.below hbz' HO2.out.lt)
    have HB := Lib.hid (below_next HB2.out hbz')
    have HX := Lib.hid hbx'
    clear hbx' hbz' HO2 HB2
    have a0 := HO.out.cell 0
    have a1 := HO.out.cell 1
    have a2' := HO.out.cell 2
    have a3 := HO.out.cell 3
    have a4 := HO.out.cell 4
    have a5 := HO.out.cell 5
    have a6 := HO.out.cell 6
    have a7 := HO.out.cell 7
    simp only [At.cells, List.getElem?_cons_zero, List.getElem?_cons_succ] at a0 a1 a2' a3 a4 a5 a6 a7
    have y0 := HX.out.cell 0
    have y1 := HX.out.cell 1
    have y2 := HX.out.cell 2
    have y3 := HX.out.cell 3
    have y4 := HX.out.cell 4
    have y5 := HX.out.cell 5
    have y6 := HX.out.cell 6
    have y7 := HX.out.cell 7
    simp only [At.cells, List.getElem?_cons_zero, List.getElem?_cons_succ] at y0 y1 y2 y3 y4 y5 y6 y7
    go_wp2_with fail
    refine (covers_yes A.d own.d _ (fun i _ => HD.out i)).mono ?_
    rintro e w6 ⟨rfl, hb⟩
    have HO := Lib.hid (HO.out.below hb HO.out.lt)
    have HX := Lib.hid (HX.out.below hb HX.out.lt)
    have HB := Lib.hid (below_next HB.out hb)
    clear hb a0 a1 a2' a3 a4 a5 a6 a7 y0 y1 y2 y3 y4 y5 y6 y7
    have a0 := HO.out.cell 0
    have y0 := HX.out.cell 0
    simp only [At.cells, List.getElem?_cons_zero] at a0 y0
    go_wp2_with fail
    refine (quorumRuns_any _).mono ?_
    rintro e w7 ⟨rfl, hb⟩
    have HB := Lib.hid (below_next HB.out hb)
    clear hb
    go_wp2_with fail
    go_ret
    exact ⟨rfl, HB.out⟩
  · have HC := Lib.hid (HQ2.out W3 len2 HB.out (by omega) (by omega) (by omega))
    clear HQ3 HQ2
    have heq := eq_attr (At.of 0) (At.of 0)
    rw [At.eqB_self] at heq
    simp only [At.of] at heq
    go_wp2_with fail
    refine HC.out.mono ?_
    rintro e w4 ⟨rfl, hb⟩
    have HB := Lib.hid (below_next HB.out hb)
    clear hb HC a0 a1 a2' a3 a4 a5 a6 a7
    have hbz : Below w4.heap.size w4 (w4.alloc (.cells #[.int .i64 0, .int .i64 0, .int .i64 0, .int .i64 0, .int .i64 0, .int .i64 0, .int .i64 0, .int .i64 0] 26)) := by go_grown
    have HB := Lib.hid (below_next HB.out hbz)
    clear hbz
    go_wp2_with fail
    refine (quorumRuns_any _).mono ?_
    rintro e w7 ⟨rfl, hb⟩
    have HB := Lib.hid (below_next HB.out hb)
    clear hb
    go_wp2_with fail
    go_ret
    exact ⟨rfl, HB.out⟩
theorem quorumFew_rows (n o : Int) (a : Option Addr) (len cap : Nat) (V : Nat → List Value) (q d0 d1 d2 d3 d4 d5 d6 : Int) (a2 : Option Addr) (len2 cap2 : Nat) (V2 : Nat → List Value) (w : World) (hn : (Lit.int .i64 n).wf = true) (_ : (Lit.int .i64 o).wf = true)
    (hV : IsRows w a len 22 V) (hA : ∀ i, i < len → AllOk saidLeaves (V i)) (hlc : len ≤ cap) (hcm : cap ≤ maxLen) (_ : a = none → cap = 0)
    (_ : (Lit.int .i64 q).wf = true) (_ : (Lit.int .i64 d0).wf = true) (_ : (Lit.int .i64 d1).wf = true) (_ : (Lit.int .i64 d2).wf = true) (_ : (Lit.int .i64 d3).wf = true) (_ : (Lit.int .i64 d4).wf = true) (_ : (Lit.int .i64 d5).wf = true) (_ : (Lit.int .i64 d6).wf = true)
    (hV2 : IsRows w a2 len2 8 V2) (hA2 : ∀ i, i < len2 → AllOk attrLeaves (V2 i)) (hlc2 : len2 ≤ cap2) (hcm2 : cap2 ≤ maxLen) (hnil : a2 = none → cap2 = 0) :
    Calls Try.prog 9 #[.int .i64 n, .int .i64 o, .slice a len cap, .agg #[.int .i64 q, .int .i64 d0, .int .i64 d1, .int .i64 d2, .int .i64 d3, .int .i64 d4, .int .i64 d5, .int .i64 d6], .slice a2 len2 cap2] w fun e w' => e = .returned (.bool true) ∧ Below w.heap.size w w' := by
  obtain ⟨S, hS⟩ := rows_sd hA
  obtain ⟨R, hR⟩ := rows_at hA2
  exact quorumFew_any n o a len cap S (mkAt q d0 d1 d2 d3 d4 d5 d6) a2 len2 cap2 R w hn (hV.cong hS) hlc (hV2.cong hR) hlc2 hcm hcm2 hnil
end Go.Proofs.Ytmpefdepcbfcdaa
