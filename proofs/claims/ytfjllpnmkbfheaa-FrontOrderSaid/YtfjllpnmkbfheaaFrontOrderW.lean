/-
  The walk of FrontOrder.
-/
import Derived.Test.YtfjllpnmkbfheaaFrontPlaysW
import Derived.Test.YtfjllpnmkbfheaaBook
import Derived.Deep.CutRange
import Derived.Deep.RegionHeld3
import Derived.Lib.ItoaWalk
namespace Go.Proofs.Ytfjllpnmkbfheaa
open Go.RowKit

theorem wf64 {n : Int} (h : (Lit.int .i64 n).wf = true) : -9223372036854775808 ≤ n ∧ n ≤ 9223372036854775807 := by
  simp [Lit.wf, IntKind.min, IntKind.max, IntKind.signed, IntKind.bits] at h
  omega
/-! ### Plain law: order and number of times don't matter -/
/-- What is heard one after the other. -/
def heardL (n : Nat) (who : Nat → Int) (d : Nat → Nat → Int) : List Nat → FrontP.Fr
  | [] => fun _ _ => 0
  | j :: js => FrontP.heard (heardL n who d js) n (who j) (d j)
theorem heard_at (F : FrontP.Fr) (n : Nat) (r : Int) (d : Nat → Int) (q i : Nat) (hi : i < 7) : FrontP.heard F n r d q i = if FrontP.takes n r d = true ∧ q = r.toNat then FrontP.mx (F q i) (d i) else F q i := by
  unfold FrontP.heard FrontP.hear FrontP.hearTo
  by_cases h : FrontP.takes n r d = true
  · rw [if_pos h]
    by_cases hq : q = r.toNat
    · rw [if_pos ⟨hq, hi⟩, if_pos ⟨h, hq⟩]
    · rw [if_neg (fun h => hq h.1), if_neg (fun h => hq h.2)]
  · rw [if_neg h, if_neg (fun hh => h hh.1)]
theorem heardL_ge (n : Nat) (who : Nat → Int) (d : Nat → Nat → Int) (js : List Nat) (q i : Nat) (hi : i < 7) : 0 ≤ heardL n who d js q i := by
  induction js with
  | nil => exact Int.le_refl _
  | cons j js ih => rw [heardL, heard_at _ _ _ _ _ _ hi]; split <;> (try unfold FrontP.mx) <;> (try split) <;> omega
theorem heardL_has (n : Nat) (who : Nat → Int) (d : Nat → Nat → Int) (js : List Nat) (q i j : Nat) (hi : i < 7) (hj : j ∈ js) (ht : FrontP.takes n (who j) (d j) = true) (hq : q = (who j).toNat) : d j i ≤ heardL n who d js q i := by
  induction js with
  | nil => cases hj
  | cons x js ih =>
    rw [heardL, heard_at _ _ _ _ _ _ hi]
    rcases List.mem_cons.1 hj with rfl | hj
    · rw [if_pos ⟨ht, hq⟩]; unfold FrontP.mx; split <;> omega
    · have := ih hj
      split
      · unfold FrontP.mx; split <;> omega
      · exact this
theorem heardL_is (n : Nat) (who : Nat → Int) (d : Nat → Nat → Int) (js : List Nat) (q i : Nat) (hi : i < 7) : heardL n who d js q i = 0 ∨ ∃ j ∈ js, FrontP.takes n (who j) (d j) = true ∧ q = (who j).toNat ∧ heardL n who d js q i = d j i := by
  induction js with
  | nil => exact .inl rfl
  | cons x js ih =>
    rw [heardL, heard_at _ _ _ _ _ _ hi]
    have key : heardL n who d js q i = 0 ∨ ∃ j ∈ x :: js, FrontP.takes n (who j) (d j) = true ∧ q = (who j).toNat ∧ heardL n who d js q i = d j i := by
      rcases ih with h | ⟨j, hj, h⟩
      · exact .inl h
      · exact .inr ⟨j, List.mem_cons_of_mem _ hj, h⟩
    split
    · rename_i h
      unfold FrontP.mx
      split
      · exact .inr ⟨x, List.mem_cons_self, h.1, h.2, rfl⟩
      · exact key
    · exact key
theorem heardL_same (n : Nat) (who : Nat → Int) (d : Nat → Nat → Int) (js ks : List Nat) (h : ∀ j, j ∈ js ↔ j ∈ ks) (q i : Nat) (hi : i < 7) : heardL n who d js q i = heardL n who d ks q i := by
  have key : ∀ js ks : List Nat, (∀ j, j ∈ js → j ∈ ks) → heardL n who d js q i ≤ heardL n who d ks q i := by
    intro js ks h
    rcases heardL_is n who d js q i hi with h0 | ⟨j, hj, h1, h2, h3⟩
    · rw [h0]; exact heardL_ge n who d ks q i hi
    · rw [h3]; exact heardL_has n who d ks q i j hi (h j hj) h1 h2
  have h1 := key js ks (fun j hj => (h j).1 hj)
  have h2 := key ks js (fun j hj => (h j).2 hj)
  omega
theorem heardL_out (n : Nat) (who : Nat → Int) (d : Nat → Nat → Int) (js : List Nat) (q i : Nat) (hi : ¬ i < 7) : heardL n who d js q i = 0 := by
  induction js with
  | nil => rfl
  | cons j js ih =>
    rw [heardL]
    unfold FrontP.heard FrontP.hear FrontP.hearTo
    split
    · show (if q = (who j).toNat ∧ i < 7 then FrontP.mx (heardL n who d js q i) (d j i) else heardL n who d js q i) = 0
      rw [if_neg (fun h => hi h.2)]; exact ih
    · exact ih
theorem heardL_eq (n : Nat) (who : Nat → Int) (d : Nat → Nat → Int) (js ks : List Nat) (h : ∀ j, j ∈ js ↔ j ∈ ks) : heardL n who d js = heardL n who d ks := by
  funext q i
  by_cases hi : i < 7
  · exact heardL_same n who d js ks h q i hi
  · rw [heardL_out n who d js q i hi, heardL_out n who d ks q i hi]
/-- The asks up to k, the last first; those by the turned order, each twice. -/
def upTo : Nat → List Nat
  | 0 => []
  | k + 1 => k :: upTo k
def turnTo (m L : Nat) : Nat → List Nat
  | 0 => []
  | k + 1 => (k + m) % L :: (k + m) % L :: turnTo m L k
theorem mem_upTo (k j : Nat) : j ∈ upTo k ↔ j < k := by
  induction k with
  | zero => simp [upTo]
  | succ k ih => simp [upTo, ih]; omega
theorem mem_turnTo (m L k j : Nat) : j ∈ turnTo m L k ↔ ∃ i, i < k ∧ j = (i + m) % L := by
  induction k with
  | zero => simp [turnTo]
  | succ k ih =>
    simp only [turnTo, List.mem_cons, ih]
    constructor
    · rintro (h | h | ⟨i, hi, h⟩)
      · exact ⟨k, by omega, h⟩
      · exact ⟨k, by omega, h⟩
      · exact ⟨i, by omega, h⟩
    · rintro ⟨i, hi, h⟩
      by_cases hk : i = k
      · subst hk; exact .inl h
      · exact .inr (.inr ⟨i, by omega, h⟩)
theorem turned_all (n : Nat) (who : Nat → Int) (d : Nat → Nat → Int) (m L : Nat) (hm : m ≤ L) : heardL n who d (turnTo m L L) = heardL n who d (upTo L) := by
  refine heardL_eq n who d _ _ fun j => ?_
  rw [mem_upTo, mem_turnTo]
  constructor
  · rintro ⟨i, hi, rfl⟩
    exact Nat.mod_lt _ (by omega)
  · intro hj
    by_cases h : m ≤ j
    · exact ⟨j - m, by omega, by rw [Nat.sub_add_cancel h, Nat.mod_eq_of_lt hj]⟩
    · refine ⟨j + L - m, by omega, ?_⟩
      rw [Nat.sub_add_cancel (by omega), Nat.add_mod_right, Nat.mod_eq_of_lt hj]

/-- Two fronts, in a world that leaves what was before as it was. -/
structure Gs (w W : World) (g g2 n me : Nat) (F G : FrontP.Fr) : Prop where
  bel : Below w.heap.size w W
  f : FrontAt W g 44 n me F
  r : FrontAt W g2 44 n me G
  ge : w.heap.size ≤ g
  ge2 : w.heap.size ≤ g2
  ne : g ≠ g2
theorem Gs.below {w W W' : World} {g g2 n me : Nat} {F G : FrontP.Fr} (h : Gs w W g g2 n me F G) (hb : Below W.heap.size W W') : Gs w W' g g2 n me F G :=
  ⟨h.bel.trans (hb.mono h.bel.size), h.f.below hb h.f.lt, h.r.below hb h.r.lt, h.ge, h.ge2, h.ne⟩
theorem Gs.hear1 {w W : World} {g g2 n me : Nat} {F G : FrontP.Fr} (h : Gs w W g g2 n me F G) (r : Int) (d : Nat → Int) :
    Calls Try.prog 8 #[.pointer (some ⟨g, 0, none⟩), .int .i64 r, .agg #[.int .i64 (d 0), .int .i64 (d 1), .int .i64 (d 2), .int .i64 (d 3), .int .i64 (d 4), .int .i64 (d 5), .int .i64 (d 6)]] W fun e w' =>
      e = .returned (.bool (FrontP.takes n r d)) ∧ Gs w w' g g2 n me (FrontP.heard F n r d) G := by
  refine (hear_any g n me r F d W h.f).mono ?_
  rintro e w' ⟨rfl, hf, ht⟩
  exact ⟨rfl, h.bel.trans (ht.below h.ge h.bel.size), hf, ⟨h.r.h.touch ht (Ne.symm h.ne), h.r.n7⟩, h.ge, h.ge2, h.ne⟩
theorem Gs.hear2 {w W : World} {g g2 n me : Nat} {F G : FrontP.Fr} (h : Gs w W g g2 n me F G) (r : Int) (d : Nat → Int) :
    Calls Try.prog 8 #[.pointer (some ⟨g2, 0, none⟩), .int .i64 r, .agg #[.int .i64 (d 0), .int .i64 (d 1), .int .i64 (d 2), .int .i64 (d 3), .int .i64 (d 4), .int .i64 (d 5), .int .i64 (d 6)]] W fun e w' =>
      e = .returned (.bool (FrontP.takes n r d)) ∧ Gs w w' g g2 n me F (FrontP.heard G n r d) := by
  refine (hear_any g2 n me r G d W h.r).mono ?_
  rintro e w' ⟨rfl, hf, ht⟩
  exact ⟨rfl, h.bel.trans (ht.below h.ge2 h.bel.size), ⟨h.f.h.touch ht h.ne, h.f.n7⟩, hf, h.ge, h.ge2, h.ne⟩

/-- .. and a box of the call's own. -/
structure Gb (w W : World) (g g2 n me : Nat) (F G : FrontP.Fr) (B : Nat) (e : TypeId) (cs : List Value) : Prop where
  s : Gs w W g g2 n me F G
  h : Holds W B e cs
  ne2 : B ≠ g2
theorem Gb.hear2 {w W : World} {g g2 n me : Nat} {F G : FrontP.Fr} {B : Nat} {e : TypeId} {cs : List Value} (h : Gb w W g g2 n me F G B e cs) (r : Int) (d : Nat → Int) :
    Calls Try.prog 8 #[.pointer (some ⟨g2, 0, none⟩), .int .i64 r, .agg #[.int .i64 (d 0), .int .i64 (d 1), .int .i64 (d 2), .int .i64 (d 3), .int .i64 (d 4), .int .i64 (d 5), .int .i64 (d 6)]] W fun en w' =>
      en = .returned (.bool (FrontP.takes n r d)) ∧ Gb w w' g g2 n me F (FrontP.heard G n r d) B e cs := by
  refine (hear_any g2 n me r G d W h.s.r).mono ?_
  rintro en w' ⟨rfl, hf, ht⟩
  exact ⟨rfl, ⟨h.s.bel.trans (ht.below h.s.ge2 h.s.bel.size), ⟨h.s.f.h.touch ht h.s.ne, h.s.f.n7⟩, hf, h.s.ge, h.s.ge2, h.s.ne⟩, h.h.touch ht h.ne2, h.ne2⟩

set_option maxRecDepth 4000 in
set_option maxHeartbeats 1000000 in
theorem frontOrder_any (n me : Int) (a : Option Addr) (len cap : Nat) (who : Nat → Int) (d : Nat → Nat → Int) (turn : Int) (w : World) (hn : (Lit.int .i64 n).wf = true) (hme : (Lit.int .i64 me).wf = true) (hA : Asks w a len who d) (hlc : len ≤ cap) (htu : (Lit.int .i64 turn).wf = true) :
    Calls Try.prog 6 #[.int .i64 n, .int .i64 me, .slice a len cap, .int .i64 turn] w fun e w' => e = .returned (.bool true) ∧ Below w.heap.size w w' := by
  have HA := Lib.hid hA; clear hA
  go_enter Try.func6, Try.ntmps6
  go_wp2_with fail
  refine (within_nat n 0 2 _ (wf64 hn) (by omega) (by omega) (by omega)).mono ?_
  rintro e w1 ⟨⟨k0, hk0, hk2, rfl⟩, hw1⟩
  have hL : Holds w1 w.heap.size 3 [.int .i64 3, .int .i64 5, .int .i64 7] := by rw [← hw1]; exact holds_alloc w _ _
  have HB1 := Lib.hid (show Below w.heap.size w w1 by rw [← hw1]; go_grown)
  clear hw1
  obtain ⟨K, hK, hc0⟩ : ∃ K : Nat, (K = 3 ∨ K = 5 ∨ K = 7) ∧ w1.cell? ⟨w.heap.size, k0, none⟩ = some (.int .i64 K) := by
    rcases (show k0 = 0 ∨ k0 = 1 ∨ k0 = 2 by omega) with rfl | rfl | rfl
    · exact ⟨3, by omega, hL.cell 0⟩
    · exact ⟨5, by omega, hL.cell 1⟩
    · exact ⟨7, by omega, hL.cell 2⟩
  have HK := Lib.hid hK
  have hK1 : 3 ≤ K := by omega
  have hK7 : K ≤ 7 := by omega
  clear hK hL
  go_wp2_with fail
  refine (within_nat me 0 ((K : Int) - 1) _ (wf64 hme) (by omega) (by omega) (by omega)).mono ?_
  rintro e w2 ⟨⟨own, ho0, ho1, rfl⟩, rfl⟩
  clear hc0
  have hoK : own < K := by omega
  go_wp2_with fail
  refine (new_in K own w1 HK.out hoK).mono ?_
  rintro e w2 ⟨g, rfl, hg, hf, hb2⟩
  have hsz1 := HB1.out.size
  have HF := Lib.hid hf
  have hf2 := Lib.hid hf
  have HB2 := Lib.hid (HB1.out.trans (hb2.mono hsz1))
  have hsz2 := hb2.size
  clear hb2 hf
  go_wp2_with fail
  refine (new_in K own w2 HK.out hoK).mono ?_
  rintro e w3 ⟨g', rfl, hg', hf', hb3⟩
  have HF := Lib.hid (HF.out.below hb3 HF.out.lt)
  have HF' := Lib.hid hf'
  have HB3 := Lib.hid (HB2.out.trans (hb3.mono (Nat.le_trans hsz1 hsz2)))
  have hne : g ≠ g' := by have := (show FrontAt w2 g _ _ _ _ from hf2.out).lt; omega
  clear hb3 hf'
  have hsm := HA.out.small
  go_upto_if 56 with (fail)
  go_cut [2] from 57 to 58 (fun x wx => ∃ L : Nat, L ≤ len ∧ L ≤ 30 ∧ x = .slice a L cap ∧ wx = w3)
  case first =>
    by_cases h30 : 30 < len
    · go_wp2_with fail
      go_meet
      exact ⟨30, by omega, by omega, rfl, rfl⟩
    · go_wp2_with fail
      go_meet
      exact ⟨len, by omega, by omega, rfl, rfl⟩
  case rest =>
    obtain ⟨L, hL1, hL30, rfl, rfl⟩ := hcut
    go_wp2_with fail
    refine (within_nat turn 0 L _ (wf64 htu) (by omega) (by omega) (by omega)).mono ?_
    rintro e w4 ⟨⟨m, hm0, hm, rfl⟩, rfl⟩
    have hm : m ≤ L := by omega
    clear hm0 hn hme htu
    have HGS : Gs w _ g g' K own (heardL K who d (upTo 0)) (heardL K who d (turnTo m L 0)) := ⟨HB3.out, HF.out, HF'.out, by omega, by omega, hne⟩
    have HGS := Lib.hid HGS
    clear HF HF' hf2 hg hg' hsz1 hsz2 HB1 HB2 HB3 hne
    go_wp2_with fail
    go_loopw [16] (fun i wr => ∃ k : Nat, k ≤ L ∧ i = .int .i64 k ∧ Gs w wr g g' K own (heardL K who d (upTo k)) (heardL K who d (turnTo m L k))) (fun i _ => L - (intOf i).toNat)
    case atStart => exact ⟨0, by omega, rfl, HGS.out⟩
    case round =>
      clear HGS
      obtain ⟨k, hk, rfl, hst⟩ := hrel
      by_cases hlt : k < L
      · obtain ⟨b, off, rfl, hblt, _⟩ := HA.out.spot (by omega)
        have hkl : k < len := by omega
        have H1 := Lib.hid (fun W (h : Gs w W g g' K own (heardL K who d (upTo k)) (heardL K who d (turnTo m L k))) => h.hear1 (who k) (d k))
        have HK := Lib.hid (fun W F1 F2 (h : Gs w W g g' K own F1 F2) => HA.out.cells h.bel rfl hkl)
        rw [show FrontP.heard (heardL K who d (upTo k)) K (who k) (d k) = heardL K who d (upTo (k + 1)) from rfl] at H1
        generalize FrontP.takes K (who k) (d k) = tk at H1
        have HWF := HA.out.wfw k hkl
        have hst0 : Gs w wr.drew g g' K own (heardL K who d (upTo k)) (heardL K who d (turnTo m L k)) := hst.below ⟨rfl, rfl, rfl, Nat.le_refl _, fun _ _ => rfl⟩
        generalize who k = y at H1 HK HWF
        generalize d k 0 = x0, d k 1 = x1, d k 2 = x2, d k 3 = x3, d k 4 = x4, d k 5 = x5, d k 6 = x6 at H1 HK
        go_upto_region 13 with (fail)
        go_region_held3 (fun W => W.cell? ⟨b, off + k * 8, none⟩ = some (.int .i64 y) ∧ W.cell? ⟨b, off + k * 8 + 1, none⟩ = some (.int .i64 x0) ∧ W.cell? ⟨b, off + k * 8 + 2, none⟩ = some (.int .i64 x1) ∧ W.cell? ⟨b, off + k * 8 + 3, none⟩ = some (.int .i64 x2) ∧
            W.cell? ⟨b, off + k * 8 + 4, none⟩ = some (.int .i64 x3) ∧ W.cell? ⟨b, off + k * 8 + 5, none⟩ = some (.int .i64 x4) ∧ W.cell? ⟨b, off + k * 8 + 6, none⟩ = some (.int .i64 x5) ∧ W.cell? ⟨b, off + k * 8 + 7, none⟩ = some (.int .i64 x6))
            (exact HK.out _ _ _ (by assumption))
            (first
              | (go_at_call 8; refine (H1.out _ (by assumption)).mono ?_; rintro e w' ⟨rfl, hstn⟩))
        have hL0 : 0 < L := by omega
        have hjL : (k + m) % L < L := Nat.mod_lt _ hL0
        have hjl : (k + m) % L < len := by omega
        have HT := Lib.hid (show heardL K who d (turnTo m L (k + 1)) = FrontP.heard (FrontP.heard (heardL K who d (turnTo m L k)) K (who ((k + m) % L)) (d ((k + m) % L))) K (who ((k + m) % L)) (d ((k + m) % L)) from rfl)
        generalize hG2 : heardL K who d (turnTo m L (k + 1)) = G2 at HT
        generalize hF1 : heardL K who d (upTo (k + 1)) = F1 at hstn
        have HG2 := Lib.hid hG2; clear hG2
        have HF1 := Lib.hid hF1; clear hF1
        generalize heardL K who d (turnTo m L k) = G0 at HT hstn
        obtain ⟨c0, c1, c2, c3, c4, c5, c6, c7⟩ := HA.out.cells hstn.bel rfl hjl
        have HS := Lib.hid hstn
        clear HK H1 hst0 hst hstn HWF
        have hin : 0 ≤ ((k : Int) + (m : Int)) % (L : Int) ∧ ((k : Int) + (m : Int)) % (L : Int) < (L : Int) := ⟨Int.emod_nonneg _ (by omega), Int.emod_lt_of_pos _ (by omega)⟩
        generalize hdj : d ((k + m) % L) = dj at *
        generalize hwj : who ((k + m) % L) = wj at *
        have hgb : Gb w (w'.alloc (.cells #[.int .i64 wj, .int .i64 (dj 0), .int .i64 (dj 1), .int .i64 (dj 2), .int .i64 (dj 3), .int .i64 (dj 4), .int .i64 (dj 5), .int .i64 (dj 6)] 37)) g g' K own F1 G0 w'.heap.size 37 [.int .i64 wj, .int .i64 (dj 0), .int .i64 (dj 1), .int .i64 (dj 2), .int .i64 (dj 3), .int .i64 (dj 4), .int .i64 (dj 5), .int .i64 (dj 6)] :=
          ⟨HS.out.below (by go_grown), holds_alloc w' _ _, by have := HS.out.r.lt; omega⟩
        have HGB := Lib.hid hgb
        clear hgb hdj hwj
        go_wp2_with fail
        refine (HGB.out.hear2 wj dj).mono ?_
        rintro e w5 ⟨rfl, hgb5⟩
        have HGB := Lib.hid hgb5
        have b0 := hgb5.h.cell 0
        have b1 := hgb5.h.cell 1
        have b2 := hgb5.h.cell 2
        have b3 := hgb5.h.cell 3
        have b4 := hgb5.h.cell 4
        have b5 := hgb5.h.cell 5
        have b6 := hgb5.h.cell 6
        have b7 := hgb5.h.cell 7
        simp only [List.getElem?_cons_zero, List.getElem?_cons_succ] at b0 b1 b2 b3 b4 b5 b6 b7
        clear hgb5 c0 c1 c2 c3 c4 c5 c6 c7
        go_wp2_with fail
        refine (HGB.out.hear2 wj dj).mono ?_
        rintro e w6 ⟨rfl, hgb6⟩
        have HGB := Lib.hid hgb6
        clear hgb6 b0 b1 b2 b3 b4 b5 b6 b7 hin
        go_wp2_with fail
        go_roundw
        case rel => exact ⟨k + 1, by omega, by go_num, by rw [HF1.out, HG2.out, HT.out]; exact HGB.out.s⟩
        case measure => simp [intOf]; omega
      · have hkL : k = L := by omega
        subst hkL
        rw [turned_all K who d m k hm] at hst
        generalize heardL K who d (upTo k) = F at hst
        have HS := Lib.hid hst; clear hst
        go_wp2_with fail
        go_loopw [18] (fun i wr => ∃ r : Nat, r ≤ K ∧ i = .int .i64 r ∧ Gs w wr g g' K own F F) (fun i _ => K - (intOf i).toNat)
        case atStart => exact ⟨0, by omega, rfl, HS.out⟩
        case round =>
          clear HS
          obtain ⟨r, hr, rfl, hst⟩ := hrel
          by_cases hlt2 : r < K
          · have H1 := Lib.hid (of_in g K own r F _ hst.f hlt2)
            have H2 := Lib.hid (fun W (h : Gs w W g g' K own F F) => of_in g' K own r F W h.r hlt2)
            unfold depsV at H1 H2
            generalize F r 0 = x0, F r 1 = x1, F r 2 = x2, F r 3 = x3, F r 4 = x4, F r 5 = x5, F r 6 = x6 at H1 H2
            have HS := Lib.hid hst; clear hst
            go_wp2_with fail
            refine H1.out.mono ?_
            rintro e w5 ⟨rfl, hb5⟩
            have HS := Lib.hid (HS.out.below hb5); clear hb5
            go_wp2_with fail
            refine (H2.out _ HS.out).mono ?_
            rintro e w6 ⟨rfl, hb6⟩
            have HS := Lib.hid (HS.out.below hb6); clear hb6
            clear H1 H2
            go_wp2_with fail
            go_roundw
            case rel => exact ⟨r + 1, by omega, by go_num, HS.out⟩
            case measure => simp [intOf]; omega
          · have H1 := Lib.hid (fun W (h : Gs w W g g' K own F F) => stable_any g K own F W h.f hoK)
            have H2 := Lib.hid (fun W (h : Gs w W g g' K own F F) => stable_any g' K own F W h.r hoK)
            unfold depsV at H1 H2
            generalize FrontP.stable F K own = st at H1 H2
            have HS := Lib.hid hst; clear hst
            go_wp2_with fail
            refine (H1.out _ HS.out).mono ?_
            rintro e w5 ⟨rfl, hb5⟩
            have HS := Lib.hid (HS.out.below hb5); clear hb5
            go_wp2_with fail
            refine (H2.out _ HS.out).mono ?_
            rintro e w6 ⟨rfl, hb6⟩
            have HS := Lib.hid (HS.out.below hb6); clear hb6
            go_wp2_with fail
            refine (frontRuns_any _).mono ?_
            rintro e w7 ⟨rfl, hb7⟩
            have HS := Lib.hid (HS.out.below hb7); clear hb7
            go_wp2_with fail
            go_ret
            exact ⟨rfl, HS.out.bel⟩
theorem frontOrder_rows (n me : Int) (a : Option Addr) (len cap : Nat) (V : Nat → List Value) (turn : Int) (w : World) (hn : (Lit.int .i64 n).wf = true) (hme : (Lit.int .i64 me).wf = true) (hV : IsRows w a len 8 V) (hk : ∀ i, i < len → AllOk (List.replicate 8 (.int .i64)) (V i)) (hlc : len ≤ cap) (htu : (Lit.int .i64 turn).wf = true) :
    Calls Try.prog 6 #[.int .i64 n, .int .i64 me, .slice a len cap, .int .i64 turn] w fun e w' => e = .returned (.bool true) ∧ Below w.heap.size w w' :=
  frontOrder_any n me a len cap _ _ turn w hn hme (asks_of_rows hV hk) hlc htu
end Go.Proofs.Ytfjllpnmkbfheaa
