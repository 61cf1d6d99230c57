/-
  The walk of FrontAll.
-/
import Derived.Test.YtfjllpnmkbfheaaFrontPlaysW
import Derived.Test.YtfjllpnmkbfheaaBook
import Derived.Deep.RegionHeld3
import Derived.IntWalk
import Derived.Lib.ItoaWalk
import Derived.Lib.QuietBelow
namespace Go.Proofs.Ytfjllpnmkbfheaa
open Go.RowKit

theorem wf64 {n : Int} (h : (Lit.int .i64 n).wf = true) : -9223372036854775808 ≤ n ∧ n ≤ 9223372036854775807 := by
  simp [Lit.wf, IntKind.min, IntKind.max, IntKind.signed, IntKind.bits] at h
  omega
/-- The front, and a box of slots beside it, in a world that leaves what was before as it was. -/
structure A1 (w W : World) (g n me : Nat) (F : FrontP.Fr) (bw : Nat) (st : Nat → Int) : Prop where
  bel : Below w.heap.size w W
  f : FrontAt W g 44 n me F
  h : Holds W bw 28 (depCells st)
  ge : w.heap.size ≤ g
  ge2 : w.heap.size ≤ bw
  ne : bw ≠ g
theorem A1.below {w W W' : World} {g n me bw : Nat} {F : FrontP.Fr} {st : Nat → Int} (h : A1 w W g n me F bw st) (hb : Below W.heap.size W W') : A1 w W' g n me F bw st :=
  ⟨h.bel.trans (hb.mono h.bel.size), h.f.below hb h.f.lt, h.h.below hb h.h.lt, h.ge, h.ge2, h.ne⟩
theorem A1.touch {w W W' : World} {g n me bw b : Nat} {F : FrontP.Fr} {st : Nat → Int} (h : A1 w W g n me F bw st) (ht : Touch b W W') (hb : w.heap.size ≤ b) (h1 : b ≠ g) (h2 : b ≠ bw) : A1 w W' g n me F bw st :=
  ⟨h.bel.trans (ht.below hb h.bel.size), ⟨h.f.h.touch ht (Ne.symm h1), h.f.n7⟩, h.h.touch ht (Ne.symm h2), h.ge, h.ge2, h.ne⟩
theorem A1.set7 {w W : World} {g n me bw : Nat} {F : FrontP.Fr} {st : Nat → Int} (h : A1 w W g n me F bw st) (s : Nat → Int) :
    A1 w (((((((W.setCell ⟨bw, 0, none⟩ (.int .i64 (s 0))).setCell ⟨bw, 1, none⟩ (.int .i64 (s 1))).setCell ⟨bw, 2, none⟩ (.int .i64 (s 2))).setCell ⟨bw, 3, none⟩ (.int .i64 (s 3))).setCell ⟨bw, 4, none⟩ (.int .i64 (s 4))).setCell ⟨bw, 5, none⟩ (.int .i64 (s 5))).setCell ⟨bw, 6, none⟩ (.int .i64 (s 6))) g n me F bw s := by
  have ht := (((((((Touch.refl bw W).setCell 0 (.int .i64 (s 0))).setCell 1 (.int .i64 (s 1))).setCell 2 (.int .i64 (s 2))).setCell 3 (.int .i64 (s 3))).setCell 4 (.int .i64 (s 4))).setCell 5 (.int .i64 (s 5))).setCell 6 (.int .i64 (s 6))
  refine ⟨h.bel.trans (ht.below h.ge2 h.bel.size), ⟨h.f.h.touch ht (Ne.symm h.ne), h.f.n7⟩, ?_, h.ge, h.ge2, h.ne⟩
  have := ((((((h.h.set 0 (.int .i64 (s 0))).set 1 (.int .i64 (s 1))).set 2 (.int .i64 (s 2))).set 3 (.int .i64 (s 3))).set 4 (.int .i64 (s 4))).set 5 (.int .i64 (s 5))).set 6 (.int .i64 (s 6))
  simpa [depCells] using this
/-- .. and a second box. -/
structure A2 (w W : World) (g n me : Nat) (F : FrontP.Fr) (bw : Nat) (st : Nat → Int) (bd : Nat) (D : Nat → Int) : Prop where
  a : A1 w W g n me F bw st
  h : Holds W bd 28 (depCells D)
  ge : w.heap.size ≤ bd
  ne1 : bd ≠ g
  ne2 : bd ≠ bw
theorem A2.below {w W W' : World} {g n me bw bd : Nat} {F : FrontP.Fr} {st D : Nat → Int} (h : A2 w W g n me F bw st bd D) (hb : Below W.heap.size W W') : A2 w W' g n me F bw st bd D :=
  ⟨h.a.below hb, h.h.below hb h.h.lt, h.ge, h.ne1, h.ne2⟩
theorem A2.set {w W : World} {g n me bw bd : Nat} {F : FrontP.Fr} {st D : Nat → Int} (h : A2 w W g n me F bw st bd D) (r : Nat) (v : Int) (hr : r < 7) : A2 w (W.setCell ⟨bd, r, none⟩ (.int .i64 v)) g n me F bw st bd (fun i => if i = r then v else D i) :=
  ⟨h.a.touch ((Touch.refl bd W).setCell r _) h.ge h.ne1 h.ne2, by rw [← set_deps D r v hr]; exact h.h.set r _, h.ge, h.ne1, h.ne2⟩
/-- The second box into the first. -/
theorem A2.hear {w W : World} {g n me bw bd : Nat} {F : FrontP.Fr} {st D : Nat → Int} (h : A2 w W g n me F bw st bd D) (r : Int) :
    Calls Try.prog 8 #[.pointer (some ⟨g, 0, none⟩), .int .i64 r, .agg #[.int .i64 (D 0), .int .i64 (D 1), .int .i64 (D 2), .int .i64 (D 3), .int .i64 (D 4), .int .i64 (D 5), .int .i64 (D 6)]] W fun e w' =>
      e = .returned (.bool (FrontP.takes n r D)) ∧ ∃ F', A2 w w' g n me F' bw st bd D ∧ ∀ q i, F q i ≤ F' q i := by
  refine (hear_any g n me r F D W h.a.f).mono ?_
  rintro e w' ⟨rfl, hf, ht⟩
  refine ⟨rfl, _, ⟨⟨h.a.bel.trans (ht.below h.a.ge h.a.bel.size), hf, h.a.h.touch ht h.a.ne, h.a.ge, h.a.ge2, h.a.ne⟩, h.h.touch ht h.ne1, h.ge, h.ne1, h.ne2⟩, fun q i => ?_⟩
  unfold FrontP.heard
  split
  · unfold FrontP.hear FrontP.hearTo
    split
    · unfold FrontP.mx; split <;> omega
    · exact Int.le_refl _
  · exact Int.le_refl _
theorem stable_mono (F F' : FrontP.Fr) (n me : Nat) (hme : me < n) (h : ∀ q i, F q i ≤ F' q i) (i : Nat) : FrontP.stable F n me i ≤ FrontP.stable F' n me i := by
  obtain ⟨q, hq, e⟩ := FrontP.stable_is F' n me i hme
  rw [e]
  exact Int.le_trans (FrontP.stable_le F n me i q hq) (h q i)
/-- Is the number one of the first q rows'? -/
def justTo (F : FrontP.Fr) (i : Nat) (v : Int) : Nat → Bool
  | 0 => false
  | q + 1 => justTo F i v q || F q i == v
theorem justTo_of (F : FrontP.Fr) (i : Nat) (v : Int) (n q : Nat) (hq : q < n) (h : F q i = v) : justTo F i v n = true := by
  induction n with
  | zero => omega
  | succ n ih =>
    unfold justTo
    by_cases hqn : q = n
    · subst hqn; simp [h]
    · rw [ih (by omega)]; rfl

set_option maxRecDepth 4000 in
set_option maxHeartbeats 1000000 in
theorem frontAll_any (n me : Int) (a : Option Addr) (len cap : Nat) (who : Nat → Int) (d : Nat → Nat → Int) (w : World) (hn : (Lit.int .i64 n).wf = true) (hme : (Lit.int .i64 me).wf = true) (hA : Asks w a len who d) (_hlc : len ≤ cap) :
    Calls Try.prog 5 #[.int .i64 n, .int .i64 me, .slice a len cap] w fun e w' => e = .returned (.bool true) ∧ Below w.heap.size w w' := by
  have HA := Lib.hid hA; clear hA
  go_enter Try.func5, Try.ntmps5
  go_wp2_with fail
  refine (within_nat n 0 2 _ (wf64 hn) (by omega) (by omega) (by omega)).mono ?_
  rintro e w1 ⟨⟨k0, hk0, hk2, rfl⟩, hw1⟩
  have hL : Holds w1 w.heap.size 3 [.int .i64 3, .int .i64 5, .int .i64 7] := by rw [← hw1]; exact holds_alloc w _ _
  have HB1 := Lib.hid (show Below w.heap.size w w1 by rw [← hw1]; go_grown)
  clear hw1
  obtain ⟨K, hK, hc0⟩ : ∃ K : Nat, (K = 3 ∨ K = 5 ∨ K = 7) ∧ w1.cell? ⟨w.heap.size, k0, none⟩ = some (.int .i64 K) := by
    rcases (show k0 = 0 ∨ k0 = 1 ∨ k0 = 2 by omega) with rfl | rfl | rfl
    · exact ⟨3, by omega, hL.cell 0⟩
    · exact ⟨5, by omega, hL.cell 1⟩
    · exact ⟨7, by omega, hL.cell 2⟩
  have HK := Lib.hid hK
  have hK1 : 3 ≤ K := by omega
  have hK7 : K ≤ 7 := by omega
  clear hK hL
  go_wp2_with fail
  refine (within_nat me 0 ((K : Int) - 1) _ (wf64 hme) (by omega) (by omega) (by omega)).mono ?_
  rintro e w2 ⟨⟨own, ho0, ho1, rfl⟩, rfl⟩
  clear hc0
  have hoK : own < K := by omega
  go_wp2_with fail
  refine (new_in K own w1 HK.out hoK).mono ?_
  rintro e w2 ⟨g, rfl, hg, hf, hb2⟩
  have hsz1 := HB1.out.size
  have HF := Lib.hid hf
  have HB2 := Lib.hid (HB1.out.trans (hb2.mono hsz1))
  have hsz2 := hb2.size
  clear hb2 hf
  have hsm := HA.out.small
  have hbw : Holds (w2.alloc (.cells #[.int .i64 0, .int .i64 0, .int .i64 0, .int .i64 0, .int .i64 0, .int .i64 0, .int .i64 0] 28)) w2.heap.size 28 (depCells fun _ => 0) := holds_alloc w2 _ _
  have hA1 : A1 w (w2.alloc (.cells #[.int .i64 0, .int .i64 0, .int .i64 0, .int .i64 0, .int .i64 0, .int .i64 0, .int .i64 0] 28)) g K own (fun _ _ => 0) w2.heap.size (FrontP.stable (fun _ _ => 0) K own) :=
    ⟨HB2.out.trans ((show Below w2.heap.size w2 _ by go_grown).mono HB2.out.size), HF.out.below (B := w2.heap.size) (by go_grown) HF.out.lt, by
      have e : FrontP.stable (fun _ _ => 0) K own = fun _ => 0 := by
        funext i
        obtain ⟨q, _, e⟩ := FrontP.stable_is (fun _ _ => 0) K own i hoK
        exact e
      rw [e]; exact hbw, by omega, HB2.out.size, by have := HF.out.lt; omega⟩
  have HA1 := Lib.hid hA1
  obtain ⟨bw, hbwe⟩ : ∃ bw, bw = w2.heap.size := ⟨_, rfl⟩
  go_wp2_with fail
  rw [← hbwe] at HA1 ⊢
  have HBW := Lib.hid hbwe
  clear hbw hA1 HF HB2 hsz1 hsz2 hg HB1 hbwe
  go_loopw [11] (fun i wr => ∃ (k : Nat) (F : FrontP.Fr), k ≤ len ∧ k ≤ 40 ∧ i = .int .i64 k ∧ A1 w wr g K own F bw (FrontP.stable F K own)) (fun i _ => 40 - (intOf i).toNat)
  case atStart => exact ⟨0, _, by omega, by omega, rfl, HA1.out⟩
  case round =>
    clear HA1 HBW hn hme
    obtain ⟨k, F, hk, hk40, rfl, hst⟩ := hrel
    by_cases hlt : k < len ∧ k < 40
    · obtain ⟨hlt, hlt2⟩ := hlt
      obtain ⟨b, off, rfl, -⟩ := HA.out.spot (by omega)
      have hde1 : decide ((k : Int) < (len : Int)) = true := by simp; omega
      have hde2 : decide ((k : Int) < 40) = true := by simp; omega
      have hmono := fun F' (h : ∀ q i, F q i ≤ F' q i) => stable_mono F F' K own hoK h
      have HMONO := Lib.hid hmono; clear hmono
      generalize FrontP.stable F K own = st at hst HMONO
      obtain ⟨c0, c1, c2, c3, c4, c5, c6, c7⟩ := HA.out.cells hst.bel rfl hlt
      have hwd := fun j (hj : j < 7) => wf64 (HA.out.wfd k hlt j hj)
      have hww := wf64 (HA.out.wfw k hlt)
      have HWW := Lib.hid hww; clear hww
      generalize hdk : d k = dk at *
      have hA2 : A2 w (wr.alloc (.cells #[.int .i64 (dk 0), .int .i64 (dk 1), .int .i64 (dk 2), .int .i64 (dk 3), .int .i64 (dk 4), .int .i64 (dk 5), .int .i64 (dk 6)] 28)) g K own F bw st wr.heap.size dk :=
        ⟨hst.below (by go_grown), holds_alloc wr _ _, hst.bel.size, by have := hst.f.lt; omega, by have := hst.h.lt; omega⟩
      have HA2 := Lib.hid hA2
      obtain ⟨bd, hbd⟩ : ∃ bd, bd = wr.heap.size := ⟨_, rfl⟩
      go_wp2_with fail
      rw [← hbd] at HA2 ⊢
      have HWD := Lib.hid hwd
      clear hA2 hst c0 c1 c2 c3 c4 c5 c6 c7 hbd hwd hdk
      go_loopw [13] (fun i wr2 => ∃ (r : Nat) (D : Nat → Int), r ≤ 7 ∧ i = .int .i64 r ∧ A2 w wr2 g K own F bw st bd D ∧ ∀ j, j < 7 → -9223372036854775808 ≤ D j ∧ D j ≤ 9223372036854775807) (fun i _ => 7 - (intOf i).toNat)
      case atStart => exact ⟨0, dk, by omega, rfl, HA2.out, HWD.out⟩
      case round =>
        clear HA2 HWD
        obtain ⟨r, D, hr, rfl, hst, hwd⟩ := hrel
        by_cases hr7 : r < 7
        · have c0 := hst.h.cell r
          rw [getElem_deps D r hr7] at c0
          have cf := hst.h.free r
          have hdr := hwd r hr7
          have HS := Lib.hid (fun v => hst.set r v hr7)
          have HWD := Lib.hid hwd
          clear hst hwd
          generalize hx : D r = x at c0 hdr
          clear hx
          go_wp2_with fail
          refine (within_nat x 0 20 _ hdr (by omega) (by omega) (by omega)).mono ?_
          rintro e w5 ⟨⟨v, hv0, hv20, rfl⟩, rfl⟩
          go_wp2_with fail
          go_roundw
          case rel =>
            refine ⟨r + 1, _, by omega, ?_, HS.out v, ?_⟩
            · go_num
            · intro j hj
              by_cases hjr : j = r
              · rw [if_pos hjr]; omega
              · rw [if_neg hjr]; exact HWD.out j hj
          case measure => simp [intOf]; omega
        · have hr77 : r = 7 := by omega
          subst hr77
          clear hwd hr7 hr
          have H1 := Lib.hid (fun W y (h : A2 w W g K own F bw st bd D) => h.hear y)
          have HK := Lib.hid (fun W F (h : A2 w W g K own F bw st bd D) => And.intro (HA.out.cells h.a.bel rfl hlt).1 (And.intro (h.h.cell 0) (And.intro (h.h.cell 1) (And.intro (h.h.cell 2) (And.intro (h.h.cell 3) (And.intro (h.h.cell 4) (And.intro (h.h.cell 5) (h.h.cell 6))))))))
          simp only [depCells, List.getElem?_cons_zero, List.getElem?_cons_succ] at HK
          have hst0 : A2 w (World.drew _) g K own F bw st bd D := hst.below ⟨rfl, rfl, rfl, Nat.le_refl _, fun _ _ => rfl⟩
          go_upto_region 14 with (fail)
          clear hst
          generalize who k = y at HK HWW
          generalize hD0 : D 0 = x0, hD1 : D 1 = x1, hD2 : D 2 = x2, hD3 : D 3 = x3, hD4 : D 4 = x4, hD5 : D 5 = x5, hD6 : D 6 = x6 at H1 HK
          clear hD0 hD1 hD2 hD3 hD4 hD5 hD6
          have hwi := fun W => within_any y 0 ((K : Int) - 1) W HWW.out (by omega) (by omega) (by omega)
          generalize 0 + y % ((K : Int) - 1 - 0 + 1) = z at hwi
          have HWI := Lib.hid hwi; clear hwi
          have H2 := Lib.hid (fun W (h : A2 w W g K own F bw st bd D) => H1.out W z h)
          have hwk : IntKind.i64.wrap ((K : Int) - 1) = (K : Int) - 1 := IntWalk.i64_in _ (by omega)
          clear H1 HWW
          go_region_held3 (fun W => W.cell? ⟨b, off + k * 8, none⟩ = some (.int .i64 y) ∧ W.cell? ⟨bd, 0, none⟩ = some (.int .i64 x0) ∧ W.cell? ⟨bd, 1, none⟩ = some (.int .i64 x1) ∧ W.cell? ⟨bd, 2, none⟩ = some (.int .i64 x2) ∧ W.cell? ⟨bd, 3, none⟩ = some (.int .i64 x3) ∧ W.cell? ⟨bd, 4, none⟩ = some (.int .i64 x4) ∧ W.cell? ⟨bd, 5, none⟩ = some (.int .i64 x5) ∧ W.cell? ⟨bd, 6, none⟩ = some (.int .i64 x6))
            (exact HK.out _ _ (by assumption))
            (first
              | (go_at_call 13; refine (HWI.out _).mono ?_; rintro e w' ⟨rfl, rfl⟩)
              | (go_at_call 8; refine (H2.out _ (by assumption)).mono ?_; rintro e w' ⟨rfl, F', hstn, hge⟩))
          clear hwk HWI H2 HK hst0
          have HM2 := HMONO.out F' hge
          have H3 := Lib.hid (fun W (h : A1 w W g K own F' bw st) => stable_any g K own F' W h.f hoK)
          have hle := fun q i (hq : q < K) => FrontP.stable_le F' K own i q hq
          have his := fun i => FrontP.stable_is F' K own i hoK
          unfold depsV at H3
          generalize hst' : FrontP.stable F' K own = st' at *
          have HST' := Lib.hid hst'; clear hst'
          have HLE := Lib.hid hle; clear hle
          have HIS := Lib.hid his; clear his
          have HM3 := Lib.hid HM2; clear HM2
          have HA1 := Lib.hid hstn.a
          clear hstn hge HMONO
          go_wp2_with fail
          refine (H3.out _ HA1.out).mono ?_
          rintro e w5 ⟨rfl, hb5⟩
          have HA1 := Lib.hid (HA1.out.below hb5); clear hb5 H3
          have hA2 : A2 w (w5.alloc (.cells #[.int .i64 (st' 0), .int .i64 (st' 1), .int .i64 (st' 2), .int .i64 (st' 3), .int .i64 (st' 4), .int .i64 (st' 5), .int .i64 (st' 6)] 28)) g K own F' bw st w5.heap.size st' :=
            ⟨HA1.out.below (by go_grown), holds_alloc w5 _ _, HA1.out.bel.size, by have := HA1.out.f.lt; omega, by have := HA1.out.h.lt; omega⟩
          have HA2 := Lib.hid hA2
          obtain ⟨bn, hbn⟩ : ∃ bn, bn = w5.heap.size := ⟨_, rfl⟩
          go_wp2_with fail
          rw [← hbn] at HA2 ⊢
          clear hA2 hbn HA1
          go_loopw [15] (fun i wr3 => ∃ r : Nat, r ≤ 7 ∧ i = .int .i64 r ∧ A2 w wr3 g K own F' bw st bn st') (fun i _ => 7 - (intOf i).toNat)
          case atStart => exact ⟨0, by omega, rfl, HA2.out⟩
          case round =>
            clear HA2
            obtain ⟨r, hr, rfl, hst⟩ := hrel
            by_cases hr7 : r < 7
            · have HS := Lib.hid hst; clear hst
              go_wp2_with fail
              go_loopw [16, 17] (fun ju q wr4 => ∃ q' : Nat, q' ≤ K ∧ q = .int .i64 q' ∧ ju = .bool (justTo F' r (st' r) q') ∧ A2 w wr4 g K own F' bw st bn st') (fun _ q _ => K - (intOf q).toNat)
              case atStart => exact ⟨0, by omega, rfl, rfl, HS.out⟩
              case round =>
                clear HS
                obtain ⟨q, hq, rfl, rfl, hst⟩ := hrel
                by_cases hqK : q < K
                · have hd0 : decide (F' q r < st' r) = false := by have := HLE.out q r hqK; simp; omega
                  have hix := fun W => idx_deps (F' q) r hr7 W
                  have hh := fun W' (h : Below wr.heap.size wr W') => of_in g K own q F' W' (hst.below h).a.f hqK
                  unfold depsV at hh
                  have HH := Lib.hid hh; clear hh
                  have a0 := fun d os => hst.h.grown d os r
                  simp only [getElem_deps st' r hr7] at a0
                  have HS := Lib.hid hst; clear hst
                  go_upto_region 23 with (fail)
                  refine wp_region_quiet_below (by kernel_rfl) (by kernel_rfl) ?_
                  repeat go_big_quiet_step (first | (go_at_call 12; with_reducible exact calls_regrown HH.out))
                  refine wpQuiet_nil ?_
                  intro w6 hw'
                  have hst6 := HS.out.below (below_of_regrown hw')
                  clear hw' a0 HH HS
                  by_cases hj : justTo F' r (st' r) q = true
                  · rw [hj]
                    have hjn : justTo F' r (st' r) (q + 1) = true := by unfold justTo; rw [hj]; rfl
                    have HJN := Lib.hid hjn; clear hjn
                    have HS := Lib.hid hst6; clear hst6
                    go_upto_region 25 with (fail)
                    refine wp_region_quiet_below (by kernel_rfl) (by kernel_rfl) ?_
                    repeat go_big_quiet_step (fail)
                    refine wpQuiet_nil ?_
                    intro w7 hw'
                    have hst7 := HS.out.below (below_of_regrown hw')
                    have HS := Lib.hid hst7
                    clear hw' hst7
                    go_wp2_with fail
                    go_roundw
                    case rel => exact ⟨q + 1, by omega, by go_num, by rw [HJN.out], HS.out⟩
                    case measure => simp [intOf]; omega
                  · have hj : justTo F' r (st' r) q = false := by simpa using hj
                    rw [hj]
                    have hjn : justTo F' r (st' r) (q + 1) = (F' q r == st' r) := by
                      conv => lhs; unfold justTo
                      rw [hj]; rfl
                    have HJN := Lib.hid hjn; clear hjn
                    have hh := fun W' (h : Below w6.heap.size w6 W') => of_in g K own q F' W' (hst6.below h).a.f hqK
                    unfold depsV at hh
                    have HH := Lib.hid hh; clear hh
                    have a0 := fun d os => hst6.h.grown d os r
                    simp only [getElem_deps st' r hr7] at a0
                    have HS := Lib.hid hst6; clear hst6
                    go_upto_region 25 with (fail)
                    refine wp_region_quiet_below (by kernel_rfl) (by kernel_rfl) ?_
                    repeat go_big_quiet_step (first | (go_at_call 12; with_reducible exact calls_regrown HH.out))
                    refine wpQuiet_nil ?_
                    intro w7 hw'
                    have hst7 := HS.out.below (below_of_regrown hw')
                    have HS := Lib.hid hst7
                    clear hw' hst7
                    go_wp2_with fail
                    go_roundw
                    case rel => exact ⟨q + 1, by omega, by go_num, by rw [HJN.out], HS.out⟩
                    case measure => simp [intOf]; omega
                · have hjK : justTo F' r (st' r) q = true := by
                    have hqK' : q = K := by omega
                    rw [hqK']
                    obtain ⟨q', hq', e⟩ := HIS.out r
                    exact justTo_of F' r _ K q' hq' e.symm
                  rw [hjK]
                  have hd1 : decide (st' r < st r) = false := by have := HM3.out r; simp; omega
                  have a0 := fun d os => hst.h.grown d os r
                  have a1 := fun d os => hst.a.h.grown d os r
                  simp only [getElem_deps st' r hr7] at a0
                  simp only [getElem_deps st r hr7] at a1
                  have HS := Lib.hid hst; clear hst
                  go_upto_region 26 with (fail)
                  refine wp_region_quiet_below (by kernel_rfl) (by kernel_rfl) ?_
                  repeat go_big_quiet_step (fail)
                  refine wpQuiet_nil ?_
                  intro w7 hw'
                  have hst7 := HS.out.below (below_of_regrown hw')
                  have HS := Lib.hid hst7
                  clear hw' hst7 a0 a1 hd1 hjK
                  go_wp2_with fail
                  go_roundw
                  case rel => exact ⟨r + 1, by omega, by go_num, HS.out⟩
                  case measure => simp [intOf]; omega
            · have c0 := hst.h.cell 0
              have c1 := hst.h.cell 1
              have c2 := hst.h.cell 2
              have c3 := hst.h.cell 3
              have c4 := hst.h.cell 4
              have c5 := hst.h.cell 5
              have c6 := hst.h.cell 6
              have f0 := fun i => hst.a.h.free i
              have e0 := hst.a.h.cell 0
              have e1 := hst.a.h.cell 1
              have e2 := hst.a.h.cell 2
              have e3 := hst.a.h.cell 3
              have e4 := hst.a.h.cell 4
              have e5 := hst.a.h.cell 5
              have e6 := hst.a.h.cell 6
              simp only [depCells, List.getElem?_cons_zero, List.getElem?_cons_succ] at c0 c1 c2 c3 c4 c5 c6 e0 e1 e2 e3 e4 e5 e6
              have HS := Lib.hid hst; clear hst
              have HA := Lib.hid (HS.out.a.set7 st')
              go_wp2_with fail
              refine ⟨⟨k + 1, F', by omega, by omega, by go_num, ?_⟩, by simp [intOf]; omega⟩
              rw [HST'.out]
              exact HA.out
    · have HS := Lib.hid hst; clear hst
      rcases (show ¬ k < len ∨ (k < len ∧ ¬ k < 40) by omega) with hl | ⟨hl, hl4⟩
      · have hde1 : decide ((k : Int) < (len : Int)) = false := by simp; omega
        clear hlt
        go_wp2_with fail
        refine (frontRuns_any _).mono ?_
        rintro e w7 ⟨rfl, hb7⟩
        have HS := Lib.hid (HS.out.below hb7); clear hb7
        go_wp2_with fail
        go_ret
        exact ⟨rfl, HS.out.bel⟩
      · have hde1 : decide ((k : Int) < (len : Int)) = true := by simp; omega
        have hde2 : decide ((k : Int) < 40) = false := by simp; omega
        clear hlt
        go_wp2_with fail
        refine (frontRuns_any _).mono ?_
        rintro e w7 ⟨rfl, hb7⟩
        have HS := Lib.hid (HS.out.below hb7); clear hb7
        go_wp2_with fail
        go_ret
        exact ⟨rfl, HS.out.bel⟩
theorem frontAll_rows (n me : Int) (a : Option Addr) (len cap : Nat) (V : Nat → List Value) (w : World) (hn : (Lit.int .i64 n).wf = true) (hme : (Lit.int .i64 me).wf = true) (hV : IsRows w a len 8 V) (hk : ∀ i, i < len → AllOk (List.replicate 8 (.int .i64)) (V i)) (hlc : len ≤ cap) :
    Calls Try.prog 5 #[.int .i64 n, .int .i64 me, .slice a len cap] w fun e w' => e = .returned (.bool true) ∧ Below w.heap.size w w' :=
  frontAll_any n me a len cap _ _ w hn hme (asks_of_rows hV hk) hlc
end Go.Proofs.Ytfjllpnmkbfheaa
