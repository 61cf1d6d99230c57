/-
  The walk of ClientOther.
-/
import Derived.Test.YtkojfgebdoojnaaClRoundW
import Derived.Test.YtkojfgebdoojnaaCellRows
namespace Go.Proofs.Ytkojfgebdoojnaa
open Go.RowKit
set_option linter.unusedVariables false

theorem IsRows.spot {w : World} {a : Option Addr} {len n : Nat} {V : Nat → List Value} (h : IsRows w a len n V) (h0 : 0 < len) : ∃ b off, a = some ⟨b, off, none⟩ ∧ b < w.heap.size := by
  obtain ⟨b, off, ha, hlt, _⟩ := h.2.2 h0
  exact ⟨b, off, ha, hlt⟩
theorem IsRows.at {w W : World} {b off len n : Nat} {V : Nat → List Value} (h : IsRows w (some ⟨b, off, none⟩) len n V) (hbl : Below w.heap.size w W) {k : Nat} (hk : k < len) (j : Nat) (hj : j < n) : W.cell? ⟨b, off + k * n + j, none⟩ = (V k)[j]? := by
  obtain ⟨b', off', ha, hlt, hc⟩ := h.2.2 (by omega)
  simp only [Option.some.injEq, Addr.mk.injEq] at ha
  obtain ⟨rfl, rfl, _⟩ := ha
  rw [hbl.cell (p := ⟨b, _, none⟩) hlt]
  exact hc k hk j hj
def cmdLeaves : List Leaf := [.int .i64, .int .i64, .int .i64, .string, .string, .string, .string]
def ansLeaves : List Leaf := [.int .i64, .int .i64, .int .i64, .bool, .string, .int .i64, .slice]
theorem cm_of {l : List Value} (h : AllOk cmdLeaves l) : ∃ x : Cm, l = x.cells := by
  unfold cmdLeaves at h
  obtain ⟨_, _, rfl, ⟨k, rfl, _⟩, h0⟩ := h.cons
  obtain ⟨_, _, rfl, ⟨c, rfl, _⟩, h1⟩ := h0.cons
  obtain ⟨_, _, rfl, ⟨s, rfl, _⟩, h2⟩ := h1.cons
  obtain ⟨_, _, rfl, ⟨a, rfl, _⟩, h3⟩ := h2.cons
  obtain ⟨_, _, rfl, ⟨b, rfl, _⟩, h4⟩ := h3.cons
  obtain ⟨_, _, rfl, ⟨o, rfl, _⟩, h5⟩ := h4.cons
  obtain ⟨_, _, rfl, ⟨v, rfl, _⟩, h6⟩ := h5.cons
  obtain rfl := h6.nil
  exact ⟨⟨k, c, s, a, b, o, v⟩, rfl⟩
theorem an_of {l : List Value} (h : AllOk ansLeaves l) : ∃ (c s y : Int) (f : Bool) (v : ByteArray) (r : Int) (p : Option Addr) (pl pc : Nat), l = [.int .i64 c, .int .i64 s, .int .i64 y, .bool f, .string v, .int .i64 r, .slice p pl pc] := by
  unfold ansLeaves at h
  obtain ⟨_, _, rfl, ⟨c, rfl, _⟩, h0⟩ := h.cons
  obtain ⟨_, _, rfl, ⟨s, rfl, _⟩, h1⟩ := h0.cons
  obtain ⟨_, _, rfl, ⟨y, rfl, _⟩, h2⟩ := h1.cons
  obtain ⟨_, _, rfl, ⟨f, rfl⟩, h3⟩ := h2.cons
  obtain ⟨_, _, rfl, ⟨v, rfl, _⟩, h4⟩ := h3.cons
  obtain ⟨_, _, rfl, ⟨r, rfl, _⟩, h5⟩ := h4.cons
  obtain ⟨_, _, rfl, ⟨p, pl, pc, rfl⟩, h6⟩ := h5.cons
  obtain rfl := h6.nil
  exact ⟨c, s, y, f, v, r, p, pl, pc, rfl⟩
/-- The client that waits for nothing. -/
structure Co (w W : World) (g : Nat) (d n : Int) : Prop where
  bel : Below w.heap.size w W
  c : ∃ x tg t, CAt W g d n x false tg t
  ge : w.heap.size ≤ g
theorem Co.below {w W W' : World} {g : Nat} {d n : Int} (h : Co w W g d n) (hb : Below W.heap.size W W') : Co w W' g d n := by
  obtain ⟨x, tg, t, hc⟩ := h.c
  exact ⟨h.bel.trans (hb.mono h.bel.size), ⟨x, tg, t, hc.below hb hc.lt⟩, h.ge⟩
/-- The client and the box of its call. -/
structure Cw (w W : World) (g bx : Nat) (d n : Int) (z : Cm) (waits : Bool) (tg : Int) : Prop where
  bel : Below w.heap.size w W
  c : CAt W g d n z waits tg 0
  h : Holds W bx 27 z.cells
  ge : w.heap.size ≤ g
  ge2 : w.heap.size ≤ bx
  ne : bx ≠ g
theorem Cw.below {w W W' : World} {g bx : Nat} {d n : Int} {z : Cm} {waits : Bool} {tg : Int} (h : Cw w W g bx d n z waits tg) (hb : Below W.heap.size W W') : Cw w W' g bx d n z waits tg :=
  ⟨h.bel.trans (hb.mono h.bel.size), h.c.below hb h.c.lt, h.h.below hb h.h.lt, h.ge, h.ge2, h.ne⟩
theorem Cw.touch {w W W' : World} {g bx : Nat} {d n : Int} {z : Cm} {waits waits' : Bool} {tg : Int} (h : Cw w W g bx d n z waits tg) (ht : Touch g W W') (hc : CAt W' g d n z waits' tg 0) : Cw w W' g bx d n z waits' tg :=
  ⟨h.bel.trans (ht.below h.ge h.bel.size), hc, h.h.touch ht h.ne, h.ge, h.ge2, h.ne⟩
set_option maxRecDepth 4000 in
set_option maxHeartbeats 4000000 in
theorem clientOther_any (id : Int) (a : Option Addr) (len cap : Nat) (V : Nat → List Value) (a2 : Option Addr) (len2 cap2 : Nat) (V2 : Nat → List Value) (w : World) (hid : (Lit.int .i64 id).wf = true)
    (hV : IsRows w a len 7 V) (hA : ∀ i, i < len → AllOk cmdLeaves (V i)) (hlc : len ≤ cap) (hV2 : IsRows w a2 len2 7 V2) (hA2 : ∀ i, i < len2 → AllOk ansLeaves (V2 i)) (hlc2 : len2 ≤ cap2) :
    Calls Try.prog 6 #[.int .i64 id, .slice a len cap, .slice a2 len2 cap2] w fun e w' => e = .returned (.bool true) ∧ Below w.heap.size w w' := by
  have HV := Lib.hid hV; have HA := Lib.hid hA; have HV2 := Lib.hid hV2; have HA2 := Lib.hid hA2
  have hm : len ≤ maxLen := hV.1
  have hm2 : len2 ≤ maxLen := hV2.1
  unfold maxLen at hm hm2
  clear hV hA hV2 hA2
  go_enter Try.func6, Try.ntmps6
  go_wp2_with fail
  refine (within_any id 1 8 w (wf64 hid) (by omega) (by omega) (by omega)).mono ?_
  rintro e w' ⟨rfl, rfl⟩
  obtain ⟨d, hd⟩ : ∃ d, d = 1 + id % (8 - 1 + 1) := ⟨_, rfl⟩
  rw [← hd]
  have hd1 : 1 ≤ d ∧ d ≤ 8 := by omega
  clear hd
  go_wp2_with fail
  refine (new_in d _ hd1).mono ?_
  rintro e w2 ⟨rfl, hc, hb2⟩
  have HCO := Lib.hid (show Co w w2 w.heap.size d 0 from ⟨hb2, ⟨_, _, _, hc⟩, Nat.le_refl _⟩)
  clear hc hb2
  generalize w.heap.size = g at HCO
  go_wp2_with fail
  go_loopw [10, 11] (fun n i wr => ∃ m j : Nat, m ≤ j ∧ j ≤ len ∧ j ≤ 20 ∧ n = .int .i64 m ∧ i = .int .i64 j ∧ Co w wr g d m) (fun _ i _ => 20 - (intOf i).toNat)
  case atStart => exact ⟨0, 0, by omega, by omega, by omega, rfl, rfl, HCO.out⟩
  case round =>
    clear HCO
    obtain ⟨m, j, hmj, hjl, hj20, rfl, rfl, hco⟩ := hrel
    obtain ⟨x, tg, t, hc⟩ := hco.c
    have hbel := hco.bel
    have hge := hco.ge
    have HCO := Lib.hid hco; clear hco
    by_cases h1 : j < len
    · by_cases h2 : j < 20
      · obtain ⟨b, off, rfl, hlt⟩ := HV.out.spot (by omega)
        obtain ⟨z, hz⟩ := cm_of (HA.out j h1)
        obtain ⟨zk, zc, zs, za, zb, zo, zv⟩ := z
        have k0 := HV.out.at hbel h1 0 (by omega)
        have k1 := HV.out.at hbel h1 1 (by omega)
        have k2 := HV.out.at hbel h1 2 (by omega)
        have k3 := HV.out.at hbel h1 3 (by omega)
        have k4 := HV.out.at hbel h1 4 (by omega)
        have k5 := HV.out.at hbel h1 5 (by omega)
        have k6 := HV.out.at hbel h1 6 (by omega)
        rw [hz] at k0 k1 k2 k3 k4 k5 k6
        simp only [Cm.cells, List.getElem?_cons_zero, List.getElem?_cons_succ, Nat.add_zero] at k0 k1 k2 k3 k4 k5 k6
        have h3 : ∀ tgt : Int, (0 ≤ tgt ∧ tgt < 7) → _ := fun tgt ht => begin_one g d m x ⟨zk, zc, zs, za, zb, zo, zv⟩ tg t tgt wr hc (by omega) ht
        simp only at h3
        have H3 := Lib.hid h3; clear h3 hc hz
        have HBL := Lib.hid hbel; clear hbel
        go_wp2_with fail
        refine (H3.out _ (by omega)).mono ?_
        rintro e w5 ⟨y, r, rfl, hc, ht⟩
        clear k0 k1 k2 k3 k4 k5 k6 H3
        rcases hc with ⟨rfl, rfl, hc⟩ | ⟨rfl, hc⟩
        · have hcw : ∀ W, W = w5.alloc (.cells #[.int .i64 zk, .int .i64 d, .int .i64 ((m : Int) + 1), .string za, .string zb, .string zo, .string zv] 27) → Cw w W g w5.heap.size d ((m : Int) + 1) ⟨zk, d, (m : Int) + 1, za, zb, zo, zv⟩ true ((j : Int) % 7) := by
            rintro W rfl
            have hs := ht.size
            have hs2 := HBL.out.size
            have hcl := hc.lt
            exact ⟨((HBL.out.trans (ht.below hge HBL.out.size))).alloc (by omega) _, holds_past hc _, holds_alloc w5 _ _, hge, by omega, by omega⟩
          have HCW := Lib.hid hcw
          clear hcw hc ht HBL HCO
          generalize hbx : w5.heap.size = bx at HCW
          go_wp2_with fail
          clear hbx
          go_loopw [14] (fun k wr => ∃ q : Nat, q ≤ len2 ∧ q ≤ 10 ∧ k = .int .i64 q ∧ Cw w wr g bx d ((m : Int) + 1) ⟨zk, d, (m : Int) + 1, za, zb, zo, zv⟩ true ((j : Int) % 7)) (fun k _ => 10 - (intOf k).toNat)
          case atStart => exact ⟨0, by omega, by omega, rfl, HCW.out _ rfl⟩
          case round =>
            clear HCW
            obtain ⟨q, hq, hq10, rfl, hcw⟩ := hrel
            by_cases h3 : q < len2
            · by_cases h4 : q < 10
              · obtain ⟨b2, off2, rfl, hlt2⟩ := HV2.out.spot (by omega)
                obtain ⟨ac, asq, ay, af, av, ar, ap, apl, apc, ha⟩ := an_of (HA2.out q h3)
                have k0 := HV2.out.at hcw.bel h3 0 (by omega)
                have k1 := HV2.out.at hcw.bel h3 1 (by omega)
                have k2 := HV2.out.at hcw.bel h3 2 (by omega)
                have k3 := HV2.out.at hcw.bel h3 3 (by omega)
                have k4 := HV2.out.at hcw.bel h3 4 (by omega)
                have k5 := HV2.out.at hcw.bel h3 5 (by omega)
                have k6 := HV2.out.at hcw.bel h3 6 (by omega)
                rw [ha] at k0 k1 k2 k3 k4 k5 k6
                simp only [List.getElem?_cons_zero, List.getElem?_cons_succ, Nat.add_zero] at k0 k1 k2 k3 k4 k5 k6
                clear ha
                have HCW := Lib.hid hcw; clear hcw
                by_cases h5 : ac = d ∧ asq = (m : Int) + 1
                · obtain ⟨rfl, rfl⟩ := h5
                  go_wp2_with fail
                  have HCX := Lib.hid (fun W (hb : Below wr.heap.size wr W) => HCW.out.below hb)
                  clear HCW
                  refine (tell_no g _ _ _ true _ 0 _ _ _ _ _ _ _ _ (HCX.out _ (by go_grown)).c (.inr (.inr (by omega)))).mono ?_
                  rintro e w6 ⟨rfl, hb6⟩
                  have HCW := Lib.hid ((HCX.out _ (by go_grown)).below hb6)
                  clear hb6 HCX k0 k1 k2 k3 k4 k5 k6
                  go_wp2_with fail
                  refine (waits_any g _ _ _ true _ 0 _ HCW.out.c).mono ?_
                  rintro e w7 ⟨rfl, hb7⟩
                  have HCW := Lib.hid (HCW.out.below hb7)
                  clear hb7
                  go_wp2_with fail
                  go_roundw
                  case rel => exact ⟨q + 1, by omega, by omega, by go_num, HCW.out⟩
                  case measure => simp [intOf]; omega
                · have h6 : (ac == d) = false ∨ ((ac == d) = true ∧ (asq == (m : Int) + 1) = false) := by
                    by_cases h : ac = d
                    · exact .inr ⟨by simp [h], by simp; exact fun hh => h5 ⟨h, hh⟩⟩
                    · exact .inl (by simp [h])
                  have H5 := Lib.hid h5; clear h5
                  rcases h6 with h6 | ⟨h6, h7⟩
                  all_goals
                    go_wp2_with fail
                    have HCX := Lib.hid (fun W (hb : Below wr.heap.size wr W) => HCW.out.below hb)
                    clear HCW
                    refine (tell_no g _ _ _ true _ 0 _ _ _ _ _ _ _ _ (HCX.out _ (by go_grown)).c (.inr (by have := H5.out; omega))).mono ?_
                    rintro e w6 ⟨rfl, hb6⟩
                    have HCW := Lib.hid ((HCX.out _ (by go_grown)).below hb6)
                    clear hb6 HCX k0 k1 k2 k3 k4 k5 k6
                    go_wp2_with fail
                    refine (waits_any g _ _ _ true _ 0 _ HCW.out.c).mono ?_
                    rintro e w7 ⟨rfl, hb7⟩
                    have HCW := Lib.hid (HCW.out.below hb7)
                    clear hb7
                    go_wp2_with fail
                    go_roundw
                    case rel => exact ⟨q + 1, by omega, by omega, by go_num, HCW.out⟩
                    case measure => simp [intOf]; omega
              · have HCW := Lib.hid hcw; clear hcw
                have x2 := HCW.out.h.cell 2
                simp only [Cm.cells, List.getElem?_cons_zero, List.getElem?_cons_succ] at x2
                go_wp2_with fail
                refine (seq_any g _ _ _ true _ 0 _ HCW.out.c).mono ?_
                rintro e w6 ⟨rfl, hb6⟩
                have HCW := Lib.hid (HCW.out.below hb6)
                clear hb6 x2
                go_wp2_with fail
                refine (tell_yes g _ _ _ _ 0 _ _ _ _ _ _ HCW.out.c).mono ?_
                rintro e w7 ⟨rfl, hc7, ht7⟩
                have HCW := Lib.hid (HCW.out.touch ht7 hc7)
                clear hc7 ht7
                go_wp2_with fail
                refine (waits_any g _ _ _ false _ 0 _ HCW.out.c).mono ?_
                rintro e w8 ⟨rfl, hb8⟩
                have HCW := Lib.hid (HCW.out.below hb8)
                clear hb8
                go_wp2_with fail
                refine (tell_no g _ _ _ false _ 0 _ _ _ _ _ _ _ _ HCW.out.c (.inl rfl)).mono ?_
                rintro e w9 ⟨rfl, hb9⟩
                have HCW := Lib.hid (HCW.out.below hb9)
                clear hb9
                go_wp2_with fail
                go_roundw
                case rel => exact ⟨m + 1, j + 1, by omega, by omega, by omega, by go_num, by go_num, HCW.out.bel, ⟨_, _, _, HCW.out.c⟩, HCW.out.ge⟩
                case measure => simp [intOf]; omega
            · have HCW := Lib.hid hcw; clear hcw
              have x2 := HCW.out.h.cell 2
              simp only [Cm.cells, List.getElem?_cons_zero, List.getElem?_cons_succ] at x2
              go_wp2_with fail
              refine (seq_any g _ _ _ true _ 0 _ HCW.out.c).mono ?_
              rintro e w6 ⟨rfl, hb6⟩
              have HCW := Lib.hid (HCW.out.below hb6)
              clear hb6 x2
              go_wp2_with fail
              refine (tell_yes g _ _ _ _ 0 _ _ _ _ _ _ HCW.out.c).mono ?_
              rintro e w7 ⟨rfl, hc7, ht7⟩
              have HCW := Lib.hid (HCW.out.touch ht7 hc7)
              clear hc7 ht7
              go_wp2_with fail
              refine (waits_any g _ _ _ false _ 0 _ HCW.out.c).mono ?_
              rintro e w8 ⟨rfl, hb8⟩
              have HCW := Lib.hid (HCW.out.below hb8)
              clear hb8
              go_wp2_with fail
              refine (tell_no g _ _ _ false _ 0 _ _ _ _ _ _ _ _ HCW.out.c (.inl rfl)).mono ?_
              rintro e w9 ⟨rfl, hb9⟩
              have HCW := Lib.hid (HCW.out.below hb9)
              clear hb9
              go_wp2_with fail
              go_roundw
              case rel => exact ⟨m + 1, j + 1, by omega, by omega, by omega, by go_num, by go_num, HCW.out.bel, ⟨_, _, _, HCW.out.c⟩, HCW.out.ge⟩
              case measure => simp [intOf]; omega
        · have HCO := Lib.hid (show Co w w5 g d m from ⟨HBL.out.trans (ht.below hge HBL.out.size), ⟨_, _, _, hc⟩, hge⟩)
          clear hc ht HBL
          go_wp2_with fail
          go_roundw
          case rel => exact ⟨m, j + 1, by omega, by omega, by omega, rfl, by go_num, HCO.out.below (by go_grown)⟩
          case measure => simp [intOf]; omega
      · go_wp2_with fail
        refine (seq_any g _ _ _ false _ _ _ hc).mono ?_
        rintro e w6 ⟨rfl, hb6⟩
        have HCO := Lib.hid (HCO.out.below hb6)
        clear hb6
        go_wp2_with fail
        refine (clientRuns_any _).mono ?_
        rintro e w7 ⟨rfl, hb7⟩
        have HCO := Lib.hid (HCO.out.below hb7)
        clear hb7
        go_wp2_with fail
        go_ret
        exact ⟨rfl, HCO.out.bel⟩
    · go_wp2_with fail
      refine (seq_any g _ _ _ false _ _ _ hc).mono ?_
      rintro e w6 ⟨rfl, hb6⟩
      have HCO := Lib.hid (HCO.out.below hb6)
      clear hb6
      go_wp2_with fail
      refine (clientRuns_any _).mono ?_
      rintro e w7 ⟨rfl, hb7⟩
      have HCO := Lib.hid (HCO.out.below hb7)
      clear hb7
      go_wp2_with fail
      go_ret
      exact ⟨rfl, HCO.out.bel⟩
theorem clientOther_rows (id : Int) (a : Option Addr) (len cap : Nat) (V : Nat → List Value) (a2 : Option Addr) (len2 cap2 : Nat) (V2 : Nat → List Value) (w : World) (hid : (Lit.int .i64 id).wf = true)
    (hV : IsRows w a len 7 V) (hA : ∀ i, i < len → AllOk [.int .i64, .int .i64, .int .i64, .string, .string, .string, .string] (V i)) (hlc : len ≤ cap) (hV2 : IsRows w a2 len2 7 V2) (hA2 : ∀ i, i < len2 → AllOk [.int .i64, .int .i64, .int .i64, .bool, .string, .int .i64, .slice] (V2 i)) (hlc2 : len2 ≤ cap2) :
    Calls Try.prog 6 #[.int .i64 id, .slice a len cap, .slice a2 len2 cap2] w fun e w' => e = .returned (.bool true) ∧ Below w.heap.size w w' :=
  clientOther_any id a len cap V a2 len2 cap2 V2 w hid hV hA hlc hV2 hA2 hlc2
end Go.Proofs.Ytkojfgebdoojnaa
