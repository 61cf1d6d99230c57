/-
  The walk of FrontPlays.
-/
import Derived.Test.YtfjllpnmkbfheaaFrontRunsW
import Derived.Test.YtfjllpnmkbfheaaCellRows
namespace Go.Proofs.Ytfjllpnmkbfheaa
open Go.RowKit

/-- A slice of Ask: who, and what he says. -/
structure Asks (w : World) (a : Option Addr) (len : Nat) (who : Nat → Int) (d : Nat → Nat → Int) : Prop where
  small : len ≤ maxLen
  wfw : ∀ i, i < len → (Lit.int .i64 (who i)).wf = true
  wfd : ∀ i, i < len → ∀ j, j < 7 → (Lit.int .i64 (d i j)).wf = true
  spot : 0 < len → ∃ b off, a = some ⟨b, off, none⟩ ∧ b < w.heap.size ∧ (∀ i, i < len → w.cell? ⟨b, off + i * 8, none⟩ = some (.int .i64 (who i))) ∧ ∀ i, i < len → ∀ j, j < 7 → w.cell? ⟨b, off + i * 8 + (1 + j), none⟩ = some (.int .i64 (d i j))
theorem asks_of_rows {w : World} {a : Option Addr} {len : Nat} {V : Nat → List Value} (h : IsRows w a len 8 V) (h2 : ∀ i, i < len → AllOk (List.replicate 8 (.int .i64)) (V i)) :
    Asks w a len (fun i => intOf ((V i).getD 0 undef)) (fun i j => intOf ((V i).getD (1 + j) undef)) := by
  obtain ⟨h1, _, h3⟩ := h
  refine ⟨h1, fun i hi => ((h2 i hi).ints 0 (by omega)).2, fun i hi j hj => ((h2 i hi).ints (1 + j) (by omega)).2, fun h => ?_⟩
  obtain ⟨b, off, ha, hlt, hc⟩ := h3 h
  exact ⟨b, off, ha, hlt, fun i hi => by rw [← ((h2 i hi).ints 0 (by omega)).1]; exact hc i hi 0 (by omega), fun i hi j hj => by rw [← ((h2 i hi).ints (1 + j) (by omega)).1]; exact hc i hi (1 + j) (by omega)⟩
theorem Asks.cells {w W : World} {a : Option Addr} {len : Nat} {who : Nat → Int} {d : Nat → Nat → Int} (h : Asks w a len who d) (hbl : Below w.heap.size w W) {b off : Nat} (ha : a = some ⟨b, off, none⟩) {k : Nat} (hk : k < len) :
    W.cell? ⟨b, off + k * 8, none⟩ = some (.int .i64 (who k)) ∧ W.cell? ⟨b, off + k * 8 + 1, none⟩ = some (.int .i64 (d k 0)) ∧ W.cell? ⟨b, off + k * 8 + 2, none⟩ = some (.int .i64 (d k 1)) ∧ W.cell? ⟨b, off + k * 8 + 3, none⟩ = some (.int .i64 (d k 2)) ∧
    W.cell? ⟨b, off + k * 8 + 4, none⟩ = some (.int .i64 (d k 3)) ∧ W.cell? ⟨b, off + k * 8 + 5, none⟩ = some (.int .i64 (d k 4)) ∧ W.cell? ⟨b, off + k * 8 + 6, none⟩ = some (.int .i64 (d k 5)) ∧ W.cell? ⟨b, off + k * 8 + 7, none⟩ = some (.int .i64 (d k 6)) := by
  obtain ⟨h1, h2, h3, h4⟩ := h
  obtain ⟨b', off', ha', hlt, hc, hd⟩ := h4 (by omega)
  subst ha
  simp only [Option.some.injEq, Addr.mk.injEq] at ha'
  obtain ⟨rfl, rfl, _⟩ := ha'
  have hx : ∀ o, W.cell? ⟨b, o, none⟩ = w.cell? ⟨b, o, none⟩ := fun o => hbl.cell (p := ⟨b, o, none⟩) hlt
  simp only [hx]
  exact ⟨hc k hk, hd k hk 0 (by omega), hd k hk 1 (by omega), hd k hk 2 (by omega), hd k hk 3 (by omega), hd k hk 4 (by omega), hd k hk 5 (by omega), hd k hk 6 (by omega)⟩

/-- Both fronts, in a world that leaves what was before as it was. -/
structure Fs (w W : World) (g g2 n me : Nat) (F F2 : FrontP.Fr) : Prop where
  bel : Below w.heap.size w W
  f : FrontAt W g 44 n me F
  r : FrontAt W g2 35 n me F2
  ge : w.heap.size ≤ g
  ge2 : w.heap.size ≤ g2
  ne : g ≠ g2
theorem Fs.below {w W W' : World} {g g2 n me : Nat} {F F2 : FrontP.Fr} (h : Fs w W g g2 n me F F2) (hb : Below W.heap.size W W') : Fs w W' g g2 n me F F2 :=
  ⟨h.bel.trans (hb.mono h.bel.size), h.f.below hb h.f.lt, h.r.below hb h.r.lt, h.ge, h.ge2, h.ne⟩
theorem Fs.hear {w W : World} {g g2 n me : Nat} {F F2 : FrontP.Fr} (h : Fs w W g g2 n me F F2) (r : Int) (d : Nat → Int) :
    Calls Try.prog 8 #[.pointer (some ⟨g, 0, none⟩), .int .i64 r, .agg #[.int .i64 (d 0), .int .i64 (d 1), .int .i64 (d 2), .int .i64 (d 3), .int .i64 (d 4), .int .i64 (d 5), .int .i64 (d 6)]] W fun e w' =>
      e = .returned (.bool (FrontP.takes n r d)) ∧ Fs w w' g g2 n me (FrontP.heard F n r d) F2 := by
  refine (hear_any g n me r F d W h.f).mono ?_
  rintro e w' ⟨rfl, hf, ht⟩
  exact ⟨rfl, h.bel.trans (ht.below h.ge h.bel.size), hf, ⟨h.r.h.touch ht (Ne.symm h.ne), h.r.n7⟩, h.ge, h.ge2, h.ne⟩
theorem Fs.refhear {w W : World} {g g2 n me : Nat} {F F2 : FrontP.Fr} (h : Fs w W g g2 n me F F2) (r : Int) (d : Nat → Int) :
    Calls Try.prog 10 #[.pointer (some ⟨g2, 0, none⟩), .int .i64 r, .agg #[.int .i64 (d 0), .int .i64 (d 1), .int .i64 (d 2), .int .i64 (d 3), .int .i64 (d 4), .int .i64 (d 5), .int .i64 (d 6)]] W fun e w' =>
      e = .returned (.bool (FrontP.takes n r d)) ∧ Fs w w' g g2 n me F (FrontP.heard F2 n r d) := by
  refine (refhear_any g2 n me r F2 d W h.r).mono ?_
  rintro e w' ⟨rfl, hf, ht⟩
  exact ⟨rfl, h.bel.trans (ht.below h.ge2 h.bel.size), ⟨h.f.h.touch ht h.ne, h.f.n7⟩, hf, h.ge, h.ge2, h.ne⟩
theorem Fs.stable {w W : World} {g g2 n me : Nat} {F F2 : FrontP.Fr} (h : Fs w W g g2 n me F F2) (hme : me < n) :
    Calls Try.prog 9 #[.pointer (some ⟨g, 0, none⟩)] W fun e w' => e = .returned (depsV (FrontP.stable F n me)) ∧ Fs w w' g g2 n me F F2 := by
  refine (stable_any g n me F W h.f hme).mono ?_
  rintro e w' ⟨rfl, hb⟩
  exact ⟨rfl, h.below hb⟩
theorem Fs.refstable {w W : World} {g g2 n me : Nat} {F F2 : FrontP.Fr} (h : Fs w W g g2 n me F F2) (hme : me < n) :
    Calls Try.prog 11 #[.pointer (some ⟨g2, 0, none⟩)] W fun e w' => e = .returned (depsV (FrontP.stable F2 n me)) ∧ Fs w w' g g2 n me F F2 := by
  refine (refstable_any g2 n me F2 W h.r hme).mono ?_
  rintro e w' ⟨rfl, hb⟩
  exact ⟨rfl, h.below hb⟩

/-- The fronts after the first k asks. -/
def heardTo (n : Nat) (who : Nat → Int) (d : Nat → Nat → Int) : Nat → FrontP.Fr
  | 0 => fun _ _ => 0
  | k + 1 => FrontP.heard (heardTo n who d k) n (who k) (d k)

set_option maxRecDepth 4000 in
set_option maxHeartbeats 1000000 in
theorem frontPlays_in (n me : Nat) (a : Option Addr) (len cap : Nat) (who : Nat → Int) (d : Nat → Nat → Int) (w : World) (hn : n = 3 ∨ n = 5 ∨ n = 7) (hme : me < n) (hA : Asks w a len who d) (_hlc : len ≤ cap) :
    Calls Try.prog 4 #[.int .i64 n, .int .i64 me, .slice a len cap] w fun e w' => e = .returned (.bool true) ∧ Below w.heap.size w w' := by
  have hsm := hA.small
  have HA := Lib.hid hA; clear hA
  have HN := Lib.hid hn
  have hme' : ¬ (n : Int) ≤ me := Int.not_le.2 (Int.ofNat_lt.2 hme)
  have hn7 : n ≤ 7 := by omega
  have hd1 : decide (n ≤ me) = false := by simp; omega
  have hd2 : decide (((me : Nat) : Int) < 0) = false := by simp
  have hb : ((n : Int) != 3) = false ∨ (((n : Int) != 3) = true ∧ ((n : Int) != 5) = false) ∨ (((n : Int) != 3) = true ∧ ((n : Int) != 5) = true ∧ ((n : Int) != 7) = false) := by
    rcases hn with rfl | rfl | rfl <;> decide
  clear hn
  rcases hb with hb | ⟨hb, hb2⟩ | ⟨hb, hb2, hb3⟩
  all_goals
    go_enter Try.func4, Try.ntmps4
    go_wp2_with fail
    refine (new_in n me w HN.out hme).mono ?_
    rintro e w1 ⟨g, rfl, hg, hf, hb1⟩
    have HF := Lib.hid hf; clear hf
    have HB := Lib.hid hb1
    have hsz1 := hb1.size; clear hb1
    go_wp2_with fail
    go_loopw [10] (fun i wr => ∃ k : Nat, k ≤ len ∧ k ≤ 40 ∧ i = .int .i64 k ∧ Fs w wr g w1.heap.size n me (heardTo n who d k) (heardTo n who d k)) (fun i _ => 40 - (intOf i).toNat)
    case atStart => exact ⟨0, by omega, by omega, rfl, HB.out.trans (show Below w.heap.size w1 _ by go_grown), HF.out.below (B := w1.heap.size) (by go_grown) HF.out.lt, ⟨by rw [show heardTo n who d 0 = fun _ _ => 0 from rfl, front_zero]; exact holds_alloc w1 _ _, HF.out.n7⟩, hg, hsz1, by have := HF.out.lt; omega⟩
    case round =>
      obtain ⟨k, hk, hk40, rfl, hst⟩ := hrel
      clear HB HF hsz1 hg hb
      by_cases hlt : k < len ∧ k < 40
      · obtain ⟨hlt, hlt2⟩ := hlt
        obtain ⟨b, off, rfl, -⟩ := HA.out.spot (by omega)
        have HE := Lib.hid (show FrontP.heard (heardTo n who d k) n (who k) (d k) = heardTo n who d (k + 1) from rfl)
        generalize heardTo n who d k = F at hst HE
        have H1 := Lib.hid (fun W (h : Fs w W g w1.heap.size n me F F) => h.hear (who k) (d k))
        have H2 := Lib.hid (fun W (h : Fs w W g w1.heap.size n me (FrontP.heard F n (who k) (d k)) F) => h.refhear (who k) (d k))
        have HK := Lib.hid (fun W F1 F2 (h : Fs w W g w1.heap.size n me F1 F2) => HA.out.cells h.bel rfl hlt)
        have H3 := Lib.hid (fun W (h : Fs w W g w1.heap.size n me (FrontP.heard F n (who k) (d k)) (FrontP.heard F n (who k) (d k))) => h.stable hme)
        have H4 := Lib.hid (fun W (h : Fs w W g w1.heap.size n me (FrontP.heard F n (who k) (d k)) (FrontP.heard F n (who k) (d k))) => h.refstable hme)
        generalize FrontP.heard F n (who k) (d k) = F' at H1 H2 H3 H4 HE
        unfold depsV at H3 H4
        generalize FrontP.stable F' n me = st at H3 H4
        generalize FrontP.takes n (who k) (d k) = tk at H1 H2
        have hst0 : Fs w wr.drew g w1.heap.size n me F F := hst.below ⟨rfl, rfl, rfl, Nat.le_refl _, fun _ _ => rfl⟩
        generalize who k = y at *
        generalize d k 0 = x0, d k 1 = x1, d k 2 = x2, d k 3 = x3, d k 4 = x4, d k 5 = x5, d k 6 = x6 at *
        · go_upto_region 10 with (fail)
          go_region_held3 (fun W => W.cell? ⟨b, off + k * 8, none⟩ = some (.int .i64 y) ∧ W.cell? ⟨b, off + k * 8 + 1, none⟩ = some (.int .i64 x0) ∧ W.cell? ⟨b, off + k * 8 + 2, none⟩ = some (.int .i64 x1) ∧ W.cell? ⟨b, off + k * 8 + 3, none⟩ = some (.int .i64 x2) ∧
            W.cell? ⟨b, off + k * 8 + 4, none⟩ = some (.int .i64 x3) ∧ W.cell? ⟨b, off + k * 8 + 5, none⟩ = some (.int .i64 x4) ∧ W.cell? ⟨b, off + k * 8 + 6, none⟩ = some (.int .i64 x5) ∧ W.cell? ⟨b, off + k * 8 + 7, none⟩ = some (.int .i64 x6))
            (exact HK.out _ _ _ (by assumption))
            (first
              | (go_at_call 8; refine (H1.out _ (by assumption)).mono ?_; rintro e w' ⟨rfl, hstn⟩)
              | (go_at_call 10; refine (H2.out _ (by assumption)).mono ?_; rintro e w' ⟨rfl, hstn⟩)
              | (go_at_call 9; refine (H3.out _ (by assumption)).mono ?_; rintro e w' ⟨rfl, hstn⟩)
              | (go_at_call 11; refine (H4.out _ (by assumption)).mono ?_; rintro e w' ⟨rfl, hstn⟩))
          go_wp2
          obtain ⟨wo, hwo⟩ : ∃ wo : World, wo = wr := ⟨_, rfl⟩
          clear HK H1 H2 H3 H4 hst0 hst hsm hwo
          go_loopw [11] (fun i wr => ∃ r : Nat, r ≤ n + 2 ∧ i = .int .i64 ((r : Int) - 1) ∧ Fs w wr g w1.heap.size n me F' F') (fun i _ => n + 2 - (intOf i + 1).toNat)
          case atStart => exact ⟨0, by omega, rfl, hstn⟩
          case round =>
            clear hstn
            obtain ⟨r, hr, rfl, hst⟩ := hrel
            by_cases hr0 : 1 ≤ r ∧ r ≤ n
            · obtain ⟨q, rfl⟩ : ∃ q, r = q + 1 := ⟨r - 1, by omega⟩
              have hq : q < n := by omega
              rw [show (((q + 1 : Nat) : Int) - 1) = (q : Int) by omega]
              have c0 := hst.r.at q 0 (by omega) (by omega)
              have c1 := hst.r.at q 1 (by omega) (by omega)
              have c2 := hst.r.at q 2 (by omega) (by omega)
              have c3 := hst.r.at q 3 (by omega) (by omega)
              have c4 := hst.r.at q 4 (by omega) (by omega)
              have c5 := hst.r.at q 5 (by omega) (by omega)
              have c6 := hst.r.at q 6 (by omega) (by omega)
              rw [Nat.add_zero] at c0
              have hg2 := hst.r.lt
              go_upto_region 18 with (fail)
              go_name_world W hW
              have hBx : Holds W wr.heap.size 28 (depCells (F' q)) := by rw [← hW]; exact holds_alloc wr _ _
              have hstW : Fs w W g w1.heap.size n me F' F' := hst.below (by rw [← hW]; go_grown)
              clear hW hst
              have HH := Lib.hid (fun W' (h : Below W.heap.size W W') => of_in g n me q F' W' (hstW.below h).f hq)
              unfold depsV at HH
              have b0 := fun d os => hBx.grown d os 0
              have b1 := fun d os => hBx.grown d os 1
              have b2 := fun d os => hBx.grown d os 2
              have b3 := fun d os => hBx.grown d os 3
              have b4 := fun d os => hBx.grown d os 4
              have b5 := fun d os => hBx.grown d os 5
              have b6 := fun d os => hBx.grown d os 6
              simp only [depCells, List.getElem?_cons_zero, List.getElem?_cons_succ] at b0 b1 b2 b3 b4 b5 b6
              refine wp_region_quiet_below (by kernel_rfl) (by kernel_rfl) ?_
              repeat go_big_quiet_step (first | (go_at_call 12; with_reducible exact calls_regrown HH.out))
              refine wpQuiet_nil ?_
              intro w3 hw'
              have hst3 := hstW.below (below_of_regrown hw')
              clear hw' b0 b1 b2 b3 b4 b5 b6 hBx HH hstW
              go_wp2
              go_roundw
              case rel => exact ⟨q + 1 + 1, by omega, by go_num, hst3⟩
              case measure => simp [intOf]; omega
            · by_cases hr1 : r = 0
              · have hr2 : (r : Int) - 1 < 0 := by omega
                have hr3 : r < 1 := by omega
                clear hr1 hr0
                go_upto_region 18 with (fail)
                go_name_world W hW
                have hBx : Holds W wr.heap.size 28 (depCells fun _ => 0) := by rw [← hW]; exact holds_alloc wr _ _
                have hstW : Fs w W g w1.heap.size n me F' F' := hst.below (by rw [← hW]; go_grown)
                clear hW hst
                have HH := Lib.hid (fun W' (h : Below W.heap.size W W') => of_any g n me ((r : Int) - 1) F' W' (hstW.below h).f (by omega))
                unfold depsV at HH
                have b0 := fun d os => hBx.grown d os 0
                have b1 := fun d os => hBx.grown d os 1
                have b2 := fun d os => hBx.grown d os 2
                have b3 := fun d os => hBx.grown d os 3
                have b4 := fun d os => hBx.grown d os 4
                have b5 := fun d os => hBx.grown d os 5
                have b6 := fun d os => hBx.grown d os 6
                simp only [depCells, List.getElem?_cons_zero, List.getElem?_cons_succ] at b0 b1 b2 b3 b4 b5 b6
                refine wp_region_quiet_below (by kernel_rfl) (by kernel_rfl) ?_
                repeat go_big_quiet_step (first | (go_at_call 12; with_reducible exact calls_regrown HH.out))
                refine wpQuiet_nil ?_
                intro w3 hw'
                have hst3 := hstW.below (below_of_regrown hw')
                clear hw' b0 b1 b2 b3 b4 b5 b6 hBx HH hstW
                go_wp2
                go_roundw
                case rel => exact ⟨r + 1, by omega, by go_num, hst3⟩
                case measure => simp [intOf]; omega
              · by_cases hr4 : r = n + 2
                · subst hr4
                  rw [show (((n + 2 : Nat) : Int) - 1) = (n : Int) + 1 by omega]
                  clear hr hr0 hr1
                  obtain ⟨x, hx⟩ : ∃ x : Int, x = (n : Int) + 1 := ⟨_, rfl⟩
                  rw [← hx]
                  have hx2 : (n : Int) < x := by omega
                  clear hx
                  have HSF := Lib.hid hst
                  clear hst
                  go_wp2
                  go_roundw
                  case rel => exact ⟨k + 1, by omega, by omega, by go_num, by rw [← HE.out]; exact HSF.out⟩
                  case measure => simp [intOf]; omega
                have hrn : (r : Int) - 1 = n := by omega
                rw [hrn]
                go_upto_region 18 with (fail)
                go_name_world W hW
                have hBx : Holds W wr.heap.size 28 (depCells fun _ => 0) := by rw [← hW]; exact holds_alloc wr _ _
                have hstW : Fs w W g w1.heap.size n me F' F' := hst.below (by rw [← hW]; go_grown)
                clear hW hst
                have HH := Lib.hid (fun W' (h : Below W.heap.size W W') => of_any g n me n F' W' (hstW.below h).f (by omega))
                unfold depsV at HH
                have b0 := fun d os => hBx.grown d os 0
                have b1 := fun d os => hBx.grown d os 1
                have b2 := fun d os => hBx.grown d os 2
                have b3 := fun d os => hBx.grown d os 3
                have b4 := fun d os => hBx.grown d os 4
                have b5 := fun d os => hBx.grown d os 5
                have b6 := fun d os => hBx.grown d os 6
                simp only [depCells, List.getElem?_cons_zero, List.getElem?_cons_succ] at b0 b1 b2 b3 b4 b5 b6
                refine wp_region_quiet_below (by kernel_rfl) (by kernel_rfl) ?_
                repeat go_big_quiet_step (first | (go_at_call 12; with_reducible exact calls_regrown HH.out))
                refine wpQuiet_nil ?_
                intro w3 hw'
                have hst3 := hstW.below (below_of_regrown hw')
                clear hw' b0 b1 b2 b3 b4 b5 b6 hBx HH hstW
                go_wp2
                go_roundw
                case rel => exact ⟨r + 1, by omega, by go_num, hst3⟩
                case measure => simp [intOf]; omega
      · have HSF := Lib.hid hst
        clear hst
        go_wp2_with fail
        all_goals
          refine (frontRuns_any wr).mono ?_
          rintro e w' ⟨rfl, hb⟩
          have HBE := Lib.hid (HSF.out.below hb).bel
          clear hb
          go_wp2
          go_ret
          exact ⟨rfl, HBE.out⟩

set_option maxHeartbeats 1000000 in
theorem frontPlays_out (n me : Int) (a : Option Addr) (len cap : Nat) (w : World) (h : ¬ ((n = 3 ∨ n = 5 ∨ n = 7) ∧ 0 ≤ me ∧ me < n)) :
    Calls Try.prog 4 #[.int .i64 n, .int .i64 me, .slice a len cap] w fun e w' => e = .returned (.bool true) ∧ Below w.heap.size w w' := by
  have H := Lib.hid h
  have hb : (n != 3) = false ∨ ((n != 3) = true ∧ (n != 5) = false) ∨ ((n != 3) = true ∧ (n != 5) = true ∧ (n != 7) = false) ∨ ((n != 3) = true ∧ (n != 5) = true ∧ (n != 7) = true) := by
    simp only [bne_eq_false_iff_eq, bne_iff_ne]; omega
  have hm : (me < 0 ∨ ¬ me < 0 ∧ n ≤ me) ∨ (¬ me < 0 ∧ ¬ n ≤ me ∧ (n != 3) = true ∧ (n != 5) = true ∧ (n != 7) = true) := by
    simp only [bne_iff_ne]; omega
  clear h
  rcases hb with hb | ⟨hb, hb2⟩ | ⟨hb, hb2, hb3⟩ | ⟨hb, hb2, hb3⟩
  all_goals
    rcases hm with (hm | ⟨hm, hm2⟩) | ⟨hm, hm2, hm3, hm4, hm5⟩
    all_goals
      first
      | (exfalso; revert hb hm3; cases (n != 3) <;> simp; done)
      | (exfalso; revert hb2 hm4; cases (n != 5) <;> simp; done)
      | (exfalso; revert hb3 hm5; cases (n != 7) <;> simp; done)
      | (go_enter Try.func4, Try.ntmps4
         go_wp2_with fail
         refine (new_out n me w H.out).mono ?_
         rintro e w1 ⟨rfl, hw⟩
         subst hw
         go_wp2_with fail
         refine (frontRuns_any _).mono ?_
         rintro e w2 ⟨rfl, hb9⟩
         have HBE := Lib.hid hb9
         clear hb9
         go_wp2
         go_ret
         exact ⟨rfl, HBE.out⟩)

theorem frontPlays_any (n me : Int) (a : Option Addr) (len cap : Nat) (who : Nat → Int) (d : Nat → Nat → Int) (w : World) (hA : Asks w a len who d) (hlc : len ≤ cap) :
    Calls Try.prog 4 #[.int .i64 n, .int .i64 me, .slice a len cap] w fun e w' => e = .returned (.bool true) ∧ Below w.heap.size w w' := by
  by_cases h : (n = 3 ∨ n = 5 ∨ n = 7) ∧ 0 ≤ me ∧ me < n
  · obtain ⟨h1, h2, h3⟩ := h
    obtain ⟨n', rfl⟩ := Int.eq_ofNat_of_zero_le (show 0 ≤ n by omega)
    obtain ⟨m', rfl⟩ := Int.eq_ofNat_of_zero_le h2
    exact frontPlays_in n' m' a len cap who d w (by omega) (by omega) hA hlc
  · exact frontPlays_out n me a len cap w h
theorem frontPlays_rows (n me : Int) (a : Option Addr) (len cap : Nat) (V : Nat → List Value) (w : World) (_ : (Lit.int .i64 n).wf = true) (_ : (Lit.int .i64 me).wf = true) (hV : IsRows w a len 8 V) (hk : ∀ i, i < len → AllOk (List.replicate 8 (.int .i64)) (V i)) (hlc : len ≤ cap) :
    Calls Try.prog 4 #[.int .i64 n, .int .i64 me, .slice a len cap] w fun e w' => e = .returned (.bool true) ∧ Below w.heap.size w w' :=
  frontPlays_any n me a len cap _ _ w (asks_of_rows hV hk) hlc
end Go.Proofs.Ytfjllpnmkbfheaa
