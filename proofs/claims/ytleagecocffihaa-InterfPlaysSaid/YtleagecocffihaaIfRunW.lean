/-
  InterfRuns: the walk.
-/
import Derived.Test.YtleagecocffihaaIfRunsW
import Derived.Deep.RegionHeld3
namespace Go.Proofs.Ytleagecocffihaa
open Go.RowKit Go.Maps
set_option linter.unusedVariables false
set_option linter.unusedSimpArgs false

def cA (k c : Int) : Cm := ⟨k, c, 1, ⟨#[97]⟩, ⟨#[]⟩, ⟨#[]⟩, ⟨#[]⟩⟩
def cB (k c : Int) : Cm := ⟨k, c, 1, ⟨#[98]⟩, ⟨#[]⟩, ⟨#[]⟩, ⟨#[]⟩⟩
def l1 : List Ent := [⟨0, 1, cA 2 1, 4⟩]
def l2 : List Ent := [⟨0, 1, cA 2 1, 4⟩, ⟨1, 3, cA 1 2, 2⟩]
def u9 : Nat → Int := fun j => if j < 1 then 9 else 0
theorem note_1 : noteB (fun _ => 0) 0 1 (cA 2 1) 4 = true := by
  simp [noteB, rightA, zeroC, eqC, longB, bareE, bareO, bareV, rightI, cA, Go.ByteArray.toList_eq]
  exact ⟨rfl, rfl, rfl, rfl⟩
theorem note_2 : noteB (fun _ => 0) 1 3 (cA 1 2) 2 = true := by
  simp [noteB, rightA, zeroC, eqC, longB, bareE, bareO, bareV, rightI, cA, Go.ByteArray.toList_eq]
  exact ⟨rfl, rfl, rfl, rfl⟩
theorem attr_a : attL (attrQ l2 2 1 (cA 2 3)) (attrD l2 (fun _ => 0) 2 1 (cA 2 3)) = [.int .i64 5, .int .i64 1, .int .i64 3, .int .i64 0, .int .i64 0, .int .i64 0, .int .i64 0, .int .i64 0] := by kernel_rfl
theorem attr_b : attL (attrQ l2 2 1 (cA 1 3)) (attrD l2 (fun _ => 0) 2 1 (cA 1 3)) = [.int .i64 5, .int .i64 1, .int .i64 0, .int .i64 0, .int .i64 0, .int .i64 0, .int .i64 0, .int .i64 0] := by kernel_rfl
theorem attr_c : attL (attrQ l2 0 5 (cB 1 3)) (attrD l2 (fun _ => 0) 0 5 (cB 1 3)) = [.int .i64 0, .int .i64 4, .int .i64 0, .int .i64 0, .int .i64 0, .int .i64 0, .int .i64 0, .int .i64 0] := by kernel_rfl
theorem len_e : (pruned l2 (newCut (fun _ => 0) u9)).length = 1 := by kernel_rfl
theorem attr_e : attL (attrQ (pruned l2 (newCut (fun _ => 0) u9)) 2 1 (cA 1 3)) (attrD (pruned l2 (newCut (fun _ => 0) u9)) (newCut (fun _ => 0) u9) 2 1 (cA 1 3)) = [.int .i64 0, .int .i64 9, .int .i64 0, .int .i64 0, .int .i64 0, .int .i64 0, .int .i64 0, .int .i64 0] := by kernel_rfl
theorem lit_9 : attL 0 (fun j => if j < 1 then (fun _ => 9) j else 0) = [.int .i64 0, .int .i64 9, .int .i64 0, .int .i64 0, .int .i64 0, .int .i64 0, .int .i64 0, .int .i64 0] := by kernel_rfl
theorem Touch2.under {g b B : Nat} {w w' : World} (h : Touch2 g b w w') (h1 : B ≤ g) (h2 : B ≤ b) (hs : B ≤ w.heap.size) : Below B w w' :=
  ⟨h.os, h.tape, h.output, h.size, fun k hk => h.block k (by omega) (by omega) (by omega)⟩
theorem Holds.bel {w w' : World} {g : Nat} {e : TypeId} {L : List Value} (h : Holds w g e L) (hb : Below w.heap.size w w') : Holds w' g e L := h.below hb h.lt
/-- The attribute of a literal list. -/
def attV (q : Int) (L : List Value) : Value := .agg (.int .i64 q :: (L ++ List.replicate (7 - L.length) (.int .i64 0))).toArray
theorem attr_pick {gs n : Nat} {q : Int} {L : List Value} {w : World} (h : Holds w gs 3 L) (hv : L = (L.map intOf).map (Value.int .i64)) (hn : L.length = n) (h7 : L.length ≤ 7) :
    Calls Try.prog 14 #[.int .i64 q, .slice (some ⟨gs, 0, none⟩) n n] w fun e w' => e = .returned (attV q L) ∧ Below w.heap.size w w' := by
  subst hn
  have hat : ∀ j, j < L.length → L[j]? = some (.int .i64 (intOf (L.getD j undef))) := fun j hj => by
    have h1 : L[j]? = some L[j] := List.getElem?_eq_getElem hj
    have h2 : L[j]? = ((L.map intOf).map (Value.int .i64))[j]? := by rw [← hv]
    rw [List.getElem?_map, List.getElem?_map, h1] at h2
    rw [List.getD_eq_getElem?_getD, h1]
    exact h2
  have := attr_lit gs L.length (fun j => intOf (L.getD j undef)) q w h7 h.lt (fun i hi => (h.cell i).trans (hat i hi))
  refine this.mono ?_
  rintro e w' ⟨rfl, hb⟩
  refine ⟨?_, hb⟩
  have he : attL q (fun j => if j < L.length then intOf (L.getD j undef) else 0) = .int .i64 q :: (L ++ List.replicate (7 - L.length) (.int .i64 0)) := by
    apply List.ext_getElem?
    intro j
    rcases j with _ | j
    · rfl
    · rw [List.getElem?_cons_succ]
      by_cases hj : j < L.length
      · rw [List.getElem?_append_left hj, hat j hj, show attL q (fun j => if j < L.length then intOf (L.getD j undef) else 0) = Value.int .i64 q :: cutL (fun j => if j < L.length then intOf (L.getD j undef) else 0) from rfl, Nat.add_comm, cut_get _ _ _ (by omega), if_pos hj]
      · rw [List.getElem?_append_right (by omega), List.getElem?_replicate]
        by_cases hj7 : j < 7
        · rw [if_pos (by omega), show attL q (fun j => if j < L.length then intOf (L.getD j undef) else 0) = Value.int .i64 q :: cutL (fun j => if j < L.length then intOf (L.getD j undef) else 0) from rfl, Nat.add_comm, cut_get _ _ _ hj7, if_neg hj]
        · rw [if_neg (by omega)]
          rw [List.getElem?_eq_none]
          simp [attL, cutL]; omega
  rw [he]
  rfl
theorem drew_below (B : Nat) (w : World) : Below B w w.drew := ⟨rfl, rfl, rfl, Nat.le_refl _, fun _ _ => rfl⟩
theorem below_drew_alloc (w : World) (o : Obj) : Below w.drew.heap.size w.drew (w.alloc o).drew := ((Below.refl _ _).alloc (Nat.le_refl _) o : Below w.drew.heap.size w.drew (w.drew.alloc o))
theorem holds_alloc_drew (w : World) (e : TypeId) (L : List Value) : Holds (w.alloc (.cells L.toArray e)).drew w.heap.size e L := holds_alloc w e L
/-- What holds while the last region runs. -/
structure Fx (w : World) (g b n : Nat) (d : Nat → Int) (l : List Ent) (g2 g3 g4 : Nat) (L2 L3 L4 : List Value) (W : World) : Prop where
  bel : Below w.heap.size w W
  ix : IxAt W g b n d l
  a2 : Holds W g2 34 L2
  a3 : Holds W g3 34 L3
  a4 : Holds W g4 34 L4
theorem Fx.below {w : World} {g b n : Nat} {d : Nat → Int} {l : List Ent} {g2 g3 g4 : Nat} {L2 L3 L4 : List Value} {W W' : World} (h : Fx w g b n d l g2 g3 g4 L2 L3 L4 W) (hb : Below W.heap.size W W') : Fx w g b n d l g2 g3 g4 L2 L3 L4 W' :=
  ⟨below_next h.bel hb, h.ix.below hb, h.a2.bel hb, h.a3.bel hb, h.a4.bel hb⟩
theorem cellsOf8 {W : World} {g : Nat} {e : TypeId} {v0 v1 v2 v3 v4 v5 v6 v7 : Value} (h : Holds W g e [v0, v1, v2, v3, v4, v5, v6, v7]) :
    W.cell? ⟨g, 0, none⟩ = some v0 ∧ W.cell? ⟨g, 1, none⟩ = some v1 ∧ W.cell? ⟨g, 2, none⟩ = some v2 ∧ W.cell? ⟨g, 3, none⟩ = some v3 ∧ W.cell? ⟨g, 4, none⟩ = some v4 ∧ W.cell? ⟨g, 5, none⟩ = some v5 ∧ W.cell? ⟨g, 6, none⟩ = some v6 ∧ W.cell? ⟨g, 7, none⟩ = some v7 :=
  ⟨h.cell 0, h.cell 1, h.cell 2, h.cell 3, h.cell 4, h.cell 5, h.cell 6, h.cell 7⟩
theorem eq_a (w : World) : (binOp .eql 34 (.agg #[.int .i64 5, .int .i64 1, .int .i64 3, .int .i64 0, .int .i64 0, .int .i64 0, .int .i64 0, .int .i64 0]) (attV 5 [.int .i64 1, .int .i64 3])).run Try.prog w = .ok (.bool true) w := by kernel_rfl
theorem eq_b (w : World) : (binOp .eql 34 (.agg #[.int .i64 5, .int .i64 1, .int .i64 0, .int .i64 0, .int .i64 0, .int .i64 0, .int .i64 0, .int .i64 0]) (attV 5 [.int .i64 1])).run Try.prog w = .ok (.bool true) w := by kernel_rfl
theorem eq_c (w : World) : (binOp .eql 34 (.agg #[.int .i64 0, .int .i64 4, .int .i64 0, .int .i64 0, .int .i64 0, .int .i64 0, .int .i64 0, .int .i64 0]) (attV 0 [.int .i64 4])).run Try.prog w = .ok (.bool true) w := by kernel_rfl
theorem eq_d (w : World) : (binOp .eql 34 (.agg #[.int .i64 0, .int .i64 9, .int .i64 0, .int .i64 0, .int .i64 0, .int .i64 0, .int .i64 0, .int .i64 0]) (attV 0 [.int .i64 9])).run Try.prog w = .ok (.bool true) w := by kernel_rfl
theorem gd_a (i j : Nat) (w : World) : (eqGuard .eql 34 (.tmp i) (.tmp j) (.agg #[.int .i64 5, .int .i64 1, .int .i64 3, .int .i64 0, .int .i64 0, .int .i64 0, .int .i64 0, .int .i64 0]) (attV 5 [.int .i64 1, .int .i64 3])).run Try.prog w = .ok () w := by kernel_rfl
theorem gd_b (i j : Nat) (w : World) : (eqGuard .eql 34 (.tmp i) (.tmp j) (.agg #[.int .i64 5, .int .i64 1, .int .i64 0, .int .i64 0, .int .i64 0, .int .i64 0, .int .i64 0, .int .i64 0]) (attV 5 [.int .i64 1])).run Try.prog w = .ok () w := by kernel_rfl
theorem gd_c (i j : Nat) (w : World) : (eqGuard .eql 34 (.tmp i) (.tmp j) (.agg #[.int .i64 0, .int .i64 4, .int .i64 0, .int .i64 0, .int .i64 0, .int .i64 0, .int .i64 0, .int .i64 0]) (attV 0 [.int .i64 4])).run Try.prog w = .ok () w := by kernel_rfl
theorem gd_d (i j : Nat) (w : World) : (eqGuard .eql 34 (.tmp i) (.tmp j) (.agg #[.int .i64 0, .int .i64 9, .int .i64 0, .int .i64 0, .int .i64 0, .int .i64 0, .int .i64 0, .int .i64 0]) (attV 0 [.int .i64 9])).run Try.prog w = .ok () w := by kernel_rfl
set_option maxRecDepth 4000 in
set_option maxHeartbeats 8000000 in
theorem interfRuns_any (w : World) : Calls Try.prog 3 #[] w fun e w' => e = .returned (.bool true) ∧ Below w.heap.size w w' := by
  go_enter Try.func3, Try.ntmps3
  go_wp2_with fail
  refine (new_any _).mono ?_
  rintro e w1 ⟨rfl, hx, hb⟩
  have HX := Lib.hid hx; have HB := Lib.hid hb
  have HGE := Lib.hid (show w.heap.size ≤ w.heap.size + 1 from Nat.le_succ _)
  have HBE := Lib.hid (show w.heap.size ≤ w.heap.size from Nat.le_refl _)
  clear hx hb
  generalize w.heap.size + 1 = g at HX HGE ⊢
  obtain ⟨b, hb⟩ : ∃ b, b = w.heap.size := ⟨_, rfl⟩
  replace HX := Lib.hid (show IxAt w1 g b 0 (fun _ => 0) [] by rw [hb]; exact HX.out)
  have HBE := Lib.hid (show w.heap.size ≤ b by omega)
  clear hb
  go_wp2_with fail
  refine (at_any 0 1 _).mono ?_
  rintro e w2 ⟨rfl, hb⟩
  replace HX := Lib.hid (HX.out.below hb); replace HB := Lib.hid (below_next HB.out hb)
  clear hb
  go_wp2_with fail
  refine (of_cmd 2 1 ⟨#[97]⟩ _).mono ?_
  rintro e w3 ⟨rfl, hb⟩
  replace HX := Lib.hid (HX.out.below hb); replace HB := Lib.hid (below_next HB.out hb)
  clear hb
  go_wp2_with fail
  have hnote := note_any g b 0 (fun _ => 0) [] 0 1 (cA 2 1) 4 w3 HX.out (by omega)
  rw [note_1, if_pos rfl] at hnote
  refine hnote.mono ?_
  rintro e w4 ⟨rfl, hx, ht⟩
  replace HB := Lib.hid (HB.out.trans (ht.below HBE.out HB.out.size))
  replace HX := Lib.hid (show IxAt w4 g b 1 (fun _ => 0) l1 from hx)
  clear ht hx hnote
  go_wp2_with fail
  refine (at_any 1 3 _).mono ?_
  rintro e w5 ⟨rfl, hb⟩
  replace HX := Lib.hid (HX.out.below hb); replace HB := Lib.hid (below_next HB.out hb)
  clear hb
  go_wp2_with fail
  refine (of_cmd 1 2 ⟨#[97]⟩ _).mono ?_
  rintro e w6 ⟨rfl, hb⟩
  replace HX := Lib.hid (HX.out.below hb); replace HB := Lib.hid (below_next HB.out hb)
  clear hb
  go_wp2_with fail
  have hnote := note_any g b 1 (fun _ => 0) l1 1 3 (cA 1 2) 2 w6 HX.out (by omega)
  rw [note_2, if_pos rfl] at hnote
  refine hnote.mono ?_
  rintro e w7 ⟨rfl, hx, ht⟩
  replace HB := Lib.hid (HB.out.trans (ht.below HBE.out HB.out.size))
  replace HX := Lib.hid (show IxAt w7 g b 2 (fun _ => 0) l2 from hx)
  clear ht hx hnote
  go_wp2_with fail
  refine (at_any 2 1 _).mono ?_
  rintro e w8 ⟨rfl, hb⟩
  replace HX := Lib.hid (HX.out.below hb); replace HB := Lib.hid (below_next HB.out hb)
  clear hb
  go_wp2_with fail
  refine (of_cmd 2 3 ⟨#[97]⟩ _).mono ?_
  rintro e w9 ⟨rfl, hb⟩
  replace HX := Lib.hid (HX.out.below hb); replace HB := Lib.hid (below_next HB.out hb)
  clear hb
  go_wp2_with fail
  have hat := attr_any g b 2 (fun _ => 0) l2 2 1 (cA 2 3) w9 HX.out (by decide)
  rw [attr_a] at hat
  refine hat.mono ?_
  rintro e w10 ⟨rfl, hb⟩
  replace HX := Lib.hid (HX.out.below hb); replace HB := Lib.hid (below_next HB.out hb)
  clear hb hat
  go_wp2_with fail
  refine (at_any 2 1 _).mono ?_
  rintro e w11 ⟨rfl, hb⟩
  replace HX := Lib.hid (HX.out.below hb); replace HB := Lib.hid (below_next HB.out hb)
  clear hb
  go_wp2_with fail
  refine (of_cmd 1 3 ⟨#[97]⟩ _).mono ?_
  rintro e w12 ⟨rfl, hb⟩
  replace HX := Lib.hid (HX.out.below hb); replace HB := Lib.hid (below_next HB.out hb)
  clear hb
  go_wp2_with fail
  have hat := attr_any g b 2 (fun _ => 0) l2 2 1 (cA 1 3) w12 HX.out (by decide)
  rw [attr_b] at hat
  refine hat.mono ?_
  rintro e w13 ⟨rfl, hb⟩
  replace HX := Lib.hid (HX.out.below hb); replace HB := Lib.hid (below_next HB.out hb)
  clear hb hat
  go_wp2_with fail
  refine (at_any 0 5 _).mono ?_
  rintro e w14 ⟨rfl, hb⟩
  replace HX := Lib.hid (HX.out.below hb); replace HB := Lib.hid (below_next HB.out hb)
  clear hb
  go_wp2_with fail
  refine (of_cmd 1 3 ⟨#[98]⟩ _).mono ?_
  rintro e w15 ⟨rfl, hb⟩
  replace HX := Lib.hid (HX.out.below hb); replace HB := Lib.hid (below_next HB.out hb)
  clear hb
  go_wp2_with fail
  have hat := attr_any g b 2 (fun _ => 0) l2 0 5 (cB 1 3) w15 HX.out (by decide)
  rw [attr_c] at hat
  refine hat.mono ?_
  rintro e w16 ⟨rfl, hb⟩
  replace HX := Lib.hid (HX.out.below hb); replace HB := Lib.hid (below_next HB.out hb)
  clear hb hat
  go_wp2_with fail
  go_wp2_with fail
  obtain ⟨W5, hW5⟩ : ∃ W5, ((w16.alloc (.cells #[.int .i64 5, .int .i64 1, .int .i64 3, .int .i64 0, .int .i64 0, .int .i64 0, .int .i64 0, .int .i64 0] 34)).alloc (.cells #[.int .i64 5, .int .i64 1, .int .i64 0, .int .i64 0, .int .i64 0, .int .i64 0, .int .i64 0, .int .i64 0] 34)).alloc (.cells #[.int .i64 0, .int .i64 4, .int .i64 0, .int .i64 0, .int .i64 0, .int .i64 0, .int .i64 0, .int .i64 0] 34) = W5 := ⟨_, rfl⟩
  rw [hW5]
  have hsz : W5.heap.size = w16.heap.size + 1 + 1 + 1 := by rw [← hW5]; simp
  rw [← hsz]
  have hlt16 := HX.out.lt
  have HNE := Lib.hid (show (w16.heap.size ≠ g ∧ w16.heap.size ≠ b) ∧ (w16.heap.size + 1 ≠ g ∧ w16.heap.size + 1 ≠ b) ∧ (w16.heap.size + 1 + 1 ≠ g ∧ w16.heap.size + 1 + 1 ≠ b) by omega)
  clear hlt16
  have hB5 : Below w16.heap.size w16 W5 := by rw [← hW5]; go_grown
  replace HX := Lib.hid (HX.out.below hB5); replace HB := Lib.hid (below_next HB.out hB5)
  have hA : Holds W5 w16.heap.size 34 [.int .i64 5, .int .i64 1, .int .i64 3, .int .i64 0, .int .i64 0, .int .i64 0, .int .i64 0, .int .i64 0] := by rw [← hW5]; exact holds_past (holds_past (holds_alloc w16 _ [.int .i64 5, .int .i64 1, .int .i64 3, .int .i64 0, .int .i64 0, .int .i64 0, .int .i64 0, .int .i64 0]) _) _
  have hA2 : Holds W5 (w16.heap.size + 1) 34 [.int .i64 5, .int .i64 1, .int .i64 0, .int .i64 0, .int .i64 0, .int .i64 0, .int .i64 0, .int .i64 0] := by
    rw [← hW5]
    have := holds_alloc (w16.alloc (.cells ([.int .i64 5, .int .i64 1, .int .i64 3, .int .i64 0, .int .i64 0, .int .i64 0, .int .i64 0, .int .i64 0] : List Value).toArray 34)) 34 [.int .i64 5, .int .i64 1, .int .i64 0, .int .i64 0, .int .i64 0, .int .i64 0, .int .i64 0, .int .i64 0]
    rw [World.size_alloc] at this
    exact holds_past this _
  have hA3 : Holds W5 (w16.heap.size + 1 + 1) 34 [.int .i64 0, .int .i64 4, .int .i64 0, .int .i64 0, .int .i64 0, .int .i64 0, .int .i64 0, .int .i64 0] := by
    rw [← hW5]
    have := holds_alloc ((w16.alloc (.cells ([.int .i64 5, .int .i64 1, .int .i64 3, .int .i64 0, .int .i64 0, .int .i64 0, .int .i64 0, .int .i64 0] : List Value).toArray 34)).alloc (.cells ([.int .i64 5, .int .i64 1, .int .i64 0, .int .i64 0, .int .i64 0, .int .i64 0, .int .i64 0, .int .i64 0] : List Value).toArray 34)) 34 [.int .i64 0, .int .i64 4, .int .i64 0, .int .i64 0, .int .i64 0, .int .i64 0, .int .i64 0, .int .i64 0]
    rw [World.size_alloc, World.size_alloc] at this
    exact this
  have HA := Lib.hid hA; have HA2 := Lib.hid hA2; have HA3 := Lib.hid hA3
  clear hW5 hsz hB5 hA hA2 hA3
  generalize w16.heap.size + 1 + 1 = g4 at HA3 HNE ⊢
  generalize w16.heap.size + 1 = g3 at HA2 HNE ⊢
  generalize w16.heap.size = g2 at HA HNE ⊢
  have hs9 := attr_lit W5.heap.size 1 (fun _ => 9) 0 (W5.alloc (.cells #[.int .i64 9] 3)) (by omega) (by rw [World.size_alloc]; omega) (fun i hi => by
    have : i = 0 := by omega
    subst this
    exact (holds_alloc W5 3 [.int .i64 9]).cell 0)
  rw [lit_9] at hs9
  refine hs9.mono ?_
  rintro e w17 ⟨rfl, hb⟩
  have hb17 : Below W5.heap.size W5 w17 := below_next ((Below.refl _ _).alloc (Nat.le_refl _) _) hb
  replace HX := Lib.hid (HX.out.below hb17); replace HB := Lib.hid (below_next HB.out hb17)
  replace HA := Lib.hid (HA.out.below hb17 HA.out.lt); replace HA2 := Lib.hid (HA2.out.below hb17 HA2.out.lt); replace HA3 := Lib.hid (HA3.out.below hb17 HA3.out.lt)
  clear hs9 hb hb17
  have hfield : (Instr.field 34 (.agg #[.int .i64 0, .int .i64 9, .int .i64 0, .int .i64 0, .int .i64 0, .int .i64 0, .int .i64 0, .int .i64 0]) 1).run Try.prog w17 = .ok (.agg #[.int .i64 9, .int .i64 0, .int .i64 0, .int .i64 0, .int .i64 0, .int .i64 0, .int .i64 0]) w17 := by kernel_rfl
  go_wp2_with fail
  clear hfield
  have hpr := prune_any g b 2 (fun _ => 0) u9 l2 w17 HX.out
  rw [show (cutL u9).toArray = #[.int .i64 9, .int .i64 0, .int .i64 0, .int .i64 0, .int .i64 0, .int .i64 0, .int .i64 0] from by kernel_rfl] at hpr
  refine hpr.mono ?_
  rintro e w18 ⟨rfl, hx, ht⟩
  replace HB := Lib.hid (HB.out.trans (ht.under HGE.out HBE.out HB.out.size))
  have hsame : ∀ k, k < w17.heap.size → k ≠ g → k ≠ b → ∀ L, Holds w17 k 34 L → Holds w18 k 34 L := fun k hk h1 h2 L h => by unfold Holds at *; rw [ht.block k hk h1 h2]; exact h
  replace HA := Lib.hid (hsame _ HA.out.lt HNE.out.1.1 HNE.out.1.2 _ HA.out)
  replace HA2 := Lib.hid (hsame _ HA2.out.lt HNE.out.2.1.1 HNE.out.2.1.2 _ HA2.out)
  replace HA3 := Lib.hid (hsame _ HA3.out.lt HNE.out.2.2.1 HNE.out.2.2.2 _ HA3.out)
  replace HX := Lib.hid hx
  clear hpr hx ht hsame
  have HFX := Lib.hid (show Fx w g b 2 (newCut (fun _ => 0) u9) (pruned l2 (newCut (fun _ => 0) u9)) g2 g3 g4 [.int .i64 5, .int .i64 1, .int .i64 3, .int .i64 0, .int .i64 0, .int .i64 0, .int .i64 0, .int .i64 0] [.int .i64 5, .int .i64 1, .int .i64 0, .int .i64 0, .int .i64 0, .int .i64 0, .int .i64 0, .int .i64 0] [.int .i64 0, .int .i64 4, .int .i64 0, .int .i64 0, .int .i64 0, .int .i64 0, .int .i64 0, .int .i64 0] w18 from ⟨HB.out, HX.out, HA.out, HA2.out, HA3.out⟩)
  clear HA HA2 HA3 HB HX HGE HBE HNE
  have HK := Lib.hid (show ∀ W, Fx w g b 2 (newCut (fun _ => 0) u9) (pruned l2 (newCut (fun _ => 0) u9)) g2 g3 g4 [.int .i64 5, .int .i64 1, .int .i64 3, .int .i64 0, .int .i64 0, .int .i64 0, .int .i64 0, .int .i64 0] [.int .i64 5, .int .i64 1, .int .i64 0, .int .i64 0, .int .i64 0, .int .i64 0, .int .i64 0, .int .i64 0] [.int .i64 0, .int .i64 4, .int .i64 0, .int .i64 0, .int .i64 0, .int .i64 0, .int .i64 0, .int .i64 0] W → (fun W => Fx w g b 2 (newCut (fun _ => 0) u9) (pruned l2 (newCut (fun _ => 0) u9)) g2 g3 g4 [.int .i64 5, .int .i64 1, .int .i64 3, .int .i64 0, .int .i64 0, .int .i64 0, .int .i64 0, .int .i64 0] [.int .i64 5, .int .i64 1, .int .i64 0, .int .i64 0, .int .i64 0, .int .i64 0, .int .i64 0, .int .i64 0] [.int .i64 0, .int .i64 4, .int .i64 0, .int .i64 0, .int .i64 0, .int .i64 0, .int .i64 0, .int .i64 0] W ∧ (W.cell? ⟨g2, 0, none⟩ = some (.int .i64 5) ∧ W.cell? ⟨g2, 1, none⟩ = some (.int .i64 1) ∧ W.cell? ⟨g2, 2, none⟩ = some (.int .i64 3) ∧ W.cell? ⟨g2, 3, none⟩ = some (.int .i64 0) ∧ W.cell? ⟨g2, 4, none⟩ = some (.int .i64 0) ∧ W.cell? ⟨g2, 5, none⟩ = some (.int .i64 0) ∧ W.cell? ⟨g2, 6, none⟩ = some (.int .i64 0) ∧ W.cell? ⟨g2, 7, none⟩ = some (.int .i64 0)) ∧ (W.cell? ⟨g3, 0, none⟩ = some (.int .i64 5) ∧ W.cell? ⟨g3, 1, none⟩ = some (.int .i64 1) ∧ W.cell? ⟨g3, 2, none⟩ = some (.int .i64 0) ∧ W.cell? ⟨g3, 3, none⟩ = some (.int .i64 0) ∧ W.cell? ⟨g3, 4, none⟩ = some (.int .i64 0) ∧ W.cell? ⟨g3, 5, none⟩ = some (.int .i64 0) ∧ W.cell? ⟨g3, 6, none⟩ = some (.int .i64 0) ∧ W.cell? ⟨g3, 7, none⟩ = some (.int .i64 0)) ∧ (W.cell? ⟨g4, 0, none⟩ = some (.int .i64 0) ∧ W.cell? ⟨g4, 1, none⟩ = some (.int .i64 4) ∧ W.cell? ⟨g4, 2, none⟩ = some (.int .i64 0) ∧ W.cell? ⟨g4, 3, none⟩ = some (.int .i64 0) ∧ W.cell? ⟨g4, 4, none⟩ = some (.int .i64 0) ∧ W.cell? ⟨g4, 5, none⟩ = some (.int .i64 0) ∧ W.cell? ⟨g4, 6, none⟩ = some (.int .i64 0) ∧ W.cell? ⟨g4, 7, none⟩ = some (.int .i64 0))) W from fun W h => ⟨h, cellsOf8 h.a2, cellsOf8 h.a3, cellsOf8 h.a4⟩)
  have HF := Lib.hid (fun W W' (h : (fun W => Fx w g b 2 (newCut (fun _ => 0) u9) (pruned l2 (newCut (fun _ => 0) u9)) g2 g3 g4 [.int .i64 5, .int .i64 1, .int .i64 3, .int .i64 0, .int .i64 0, .int .i64 0, .int .i64 0, .int .i64 0] [.int .i64 5, .int .i64 1, .int .i64 0, .int .i64 0, .int .i64 0, .int .i64 0, .int .i64 0, .int .i64 0] [.int .i64 0, .int .i64 4, .int .i64 0, .int .i64 0, .int .i64 0, .int .i64 0, .int .i64 0, .int .i64 0] W ∧ (W.cell? ⟨g2, 0, none⟩ = some (.int .i64 5) ∧ W.cell? ⟨g2, 1, none⟩ = some (.int .i64 1) ∧ W.cell? ⟨g2, 2, none⟩ = some (.int .i64 3) ∧ W.cell? ⟨g2, 3, none⟩ = some (.int .i64 0) ∧ W.cell? ⟨g2, 4, none⟩ = some (.int .i64 0) ∧ W.cell? ⟨g2, 5, none⟩ = some (.int .i64 0) ∧ W.cell? ⟨g2, 6, none⟩ = some (.int .i64 0) ∧ W.cell? ⟨g2, 7, none⟩ = some (.int .i64 0)) ∧ (W.cell? ⟨g3, 0, none⟩ = some (.int .i64 5) ∧ W.cell? ⟨g3, 1, none⟩ = some (.int .i64 1) ∧ W.cell? ⟨g3, 2, none⟩ = some (.int .i64 0) ∧ W.cell? ⟨g3, 3, none⟩ = some (.int .i64 0) ∧ W.cell? ⟨g3, 4, none⟩ = some (.int .i64 0) ∧ W.cell? ⟨g3, 5, none⟩ = some (.int .i64 0) ∧ W.cell? ⟨g3, 6, none⟩ = some (.int .i64 0) ∧ W.cell? ⟨g3, 7, none⟩ = some (.int .i64 0)) ∧ (W.cell? ⟨g4, 0, none⟩ = some (.int .i64 0) ∧ W.cell? ⟨g4, 1, none⟩ = some (.int .i64 4) ∧ W.cell? ⟨g4, 2, none⟩ = some (.int .i64 0) ∧ W.cell? ⟨g4, 3, none⟩ = some (.int .i64 0) ∧ W.cell? ⟨g4, 4, none⟩ = some (.int .i64 0) ∧ W.cell? ⟨g4, 5, none⟩ = some (.int .i64 0) ∧ W.cell? ⟨g4, 6, none⟩ = some (.int .i64 0) ∧ W.cell? ⟨g4, 7, none⟩ = some (.int .i64 0))) W) (hb : Below W.heap.size W W') => h.1.below hb)
  have HAT := Lib.hid (fun W (h : (fun W => Fx w g b 2 (newCut (fun _ => 0) u9) (pruned l2 (newCut (fun _ => 0) u9)) g2 g3 g4 [.int .i64 5, .int .i64 1, .int .i64 3, .int .i64 0, .int .i64 0, .int .i64 0, .int .i64 0, .int .i64 0] [.int .i64 5, .int .i64 1, .int .i64 0, .int .i64 0, .int .i64 0, .int .i64 0, .int .i64 0, .int .i64 0] [.int .i64 0, .int .i64 4, .int .i64 0, .int .i64 0, .int .i64 0, .int .i64 0, .int .i64 0, .int .i64 0] W ∧ (W.cell? ⟨g2, 0, none⟩ = some (.int .i64 5) ∧ W.cell? ⟨g2, 1, none⟩ = some (.int .i64 1) ∧ W.cell? ⟨g2, 2, none⟩ = some (.int .i64 3) ∧ W.cell? ⟨g2, 3, none⟩ = some (.int .i64 0) ∧ W.cell? ⟨g2, 4, none⟩ = some (.int .i64 0) ∧ W.cell? ⟨g2, 5, none⟩ = some (.int .i64 0) ∧ W.cell? ⟨g2, 6, none⟩ = some (.int .i64 0) ∧ W.cell? ⟨g2, 7, none⟩ = some (.int .i64 0)) ∧ (W.cell? ⟨g3, 0, none⟩ = some (.int .i64 5) ∧ W.cell? ⟨g3, 1, none⟩ = some (.int .i64 1) ∧ W.cell? ⟨g3, 2, none⟩ = some (.int .i64 0) ∧ W.cell? ⟨g3, 3, none⟩ = some (.int .i64 0) ∧ W.cell? ⟨g3, 4, none⟩ = some (.int .i64 0) ∧ W.cell? ⟨g3, 5, none⟩ = some (.int .i64 0) ∧ W.cell? ⟨g3, 6, none⟩ = some (.int .i64 0) ∧ W.cell? ⟨g3, 7, none⟩ = some (.int .i64 0)) ∧ (W.cell? ⟨g4, 0, none⟩ = some (.int .i64 0) ∧ W.cell? ⟨g4, 1, none⟩ = some (.int .i64 4) ∧ W.cell? ⟨g4, 2, none⟩ = some (.int .i64 0) ∧ W.cell? ⟨g4, 3, none⟩ = some (.int .i64 0) ∧ W.cell? ⟨g4, 4, none⟩ = some (.int .i64 0) ∧ W.cell? ⟨g4, 5, none⟩ = some (.int .i64 0) ∧ W.cell? ⟨g4, 6, none⟩ = some (.int .i64 0) ∧ W.cell? ⟨g4, 7, none⟩ = some (.int .i64 0))) W) => attr_any g b 2 (newCut (fun _ => 0) u9) (pruned l2 (newCut (fun _ => 0) u9)) 2 1 (cA 1 3) W h.1.ix (by decide))
  rw [attr_e] at HAT
  have HLN := Lib.hid (fun W (h : (fun W => Fx w g b 2 (newCut (fun _ => 0) u9) (pruned l2 (newCut (fun _ => 0) u9)) g2 g3 g4 [.int .i64 5, .int .i64 1, .int .i64 3, .int .i64 0, .int .i64 0, .int .i64 0, .int .i64 0, .int .i64 0] [.int .i64 5, .int .i64 1, .int .i64 0, .int .i64 0, .int .i64 0, .int .i64 0, .int .i64 0, .int .i64 0] [.int .i64 0, .int .i64 4, .int .i64 0, .int .i64 0, .int .i64 0, .int .i64 0, .int .i64 0, .int .i64 0] W ∧ (W.cell? ⟨g2, 0, none⟩ = some (.int .i64 5) ∧ W.cell? ⟨g2, 1, none⟩ = some (.int .i64 1) ∧ W.cell? ⟨g2, 2, none⟩ = some (.int .i64 3) ∧ W.cell? ⟨g2, 3, none⟩ = some (.int .i64 0) ∧ W.cell? ⟨g2, 4, none⟩ = some (.int .i64 0) ∧ W.cell? ⟨g2, 5, none⟩ = some (.int .i64 0) ∧ W.cell? ⟨g2, 6, none⟩ = some (.int .i64 0) ∧ W.cell? ⟨g2, 7, none⟩ = some (.int .i64 0)) ∧ (W.cell? ⟨g3, 0, none⟩ = some (.int .i64 5) ∧ W.cell? ⟨g3, 1, none⟩ = some (.int .i64 1) ∧ W.cell? ⟨g3, 2, none⟩ = some (.int .i64 0) ∧ W.cell? ⟨g3, 3, none⟩ = some (.int .i64 0) ∧ W.cell? ⟨g3, 4, none⟩ = some (.int .i64 0) ∧ W.cell? ⟨g3, 5, none⟩ = some (.int .i64 0) ∧ W.cell? ⟨g3, 6, none⟩ = some (.int .i64 0) ∧ W.cell? ⟨g3, 7, none⟩ = some (.int .i64 0)) ∧ (W.cell? ⟨g4, 0, none⟩ = some (.int .i64 0) ∧ W.cell? ⟨g4, 1, none⟩ = some (.int .i64 4) ∧ W.cell? ⟨g4, 2, none⟩ = some (.int .i64 0) ∧ W.cell? ⟨g4, 3, none⟩ = some (.int .i64 0) ∧ W.cell? ⟨g4, 4, none⟩ = some (.int .i64 0) ∧ W.cell? ⟨g4, 5, none⟩ = some (.int .i64 0) ∧ W.cell? ⟨g4, 6, none⟩ = some (.int .i64 0) ∧ W.cell? ⟨g4, 7, none⟩ = some (.int .i64 0))) W) => len_any g b 2 (newCut (fun _ => 0) u9) (pruned l2 (newCut (fun _ => 0) u9)) W h.1.ix)
  rw [len_e] at HLN
  have hea := eq_a; have heb := eq_b; have hec := eq_c; have hed := eq_d
  have hga := gd_a; have hgb := gd_b; have hgc := gd_c; have hgd := gd_d
  go_upto_region 6 with (fail)
  go_region_held3 (fun W => Fx w g b 2 (newCut (fun _ => 0) u9) (pruned l2 (newCut (fun _ => 0) u9)) g2 g3 g4 [.int .i64 5, .int .i64 1, .int .i64 3, .int .i64 0, .int .i64 0, .int .i64 0, .int .i64 0, .int .i64 0] [.int .i64 5, .int .i64 1, .int .i64 0, .int .i64 0, .int .i64 0, .int .i64 0, .int .i64 0, .int .i64 0] [.int .i64 0, .int .i64 4, .int .i64 0, .int .i64 0, .int .i64 0, .int .i64 0, .int .i64 0, .int .i64 0] W ∧ (W.cell? ⟨g2, 0, none⟩ = some (.int .i64 5) ∧ W.cell? ⟨g2, 1, none⟩ = some (.int .i64 1) ∧ W.cell? ⟨g2, 2, none⟩ = some (.int .i64 3) ∧ W.cell? ⟨g2, 3, none⟩ = some (.int .i64 0) ∧ W.cell? ⟨g2, 4, none⟩ = some (.int .i64 0) ∧ W.cell? ⟨g2, 5, none⟩ = some (.int .i64 0) ∧ W.cell? ⟨g2, 6, none⟩ = some (.int .i64 0) ∧ W.cell? ⟨g2, 7, none⟩ = some (.int .i64 0)) ∧ (W.cell? ⟨g3, 0, none⟩ = some (.int .i64 5) ∧ W.cell? ⟨g3, 1, none⟩ = some (.int .i64 1) ∧ W.cell? ⟨g3, 2, none⟩ = some (.int .i64 0) ∧ W.cell? ⟨g3, 3, none⟩ = some (.int .i64 0) ∧ W.cell? ⟨g3, 4, none⟩ = some (.int .i64 0) ∧ W.cell? ⟨g3, 5, none⟩ = some (.int .i64 0) ∧ W.cell? ⟨g3, 6, none⟩ = some (.int .i64 0) ∧ W.cell? ⟨g3, 7, none⟩ = some (.int .i64 0)) ∧ (W.cell? ⟨g4, 0, none⟩ = some (.int .i64 0) ∧ W.cell? ⟨g4, 1, none⟩ = some (.int .i64 4) ∧ W.cell? ⟨g4, 2, none⟩ = some (.int .i64 0) ∧ W.cell? ⟨g4, 3, none⟩ = some (.int .i64 0) ∧ W.cell? ⟨g4, 4, none⟩ = some (.int .i64 0) ∧ W.cell? ⟨g4, 5, none⟩ = some (.int .i64 0) ∧ W.cell? ⟨g4, 6, none⟩ = some (.int .i64 0) ∧ W.cell? ⟨g4, 7, none⟩ = some (.int .i64 0)))
    (first
      | exact HK.out _ (by assumption)
      | exact HK.out _ (HFX.out.below (drew_below _ _))
      | exact HK.out _ (HF.out _ _ (by assumption) (below_drew_alloc _ _))
      | (refine HK.out _ (HF.out _ _ (by assumption) ?_); go_grown; done))
    (first
      | (go_at_call 14; refine Calls.mono (attr_pick (by first | with_reducible exact (holds_alloc_drew _ _ _) | with_reducible exact (holds_alloc _ _ _) | with_reducible exact ((holds_alloc _ _ _).bel (by assumption)) | with_reducible exact (((holds_alloc _ _ _).bel (by assumption)).bel (by assumption)) | with_reducible exact ((((holds_alloc _ _ _).bel (by assumption)).bel (by assumption)).bel (by assumption))) (by rfl) (by rfl) (by decide)) ?_; rintro e w' ⟨rfl, hb⟩; have hfx := HF.out _ _ (by assumption) hb)
      | (go_at_call 10; refine (at_any _ _ _).mono ?_; rintro e w' ⟨rfl, hb⟩; have hfx := HF.out _ _ (by assumption) hb)
      | (go_at_call 11; refine (of_cmd _ _ _ _).mono ?_; rintro e w' ⟨rfl, hb⟩; have hfx := HF.out _ _ (by assumption) hb)
      | (go_at_call 12; refine (HAT.out _ (by assumption)).mono ?_; rintro e w' ⟨rfl, hb⟩; have hfx := HF.out _ _ (by assumption) hb)
      | (go_at_call 15; refine (HLN.out _ (by assumption)).mono ?_; rintro e w' ⟨rfl, hb⟩; have hfx := HF.out _ _ (by assumption) hb))
  all_goals
    have HE := Lib.hid hfx.bel
    clear hfx HFX HK HF HAT HLN
    go_wp2_with fail
    go_ret
    exact ⟨rfl, HE.out⟩
end Go.Proofs.Ytleagecocffihaa
