/-
  The walk of Attr.
-/
import Derived.Test.YtleagecocffihaaIfAttrP
namespace Go.Proofs.Ytleagecocffihaa
open Go.RowKit Go.Maps
set_option linter.unusedVariables false
set_option linter.unusedSimpArgs false

def attL (q : Int) (d : Nat → Int) : List Value := .int .i64 q :: cutL d
theorem grownBy_of_touch {w w' : World} {b : Nat} (h : Touch b w w') : w.grownBy w' (some b) := ⟨h.os, h.tape, h.output, h.size, fun k hk hne => h.block k hk (fun e => hne (by rw [e]))⟩
theorem att_set (q : Int) (d : Nat → Int) (k : Nat) (hk : k < 7) (v : Int) : (attL q d).set (1 + k) (.int .i64 v) = attL q fun j => if j = k then v else d j := by
  have : k = 0 ∨ k = 1 ∨ k = 2 ∨ k = 3 ∨ k = 4 ∨ k = 5 ∨ k = 6 := by omega
  rcases this with rfl | rfl | rfl | rfl | rfl | rfl | rfl <;> rfl
/-- Under way over the map: what has come is in A's box. -/
structure Rd (w wr : World) (g b n : Nat) (d : Nat → Int) (l : List Ent) (r s : Int) (c : Cm) (D : DataW Value) (left : Lit → Bool) (cnt : Nat) (gi gc gr ga R : Nat) (vis : Ent → Bool) : Prop where
  bel : Below w.heap.size w wr
  ix : IxAt wr g b n d l
  li : Lists D l
  rg : wr.ranges Try.prog 26 readN b R n D left cnt
  hi : Holds wr gi 26 [.int .i64 r, .int .i64 s]
  hc : Holds wr gc 29 c.cells
  hr : Holds wr gr 34 (attL 0 fun _ => 0)
  ha : Holds wr ga 34 (attL (seqOf l vis) fun j => depOf l vis j)
  lo : w.heap.size ≤ ga ∧ w.heap.size ≤ R ∧ w.heap.size ≤ gr
  ne : gi ≠ ga ∧ gc ≠ ga ∧ g ≠ ga ∧ b ≠ ga ∧ R ≠ ga ∧ gr ≠ ga
  nr : gi ≠ R ∧ gc ≠ R ∧ g ≠ R ∧ gr ≠ R
theorem Rd.below {w wr w2 : World} {g b n : Nat} {d : Nat → Int} {l : List Ent} {r s : Int} {c : Cm} {D : DataW Value} {left : Lit → Bool} {cnt : Nat} {gi gc gr ga R : Nat} {vis : Ent → Bool} (h : Rd w wr g b n d l r s c D left cnt gi gc gr ga R vis) (hb : Below wr.heap.size wr w2) : Rd w w2 g b n d l r s c D left cnt gi gc gr ga R vis :=
  ⟨below_next h.bel hb, h.ix.below hb, h.li, h.rg.kept (row := none) ⟨hb.os, hb.tape, hb.output, hb.size, fun k hk _ => hb.block k hk⟩ (by simp) (by simp), h.hi.below hb h.hi.lt, h.hc.below hb h.hc.lt, h.hr.below hb h.hr.lt, h.ha.below hb h.ha.lt, h.lo, h.ne, h.nr⟩
/-- The box of A has been written. -/
theorem Rd.wrote {w wr w2 : World} {g b n : Nat} {d : Nat → Int} {l : List Ent} {r s : Int} {c : Cm} {D : DataW Value} {left : Lit → Bool} {cnt : Nat} {gi gc gr ga R : Nat} {vis : Ent → Bool} {vis' : Ent → Bool} (h : Rd w wr g b n d l r s c D left cnt gi gc gr ga R vis) (ht : Touch ga wr w2) (ha : Holds w2 ga 34 (attL (seqOf l vis') fun j => depOf l vis' j)) : Rd w w2 g b n d l r s c D left cnt gi gc gr ga R vis' :=
  ⟨h.bel.trans (ht.below h.lo.1 h.bel.size), h.ix.touch ht h.ne.2.2.1 h.ne.2.2.2.1, h.li, h.rg.kept (grownBy_of_touch ht) (by simpa using h.ne.2.2.2.1) (by simpa using h.ne.2.2.2.2.1), h.hi.touch ht h.ne.1, h.hc.touch ht h.ne.2.1, h.hr.touch ht h.ne.2.2.2.2.2, ha, h.lo, h.ne, h.nr⟩
/-- The iterator has gone on. -/
theorem Rd.gone {w wr w2 : World} {g b n : Nat} {d : Nat → Int} {l : List Ent} {r s : Int} {c : Cm} {D : DataW Value} {left : Lit → Bool} {cnt : Nat} {gi gc gr ga R : Nat} {vis : Ent → Bool} {left' : Lit → Bool} {cnt' : Nat} (h : Rd w wr g b n d l r s c D left cnt gi gc gr ga R vis) (hg : wr.grownBy w2 (some R)) (hrg : w2.ranges Try.prog 26 readN b R n D left' cnt') : Rd w w2 g b n d l r s c D left' cnt' gi gc gr ga R vis := by
  have ht := touch_of_grownBy hg
  exact ⟨h.bel.trans (ht.below h.lo.2.1 h.bel.size), h.ix.touch ht h.nr.2.2.1 (fun e => h.rg.ne e.symm), h.li, hrg, h.hi.touch ht h.nr.1, h.hc.touch ht h.nr.2.1, h.hr.touch ht h.nr.2.2.2, h.ha.touch ht (fun e => h.ne.2.2.2.2.1 e.symm), h.lo, h.ne, h.nr⟩
theorem Rd.same {w wr : World} {g b n : Nat} {d : Nat → Int} {l : List Ent} {r s : Int} {c : Cm} {D : DataW Value} {left : Lit → Bool} {cnt : Nat} {gi gc gr ga R : Nat} {vis : Ent → Bool} {vis' : Ent → Bool} (h : Rd w wr g b n d l r s c D left cnt gi gc gr ga R vis) (h1 : seqOf l vis' = seqOf l vis) (h2 : ∀ j, depOf l vis' j = depOf l vis j) : Rd w wr g b n d l r s c D left cnt gi gc gr ga R vis' :=
  ⟨h.bel, h.ix, h.li, h.rg, h.hi, h.hc, h.hr, by rw [h1, show (fun j : Nat => depOf l vis' j) = fun j : Nat => depOf l vis j from funext fun j => h2 j]; exact h.ha, h.lo, h.ne, h.nr⟩
/-- Behind the map: A's box holds q and dd. -/
structure Re (w wr : World) (g b n : Nat) (d : Nat → Int) (l : List Ent) (r s : Int) (gi gr ga : Nat) (q : Int) (dd : Nat → Int) : Prop where
  bel : Below w.heap.size w wr
  ix : IxAt wr g b n d l
  hi : Holds wr gi 26 [.int .i64 r, .int .i64 s]
  hr : Holds wr gr 34 (attL 0 fun _ => 0)
  ha : Holds wr ga 34 (attL q dd)
  lo : w.heap.size ≤ ga ∧ w.heap.size ≤ gr
  ne : gi ≠ ga ∧ g ≠ ga ∧ b ≠ ga ∧ gr ≠ ga
theorem Re.below {w wr w2 : World} {g b n : Nat} {d : Nat → Int} {l : List Ent} {r s : Int} {gi gr ga : Nat} {q : Int} {dd : Nat → Int} (h : Re w wr g b n d l r s gi gr ga q dd) (hb : Below wr.heap.size wr w2) : Re w w2 g b n d l r s gi gr ga q dd :=
  ⟨below_next h.bel hb, h.ix.below hb, h.hi.below hb h.hi.lt, h.hr.below hb h.hr.lt, h.ha.below hb h.ha.lt, h.lo, h.ne⟩
theorem Re.wrote {w wr w2 : World} {g b n : Nat} {d : Nat → Int} {l : List Ent} {r s : Int} {gi gr ga : Nat} {q q' : Int} {dd dd' : Nat → Int} (h : Re w wr g b n d l r s gi gr ga q dd) (ht : Touch ga wr w2) (ha : Holds w2 ga 34 (attL q' dd')) : Re w w2 g b n d l r s gi gr ga q' dd' :=
  ⟨h.bel.trans (ht.below h.lo.1 h.bel.size), h.ix.touch ht h.ne.2.1 h.ne.2.2.1, h.hi.touch ht h.ne.1, h.hr.touch ht h.ne.2.2.2, ha, h.lo, h.ne⟩
set_option maxRecDepth 4000 in
set_option maxHeartbeats 4000000 in
theorem attr_any (g b n : Nat) (d : Nat → Int) (l : List Ent) (r s : Int) (c : Cm) (w : World) (h : IxAt w g b n d l) (hca : c.a.size ≤ 1000000) :
    Calls Try.prog 12 #[.pointer (some ⟨g, 0, none⟩), .agg #[.int .i64 r, .int .i64 s], .agg #[.int .i64 c.k, .int .i64 c.c, .int .i64 c.s, .string c.a, .string c.b, .string c.o, .string c.v]] w fun e w' =>
      e = .returned (.agg (attL (attrQ l r s c) (attrD l d r s c)).toArray) ∧ Below w.heap.size w w' := by
  have HI := Lib.hid h; clear h
  go_enter Try.func12, Try.ntmps12
  go_upto_region 2 with (fail)
  go_name_world W hW
  have hi : Holds W w.heap.size 26 [.int .i64 r, .int .i64 s] := by rw [← hW]; exact holds_past (holds_past (holds_past (holds_alloc w _ _) _) _) _
  have hc : Holds W (w.heap.size + 1) 29 c.cells := by
    rw [← hW]
    have := holds_alloc (w.alloc (.cells #[.int .i64 r, .int .i64 s] 26)) 29 c.cells
    rw [World.size_alloc] at this
    exact holds_past (holds_past this _) _
  have hr : Holds W (w.heap.size + 1 + 1) 34 (attL 0 fun _ => 0) := by
    rw [← hW]
    have := holds_alloc ((w.alloc (.cells #[.int .i64 r, .int .i64 s] 26)).alloc (.cells c.cells.toArray 29)) 34 (attL 0 fun _ => 0)
    rw [World.size_alloc, World.size_alloc] at this
    exact holds_past this _
  have ha : Holds W (w.heap.size + 1 + 1 + 1) 34 (attL 0 fun _ => 0) := by
    rw [← hW]
    have := holds_alloc (((w.alloc (.cells #[.int .i64 r, .int .i64 s] 26)).alloc (.cells c.cells.toArray 29)).alloc (.cells (attL 0 fun _ => 0).toArray 34)) 34 (attL 0 fun _ => 0)
    rw [World.size_alloc, World.size_alloc, World.size_alloc] at this
    exact this
  have HB : Below w.heap.size w W := by rw [← hW]; go_grown
  have hsz : W.heap.size = w.heap.size + 1 + 1 + 1 + 1 := by rw [← hW]; simp
  clear hW
  have hx := HI.out.below HB
  have hglt := HI.out.lt
  obtain ⟨D, hown, hl⟩ := hx.map
  have m0 := hx.ix.cell 0
  simp only [List.getElem?_cons_zero] at m0
  go_wp2_with (first
    | (at_range; refine wpList_range_own _ rfl _ 60 rfl 26 64 keyLaw Try.underlying60 readN b n D rfl hown ?_; intro w0 hrg0 hg0 hs0)
    | fail)
  go_frame
  have hgb := hg0
  have hB0 : Below W.heap.size W w0 := ⟨hg0.os, hg0.tape, hg0.output, hg0.size, fun k hk => hg0.block k hk (by simp)⟩
  have hblt := hx.lt
  have hz0 : seqOf l (visT (Maps.has D) r s c) = 0 := fold_max_none _ l _ fun e he => vis_start hl r s c e he
  have hz1 : ∀ j, depOf l (visT (Maps.has D) r s c) j = 0 := fun j => fold_max_none _ l _ fun e he => by simp [vis_start hl r s c e he]
  have HR := Lib.hid (show Rd w w0 g b n d l r s c D (Maps.has D) (Maps.size D) w.heap.size (w.heap.size + 1) (w.heap.size + 1 + 1) (w.heap.size + 1 + 1 + 1) W.heap.size (visT (Maps.has D) r s c) from
    ⟨below_next HB hB0, hx.below hB0, hl, hrg0, hi.below hB0 hi.lt, hc.below hB0 hc.lt, hr.below hB0 hr.lt, by rw [hz0, funext fun j : Nat => hz1 j]; exact ha.below hB0 ha.lt, ⟨by omega, by omega, by omega⟩, ⟨by omega, by omega, by omega, by omega, by omega, by omega⟩, ⟨by omega, by omega, by omega, by omega⟩⟩)
  clear hgb hB0 hblt hz0 hz1 hi hc hr ha HB hsz hx hglt hown hl m0 hrg0 hg0 hs0 HI
  generalize W.heap.size = R at HR ⊢
  generalize w.heap.size + 1 + 1 + 1 = ga at HR ⊢
  generalize w.heap.size + 1 + 1 = gr at HR ⊢
  generalize w.heap.size + 1 = gc at HR ⊢
  generalize hgi : w.heap.size = gi at HR ⊢
  rw [← hgi]
  rw [hgi]
  go_loopw [8] (fun _ wr => ∃ (left : Lit → Bool) (cnt : Nat), Rd w wr g b n d l r s c D left cnt gi gc gr ga R (visT left r s c)) (fun _ wr => wr.rangeLeft b R)
  case atStart => exact ⟨_, _, HR.out⟩
  case round =>
    clear HR
    obtain ⟨left, cnt, hrd⟩ := hrel
    have hrg := hrd.rg
    have HR := Lib.hid hrd; clear hrd
    go_wp2_with (first
      | (at_next; refine wpList_next_ranges _ rfl _ rfl 26 keyLaw readN (fun p : Int × Int => instV p.1 p.2) (fun v : Value => v) (fun key kl hk => by obtain ⟨r, s, rfl, _⟩ := key_inv hk; exact ⟨(r, s), rfl⟩) (fun v y _ => ⟨v, rfl⟩) b R n D _ _ rfl hrg ?_ ?_)
      | fail)
    · intro hc0 hl0
      have hve : visT left r s c = takes r s c := vis_end hl0 r s c
      rw [hve] at HR
      have HE := Lib.hid (show Re w wr g b n d l r s gi gr ga (attrQ l r s c) (fun j => if j < 0 then attrD l d r s c j else depOf l (takes r s c) j) from
        ⟨HR.out.bel, HR.out.ix, HR.out.hi, HR.out.hr, HR.out.ha, ⟨HR.out.lo.1, HR.out.lo.2.2⟩, ⟨HR.out.ne.1, HR.out.ne.2.2.1, HR.out.ne.2.2.2.1, HR.out.ne.2.2.2.2.2⟩⟩)
      clear HR hve hl0 hc0 hrg
      go_wp2_with fail
      go_loopw [59] (fun i wr => ∃ j : Nat, j ≤ 7 ∧ i = .int .i64 j ∧ Re w wr g b n d l r s gi gr ga (attrQ l r s c) (fun t => if t < j then attrD l d r s c t else depOf l (takes r s c) t)) (fun i _ => 7 - (intOf i).toNat)
      case atStart => exact ⟨0, by omega, rfl, HE.out⟩
      case round =>
        clear HE
        obtain ⟨j, hj, rfl, hre⟩ := hrel
        have HE := Lib.hid hre; clear hre
        by_cases hj7 : j < 7
        · have aj := HE.out.ha.cell (1 + j)
          rw [show attL (attrQ l r s c) (fun t => if t < j then attrD l d r s c t else depOf l (takes r s c) t) = Value.int .i64 (attrQ l r s c) :: cutL (fun t => if t < j then attrD l d r s c t else depOf l (takes r s c) t) from rfl, cut_get _ _ _ hj7, if_neg (Nat.lt_irrefl j)] at aj
          have af := HE.out.ha.free (1 + j)
          have i0 := HE.out.hi.cell 0
          have i1 := HE.out.hi.cell 1
          simp only [List.getElem?_cons_zero, List.getElem?_cons_succ] at i0 i1
          have hstep : ∀ v, v = attrD l d r s c j → attL (attrQ l r s c) (fun t => if t = j then v else if t < j then attrD l d r s c t else depOf l (takes r s c) t) = attL (attrQ l r s c) (fun t => if t < j + 1 then attrD l d r s c t else depOf l (takes r s c) t) := fun v hv => by
            congr 1
            funext t
            by_cases h1 : t = j
            · rw [if_pos h1, if_pos (by omega), h1, hv]
            · rw [if_neg h1]
              by_cases h2 : t < j
              · rw [if_pos h2, if_pos (by omega)]
              · rw [if_neg h2, if_neg (by omega)]
          have HST := Lib.hid hstep; clear hstep
          have hset := fun (W : World) (h : Holds W ga 34 (attL (attrQ l r s c) fun t => if t < j then attrD l d r s c t else depOf l (takes r s c) t)) (v : Int) => by
            have := h.set (1 + j) (.int .i64 v)
            rw [att_set _ _ _ hj7] at this
            exact this
          have HSE := Lib.hid hset; clear hset
          by_cases hjr : ((j : Int) == r) = true
          · have HAD := Lib.hid (show attrD l d r s c j = if rightI r s then max (depOf l (takes r s c) j) (s - 1) else depOf l (takes r s c) j by
              rw [attrD, if_pos (by simpa using hjr)])
            go_wp2_with fail
            refine (right_inst r s _).mono ?_
            rintro e w6 ⟨rfl, hb6⟩
            have HE := Lib.hid (HE.out.below hb6)
            clear hb6 aj af i0 i1 hjr
            by_cases hri : rightI r s = true
            · have hs2 : 1 ≤ s ∧ s ≤ 1073741824 := by
                rcases rightI_cases r s with ⟨_, e⟩ | ⟨_, _, e⟩ | ⟨_, _, _, e⟩ | ⟨_, _, _, _, e⟩ | ⟨_, _, h3, h4, _⟩
                · rw [hri] at e; cases e
                · rw [hri] at e; cases e
                · rw [hri] at e; cases e
                · rw [hri] at e; cases e
                · exact ⟨h3, h4⟩
              have hsw : IntKind.i64.wrap (s - 1) = s - 1 := IntWalk.i64_in _ (by omega)
              have HAD := Lib.hid (show max (depOf l (takes r s c) j) (s - 1) = attrD l d r s c j by rw [HAD.out, if_pos hri])
              go_upto_region 14 with (fail)
              have aj := HE.out.ha.cell (1 + j)
              rw [show attL (attrQ l r s c) (fun t => if t < j then attrD l d r s c t else depOf l (takes r s c) t) = Value.int .i64 (attrQ l r s c) :: cutL (fun t => if t < j then attrD l d r s c t else depOf l (takes r s c) t) from rfl, cut_get _ _ _ hj7, if_neg (Nat.lt_irrefl j)] at aj
              have af := HE.out.ha.free (1 + j)
              have i1 := HE.out.hi.cell 1
              simp only [List.getElem?_cons_zero, List.getElem?_cons_succ] at i1
              go_region
              go_wp2_with fail
              go_roundw
              case rel =>
                refine ⟨j + 1, by omega, by go_num, HE.out.wrote ((Touch.refl ga w6).setCell (1 + j) _).drew ?_⟩
                rw [← HST.out _ HAD.out]
                exact HSE.out _ HE.out.ha _
              case measure => simp [intOf]; omega
            · have hri : rightI r s = false := by revert hri; cases rightI r s <;> simp
              have HAD := Lib.hid (show attrD l d r s c j = depOf l (takes r s c) j by rw [HAD.out, hri]; rfl)
              go_wp2_with fail
              go_roundw
              case rel =>
                refine ⟨j + 1, by omega, by go_num, ?_⟩
                have : (fun t => if t < j then attrD l d r s c t else depOf l (takes r s c) t) = fun t => if t < j + 1 then attrD l d r s c t else depOf l (takes r s c) t := by
                  funext t
                  by_cases h1 : t = j
                  · rw [h1, if_neg (Nat.lt_irrefl j), if_pos (Nat.lt_succ_self j), HAD.out]
                  · by_cases h2 : t < j
                    · rw [if_pos h2, if_pos (by omega)]
                    · rw [if_neg h2, if_neg (by omega)]
                rw [← this]
                exact HE.out
              case measure => simp [intOf]; omega
          · have hjr : ((j : Int) == r) = false := by simpa using hjr
            have HAD := Lib.hid (show max (depOf l (takes r s c) j) (d j) = attrD l d r s c j by
              rw [attrD, if_neg (by simpa using hjr)])
            have cj := HE.out.ix.ix.cell (1 + j)
            rw [cut_get _ _ _ hj7] at cj
            go_upto_region 12 with (fail)
            clear hjr i0 i1
            go_region
            go_wp2_with fail
            go_roundw
            case rel =>
              refine ⟨j + 1, by omega, by go_num, HE.out.wrote ((Touch.refl ga wr).setCell (1 + j) _).drew ?_⟩
              rw [← HST.out _ HAD.out]
              exact HSE.out _ HE.out.ha _
            case measure => simp [intOf]; omega
        · have hj77 : j = 7 := by omega
          subst hj77
          have hfn : attL (attrQ l r s c) (fun t => if t < 7 then attrD l d r s c t else depOf l (takes r s c) t) = attL (attrQ l r s c) (attrD l d r s c) := by simp [attL, cutL]
          have hA := HE.out.ha
          rw [hfn] at hA
          have a0 := hA.cell 0
          have a1 := hA.cell 1
          have a2 := hA.cell 2
          have a3 := hA.cell 3
          have a4 := hA.cell 4
          have a5 := hA.cell 5
          have a6 := hA.cell 6
          have a7 := hA.cell 7
          simp only [attL, cutL, List.getElem?_cons_zero, List.getElem?_cons_succ] at a0 a1 a2 a3 a4 a5 a6 a7
          have rf := fun i => HE.out.hr.free i
          have r0 := HE.out.hr.cell 0
          have r1 := HE.out.hr.cell 1
          have r2 := HE.out.hr.cell 2
          have r3 := HE.out.hr.cell 3
          have r4 := HE.out.hr.cell 4
          have r5 := HE.out.hr.cell 5
          have r6 := HE.out.hr.cell 6
          have r7 := HE.out.hr.cell 7
          simp only [attL, cutL, List.getElem?_cons_zero, List.getElem?_cons_succ] at r0 r1 r2 r3 r4 r5 r6 r7
          clear hA hfn hj hj7
          have hT := (((((((((Touch.refl gr wr).setCell 0 (.int .i64 (attrQ l r s c))).setCell 1 (.int .i64 (attrD l d r s c 0))).setCell 2 (.int .i64 (attrD l d r s c 1))).setCell 3 (.int .i64 (attrD l d r s c 2))).setCell 4 (.int .i64 (attrD l d r s c 3))).setCell 5 (.int .i64 (attrD l d r s c 4))).setCell 6 (.int .i64 (attrD l d r s c 5))).setCell 7 (.int .i64 (attrD l d r s c 6)))
          have hS := ((((((((HE.out.hr.set 0 (.int .i64 (attrQ l r s c))).set 1 (.int .i64 (attrD l d r s c 0))).set 2 (.int .i64 (attrD l d r s c 1))).set 3 (.int .i64 (attrD l d r s c 2))).set 4 (.int .i64 (attrD l d r s c 3))).set 5 (.int .i64 (attrD l d r s c 4))).set 6 (.int .i64 (attrD l d r s c 5))).set 7 (.int .i64 (attrD l d r s c 6)))
          simp only [attL, cutL, List.set_cons_zero, List.set_cons_succ] at hS
          have hB := HE.out.bel.trans (hT.below HE.out.lo.2 HE.out.bel.size)
          have HS := Lib.hid hS; have HB := Lib.hid hB; clear hS hB hT
          go_wp2_with fail
          have hS := HS.out
          have y0 := hS.cell 0
          have y1 := hS.cell 1
          have y2 := hS.cell 2
          have y3 := hS.cell 3
          have y4 := hS.cell 4
          have y5 := hS.cell 5
          have y6 := hS.cell 6
          have y7 := hS.cell 7
          simp only [List.getElem?_cons_zero, List.getElem?_cons_succ] at y0 y1 y2 y3 y4 y5 y6 y7
          exact bodyPost_ret (v := .agg (attL (attrQ l r s c) (attrD l d r s c)).toArray) (by simp [results, Try.results12, go_sem, y0, y1, y2, y3, y4, y5, y6, y7, attL, cutL]) rfl ⟨rfl, HB.out⟩
    · intro pr ps cv kl yd yp w1 cnt1 hkey hlk hR hat hrg1 hlt hg1 hs1 hen
      have hy : yd = .held cv := by
        unfold readN at hR
        injection hR with hR
        injection hR with hR _
        exact hR.symm
      rw [hy] at hat
      obtain ⟨e, he, hek, hcv⟩ := HR.out.li.find HR.out.ix.wf hat
      have hpe : pr = e.r ∧ ps = e.s := by
        have hw := HR.out.ix.wf e he
        rw [← hek] at hkey
        have := keyLaw.inj hkey (key_inst e.r e.s hw.1 hw.2)
        simp only [instV, Value.agg.injEq, Array.mk.injEq, List.cons.injEq, Value.int.injEq, true_and, and_true] at this
        exact this
      obtain ⟨h1, h2⟩ := hpe
      subst h1; subst h2; subst hcv; subst hek
      have hgood := HR.out.ix.good e he
      have hCl := fun W => clash_any e.c c W (by have := hgood.2.2.2; omega) hca
      have HC := Lib.hid hCl; clear hCl
      have HR1 := Lib.hid (HR.out.gone hg1 hrg1)
      have HL0 := Lib.hid hrg.left_eq
      have HLT := Lib.hid hlt
      have HLK := Lib.hid hlk
      clear hrg1 hrg hlt hg1 hs1 hR hy hat hkey hlk
      unfold Ent.val notedV instV at hen
      simp only [instV, Ent.val, notedV] at hen ⊢
      have ht0 : takes r s c e = (!(e.r == r && decide (s ≤ e.s)) && clashC e.c c) := rfl
      have HT := Lib.hid ht0; clear ht0
      have HG := Lib.hid hgood; clear hgood
      have HHE := Lib.hid he; clear he
      go_upto_region 5 with (fail)
      go_name_world W5 hW5
      obtain ⟨k, hkr⟩ : ∃ k : Nat, e.r = k := ⟨e.r.toNat, by have := HG.out.1; omega⟩
      have hk7 : k < 7 := by have := HG.out.1; omega
      have hkb : Holds W5 w1.heap.size 26 [.int .i64 k, .int .i64 e.s] := by rw [← hW5, hkr]; exact holds_past (holds_alloc w1 _ _) _
      have hnb : Holds W5 (w1.heap.size + 1) 64 [.int .i64 e.c.k, .int .i64 e.c.c, .int .i64 e.c.s, .string e.c.a, .string e.c.b, .string e.c.o, .string e.c.v, .int .i64 e.q] := by
        rw [← hW5]
        have := holds_alloc (w1.alloc (.cells #[.int .i64 e.r, .int .i64 e.s] 26)) 64 [.int .i64 e.c.k, .int .i64 e.c.c, .int .i64 e.c.s, .string e.c.a, .string e.c.b, .string e.c.o, .string e.c.v, .int .i64 e.q]
        rw [World.size_alloc] at this
        exact this
      have HR5 := Lib.hid (HR1.out.below (show Below w1.heap.size w1 W5 by rw [← hW5]; go_grown))
      have HNE := Lib.hid (show ga ≠ w1.heap.size ∧ ga ≠ w1.heap.size + 1 by have := HR1.out.ha.lt; omega)
      clear hW5
      rw [hkr] at HT
      have HKR := Lib.hid hkr; clear hkr
      generalize w1.heap.size + 1 = gn at hnb HNE ⊢
      generalize w1.heap.size = gk at hkb HNE ⊢
      have k0 := hkb.cell 0
      have k1 := hkb.cell 1
      have n0 := hnb.cell 0
      have n1 := hnb.cell 1
      have n2 := hnb.cell 2
      have n3 := hnb.cell 3
      have n4 := hnb.cell 4
      have n5 := hnb.cell 5
      have n6 := hnb.cell 6
      have n7 := hnb.cell 7
      have i0 := HR5.out.hi.cell 0
      have i1 := HR5.out.hi.cell 1
      have c0 := HR5.out.hc.cell 0
      have c1 := HR5.out.hc.cell 1
      have c2 := HR5.out.hc.cell 2
      have c3 := HR5.out.hc.cell 3
      have c4 := HR5.out.hc.cell 4
      have c5 := HR5.out.hc.cell 5
      have c6 := HR5.out.hc.cell 6
      simp only [Cm.cells, List.getElem?_cons_zero, List.getElem?_cons_succ] at k0 k1 n0 n1 n2 n3 n4 n5 n6 n7 i0 i1 c0 c1 c2 c3 c4 c5 c6
      have HKB := Lib.hid hkb; have HNB := Lib.hid hnb; clear hkb hnb
      generalize clashC e.c c = cl at HC HT
      have hA : (((k : Int) == r) = true ∧ s ≤ e.s) ∨ (((k : Int) == r) = true ∧ ¬ s ≤ e.s) ∨ ((k : Int) == r) = false := by
        by_cases h1 : ((k : Int) == r) = true
        · by_cases h2 : s ≤ e.s
          · exact .inl ⟨h1, h2⟩
          · exact .inr (.inl ⟨h1, h2⟩)
        · exact .inr (.inr (by simpa using h1))
      rcases hA with ⟨h1, h2⟩ | ⟨h1, h2⟩ | h1
      · have HF := Lib.hid (show takes r s c e = false by rw [HT.out, h1, show decide (s ≤ e.s) = true from by simp [h2]]; rfl)
        clear HT
        go_wp2_with fail
        go_roundw
        case rel => exact ⟨_, _, HR5.out.same (seq_passed HR5.out.li HR5.out.ix.wf HHE.out r s c HF.out) fun j => dep_passed HR5.out.li HR5.out.ix.wf HHE.out r s c HF.out j⟩
        case measure => rw [HR5.out.rg.left_eq, HL0.out]; exact HLT.out
      all_goals
        have HT2 := Lib.hid (show takes r s c e = cl by first | (rw [HT.out, h1]; simp; done) | (rw [HT.out, h1, show decide (s ≤ e.s) = false from by simp; omega]; simp))
        clear HT
        go_wp2_with fail
        refine (HC.out _).mono ?_
        rintro e' w6 ⟨rfl, hb6⟩
        have HR6 := Lib.hid (HR5.out.below hb6)
        have HKB := Lib.hid (HKB.out.below hb6 HKB.out.lt)
        have HNB := Lib.hid (HNB.out.below hb6 HNB.out.lt)
        clear hb6 k0 k1 n0 n1 n2 n3 n4 n5 n6 n7 i0 i1 c0 c1 c2 c3 c4 c5 c6
        cases cl
        · go_wp2_with fail
          go_roundw
          case rel => exact ⟨_, _, HR6.out.same (seq_passed HR6.out.li HR6.out.ix.wf HHE.out r s c HT2.out) fun j => dep_passed HR6.out.li HR6.out.ix.wf HHE.out r s c HT2.out j⟩
          case measure => rw [HR6.out.rg.left_eq, HL0.out]; exact HLT.out
        have hqw : IntKind.i64.wrap (e.q + 1) = e.q + 1 := IntWalk.i64_in _ (by have := HG.out.2.2.1; omega)
        have a0 := HR6.out.ha.cell 0
        have af := fun i => HR6.out.ha.free i
        have n7 := HNB.out.cell 7
        simp only [attL, List.getElem?_cons_zero, List.getElem?_cons_succ] at a0 n7
        go_upto_region 7 with (fail)
        go_name_world W7 hW7
        have hA7 := HR6.out.ha.set 0 (.int .i64 (max (seqOf l (visT left r s c)) (e.q + 1)))
        have hT7 := (Touch.refl ga w6).setCell 0 (.int .i64 (max (seqOf l (visT left r s c)) (e.q + 1)))
        rw [hW7] at hA7 hT7
        have hA8 : Holds W7 ga 34 (attL (max (seqOf l (visT left r s c)) (e.q + 1)) fun j => depOf l (visT left r s c) j) := hA7
        clear hW7 a0 af n7 hqw hA7
        have hKB7 := HKB.out.touch hT7 (fun h => HNE.out.1 h.symm)
        have k0 := hKB7.cell 0
        have k1 := hKB7.cell 1
        simp only [List.getElem?_cons_zero, List.getElem?_cons_succ] at k0 k1
        have ak := hA8.cell (1 + k)
        rw [show attL (max (seqOf l (visT left r s c)) (e.q + 1)) (fun j : Nat => depOf l (visT left r s c) j) = Value.int .i64 (max (seqOf l (visT left r s c)) (e.q + 1)) :: cutL (fun j : Nat => depOf l (visT left r s c) j) from rfl, cut_get _ _ _ hk7] at ak
        have af := hA8.free (1 + k)
        have hS := hA8.set (1 + k) (.int .i64 (max (depOf l (visT left r s c) k) e.s))
        rw [att_set _ _ _ hk7] at hS
        have HS := Lib.hid hS
        have HT8 := Lib.hid (hT7.setCell (1 + k) (.int .i64 (max (depOf l (visT left r s c) k) e.s)))
        clear hS hA8 hT7 hKB7
        go_region
        go_wp2_with fail
        go_roundw
        case rel =>
          refine ⟨_, _, HR6.out.wrote HT8.out.drew ?_⟩
          have hli := HR6.out.li
          have hwf := HR6.out.ix.wf
          have hd := dep_taken (left := left) hli hwf HHE.out r s c HT2.out
          rw [HKR.out] at hd
          have hEq : attL (seqOf l (visT (fun z => left z && !z.sameKey e.key) r s c)) (fun j : Nat => depOf l (visT (fun z => left z && !z.sameKey e.key) r s c) j) = attL (max (seqOf l (visT left r s c)) (e.q + 1)) (fun j : Nat => if j = k then max (depOf l (visT left r s c) k) e.s else depOf l (visT left r s c) j) := by
            rw [seq_taken (left := left) hli hwf HHE.out r s c HT2.out]
            congr 1
            funext j
            by_cases hj : j = k
            · rw [if_pos hj, hj]; exact hd
            · rw [if_neg hj]; exact dep_other (left := left) hli hwf HHE.out r s c j (by rw [HKR.out]; omega) HLK.out
          rw [hEq]
          exact HS.out
        case measure => rw [(HR6.out.rg.kept (grownBy_of_touch HT8.out.drew) (by simpa using HR6.out.ne.2.2.2.1) (by simpa using HR6.out.ne.2.2.2.2.1)).left_eq, HL0.out]; exact HLT.out
end Go.Proofs.Ytleagecocffihaa
