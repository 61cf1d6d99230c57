/-
  The walk of the document's Prune.
-/
import Derived.Test.YtleagecocffihaaIfDocL
import Derived.Test.YtleagecocffihaaOrdersL
import Derived.Test.YtleagecocffihaaGrowL
import Derived.Test.YtleagecocffihaaIfPruneW
import Derived.Test.YtleagecocffihaaLast
import Derived.Deep.RegionHeld3
import Derived.Deep.MidRow
namespace Go.Proofs.Ytleagecocffihaa
open Go.RowKit Go.Maps
set_option linter.unusedVariables false
set_option linter.unusedSimpArgs false

theorem pr_cut (v1 v2 v3 : Value) (d : Nat → Int) (k : Nat) (hk : k < 7) : (v1 :: v2 :: v3 :: cutL d)[3 + k]? = some (.int .i64 (d k)) := by
  have : k = 0 ∨ k = 1 ∨ k = 2 ∨ k = 3 ∨ k = 4 ∨ k = 5 ∨ k = 6 := by omega
  rcases this with rfl | rfl | rfl | rfl | rfl | rfl | rfl <;> rfl
theorem pr_set (v1 v2 v3 : Value) (d : Nat → Int) (k : Nat) (hk : k < 7) (v : Int) : (v1 :: v2 :: v3 :: cutL d).set (3 + k) (.int .i64 v) = v1 :: v2 :: v3 :: cutL fun j => if j = k then v else d j := by
  have : k = 0 ∨ k = 1 ∨ k = 2 ∨ k = 3 ∨ k = 4 ∨ k = 5 ∨ k = 6 := by omega
  rcases this with rfl | rfl | rfl | rfl | rfl | rfl | rfl <;> rfl
theorem cutL_get (d : Nat → Int) (k : Nat) (hk : k < 7) : (cutL d)[k]? = some (.int .i64 (d k)) := by
  have : k = 0 ∨ k = 1 ∨ k = 2 ∨ k = 3 ∨ k = 4 ∨ k = 5 ∨ k = 6 := by omega
  rcases this with rfl | rfl | rfl | rfl | rfl | rfl | rfl <;> rfl
theorem wpList_store_box {P : Program} {ops : Array Oper} {rest : List Oper} {o : Oper} {a : Act} {w : World} {Q : Exit → Act → World → Prop} (hgd : o.guard = none) {t : TypeId} {p v : Operand} {b : Nat} {old cs : List Value} (ho : o.op = .store t p v) (hd : o.dst = none)
    (hx : a.eval p = .pointer (some ⟨b, 0, none⟩)) (hy : a.eval v = .agg cs.toArray) (hg : Holds w b t old) (hi : (P.info? t).map (·.size) = some cs.length) (hl : old.length = cs.length) (h1 : cs.toArray.all (·.oneCell') = true)
    (h : wpList P ops Q rest a (w.setRow b cs.toArray)) : wpList P ops Q (o :: rest) a w :=
  wpList_plain hgd fun _ hK => wp_box_store ho hd hx hy hg hi hl h1 (hK _ _ h)
theorem owns_mono {w : World} {base base' : Nat} {e : TypeId} {size : Nat} {v : Value} {n : Nat} {xs : List Value} (h : w.ownsRow base e size v n xs) (hb : base' ≤ base) : w.ownsRow base' e size v n xs :=
  ⟨h.1, h.2.imp id fun ⟨g, cap, cur, h1, h2, h3⟩ => ⟨g, cap, cur, h1, Nat.le_trans hb h2, h3⟩⟩
/-- While y's lists grow. -/
structure PrB (w W : World) (By g4 : Nat) (L : List Value) : Prop where
  bel : Below w.heap.size w W
  hy : Holds W g4 53 L
  lo : w.heap.size ≤ g4 ∧ g4 < By
  le : By ≤ W.heap.size
theorem PrB.below {w W W' : World} {By g4 : Nat} {L : List Value} (h : PrB w W By g4 L) (hb : Below W.heap.size W W') : PrB w W' By g4 L :=
  ⟨below_next h.bel hb, h.hy.bel hb, h.lo, Nat.le_trans h.le hb.size⟩
theorem PrB.grown {w W W' : World} {By g4 : Nat} {L : List Value} {row : Option Nat} (h : PrB w W By g4 L) (hg : W.grownBy W' row) (hr : ∀ k, row = some k → By ≤ k) : PrB w W' By g4 L := by
  have hl := h.lo
  exact ⟨h.bel.grown hg h.bel.size fun k hk => by have := hr k hk; omega, holds_kept h.hy hg (fun hc => by have := hr _ hc; omega), h.lo, Nat.le_trans h.le hg.size⟩
theorem PrB.stored {w W W' : World} {By g4 : Nat} {L L' : List Value} (h : PrB w W By g4 L) (hy : Holds W' g4 53 L') (ht : Touch g4 W W') : PrB w W' By g4 L' :=
  ⟨h.bel.trans (ht.below h.lo.1 h.bel.size), hy, h.lo, Nat.le_trans h.le ht.size⟩
set_option maxRecDepth 8000 in
set_option maxHeartbeats 40000000 in
theorem dprune_any (B gd : Nat) (p1 : Option Addr) (c1 : Nat) (p2 : Option Addr) (c2 : Nat) (p3 : Option Addr) (c3 : Nat) (l : List Ent) (d u : Nat → Int) (w : World) (h : DocAt w B gd p1 c1 p2 c2 p3 c3 l d) (hgood : GoodE l) (hlen : l.length ≤ 1000) :
    Calls Try.prog 21 #[.pointer (some ⟨gd, 0, none⟩), .agg (cutL u).toArray] w fun e w' =>
      e = .returned (.tuple #[]) ∧ (∃ p1' c1' p2' c2' p3' c3', DocAt w' B gd p1' c1' p2' c2' p3' c3' (pruned l (newCut d u)) (newCut d u)) ∧ Keep B gd w w' := by
  have HD := Lib.hid h; clear h
  have HG := Lib.hid hgood; clear hgood
  unfold cutL
  go_enter Try.func21, Try.ntmps21
  go_upto_region 2 with (fail)
  go_name_world W hW
  have hu : Holds W w.heap.size 32 (cutL u) := by rw [← hW]; exact holds_past (holds_alloc w _ _) _
  have hy : Holds W (w.heap.size + 1) 53 (.slice none 0 0 :: .slice none 0 0 :: .slice none 0 0 :: cutL fun _ => 0) := by
    rw [← hW]
    have := holds_alloc (w.alloc (.cells #[.int .i64 (u 0), .int .i64 (u 1), .int .i64 (u 2), .int .i64 (u 3), .int .i64 (u 4), .int .i64 (u 5), .int .i64 (u 6)] 32)) 53 (.slice none 0 0 :: .slice none 0 0 :: .slice none 0 0 :: cutL fun _ => 0)
    rw [World.size_alloc] at this
    exact this
  have HB : Below w.heap.size w W := by rw [← hW]; go_grown
  have hsz : W.heap.size = w.heap.size + 1 + 1 := by rw [← hW]; simp
  clear hW
  have HDW := HD.out.below HB
  have g3 := HDW.box.cell 3
  have g4 := HDW.box.cell 4
  have g5 := HDW.box.cell 5
  have g6 := HDW.box.cell 6
  have g7 := HDW.box.cell 7
  have g8 := HDW.box.cell 8
  have g9 := HDW.box.cell 9
  have yf := fun i => hy.free i
  have y3 := hy.cell 3
  have y4 := hy.cell 4
  have y5 := hy.cell 5
  have y6 := hy.cell 6
  have y7 := hy.cell 7
  have y8 := hy.cell 8
  have y9 := hy.cell 9
  simp only [cutL, List.getElem?_cons_zero, List.getElem?_cons_succ] at g3 g4 g5 g6 g7 g8 g9 y3 y4 y5 y6 y7 y8 y9
  have hT := ((((((((Touch.refl (w.heap.size + 1) W).setCell 3 (.int .i64 (d 0))).setCell 4 (.int .i64 (d 1))).setCell 5 (.int .i64 (d 2))).setCell 6 (.int .i64 (d 3))).setCell 7 (.int .i64 (d 4))).setCell 8 (.int .i64 (d 5))).setCell 9 (.int .i64 (d 6)))
  have hS := (((((((hy.set 3 (.int .i64 (d 0))).set 4 (.int .i64 (d 1))).set 5 (.int .i64 (d 2))).set 6 (.int .i64 (d 3))).set 7 (.int .i64 (d 4))).set 8 (.int .i64 (d 5))).set 9 (.int .i64 (d 6)))
  simp only [cutL, List.set_cons_zero, List.set_cons_succ] at hS
  have HS := Lib.hid hS; have HT := Lib.hid hT; clear hS hT
  have HU := Lib.hid hu; clear hu hy
  have HBB := Lib.hid HB; clear HB HDW
  have HSZ := Lib.hid hsz; clear hsz
  go_upto_region 3 with (fail)
  go_name_world V hV
  rw [hV] at HS HT
  have hyV : Holds V (w.heap.size + 1) 53 (.slice none 0 0 :: .slice none 0 0 :: .slice none 0 0 :: cutL fun t => if t < 0 then newCut d u t else d t) := HS.out
  have huV : Holds V w.heap.size 32 (cutL u) := HU.out.touch HT.out (by omega)
  have hbV : Below w.heap.size w V := HBB.out.trans (HT.out.below (by omega) HBB.out.size)
  have hszV : w.heap.size + 2 ≤ V.heap.size := by have := HT.out.size; have := HSZ.out; omega
  clear hV g3 g4 g5 g6 g7 g8 g9 yf y3 y4 y5 y6 y7 y8 y9 HS HT HU HBB HSZ
  have HB0 := Lib.hid HD.out.le
  have HGD := Lib.hid HD.out.lt
  have HE := Lib.hid (show Below w.heap.size w V ∧ Holds V w.heap.size 32 (cutL u) ∧ Holds V (w.heap.size + 1) 53 (.slice none 0 0 :: .slice none 0 0 :: .slice none 0 0 :: cutL fun t => if t < 0 then newCut d u t else d t) ∧ w.heap.size + 2 ≤ V.heap.size from ⟨hbV, huV, hyV, hszV⟩)
  clear hbV huV hyV hszV
  have HGY := Lib.hid (show ∃ gy, gy = w.heap.size + 1 from ⟨_, rfl⟩)
  generalize hgy : w.heap.size + 1 = gy at HE ⊢
  generalize hgu : w.heap.size = gu at HE ⊢
  rw [← hgu] at HE
  clear HGY
  have hgy2 : gu ≠ gy ∧ w.heap.size ≤ gy ∧ gy < w.heap.size + 2 ∧ w.heap.size = gu := by omega
  have HN := Lib.hid hgy2
  clear hgy hgu hgy2
  have HE := Lib.hid (show Below w.heap.size w V ∧ Holds V gu 32 (cutL u) ∧ Holds V gy 53 (.slice none 0 0 :: .slice none 0 0 :: .slice none 0 0 :: cutL fun t => if t < 0 then newCut d u t else d t) ∧ w.heap.size + 2 ≤ V.heap.size from by have := HE.out; rw [HN.out.2.2.2] at this ⊢; exact this)
  go_wp2_with fail
  go_loopw [5] (fun vk wr => ∃ j : Nat, j ≤ 7 ∧ vk = .int .i64 j ∧ Below w.heap.size w wr ∧ Holds wr gu 32 (cutL u) ∧ Holds wr gy 53 (.slice none 0 0 :: .slice none 0 0 :: .slice none 0 0 :: cutL fun t => if t < j then newCut d u t else d t) ∧ w.heap.size + 2 ≤ wr.heap.size) (fun vk _ => 7 - (intOf vk).toNat)
  case atStart => exact ⟨0, by omega, rfl, HE.out⟩
  case round =>
    clear HE
    obtain ⟨j, hj, rfl, hbel, hhu, hhy, hsz⟩ := hrel
    have HE := Lib.hid (show Below w.heap.size w wr ∧ Holds wr gu 32 (cutL u) ∧ Holds wr gy 53 (.slice none 0 0 :: .slice none 0 0 :: .slice none 0 0 :: cutL fun t => if t < j then newCut d u t else d t) ∧ w.heap.size + 2 ≤ wr.heap.size from ⟨hbel, hhu, hhy, hsz⟩)
    clear hbel hhu hhy hsz
    by_cases hj7 : j < 7
    · have uj := HE.out.2.1.cell j
      rw [cutL_get _ _ hj7] at uj
      have yj := HE.out.2.2.1.cell (3 + j)
      rw [pr_cut _ _ _ _ _ hj7, if_neg (Nat.lt_irrefl j)] at yj
      have yf := HE.out.2.2.1.free (3 + j)
      have hS := HE.out.2.2.1.set (3 + j) (.int .i64 (newCut d u j))
      rw [pr_set _ _ _ _ _ hj7] at hS
      have hfn : (fun t => if t = j then newCut d u j else if t < j then newCut d u t else d t) = fun t => if t < j + 1 then newCut d u t else d t := by
        funext t
        by_cases h1 : t = j
        · rw [if_pos h1, if_pos (by omega), h1]
        · rw [if_neg h1]
          by_cases h2 : t < j
          · rw [if_pos h2, if_pos (by omega)]
          · rw [if_neg h2, if_neg (by omega)]
      rw [hfn] at hS
      unfold newCut at hS
      have HT := (Touch.refl gy wr).setCell (3 + j) (.int .i64 (max (d j) (min (max (u j) 0) 1073741824)))
      have HS := Lib.hid hS; have HT := Lib.hid HT; clear hS hfn
      go_upto_region 6 with (fail)
      go_region
      go_wp2_with fail
      go_roundw
      case rel =>
        refine ⟨j + 1, by omega, by go_num, HE.out.1.trans (HT.out.drew.below HN.out.2.1 HE.out.1.size), HE.out.2.1.touch HT.out.drew HN.out.1, HS.out, Nat.le_trans HE.out.2.2.2 HT.out.drew.size⟩
      case measure => simp [intOf]; omega
    · have hj77 : j = 7 := by omega
      subst hj77
      have hfn : (cutL fun t => if t < 7 then newCut d u t else d t) = cutL (newCut d u) := by simp [cutL]
      have hyy := HE.out.2.2.1
      rw [hfn] at hyy
      have HY := Lib.hid (show ∃ q1 k1 q2 k2 q3 k3, DocAt wr (w.heap.size + 2) gy q1 k1 q2 k2 q3 k3 (pruned (l.take 0) (newCut d u)) (newCut d u) from
        ⟨none, 0, none, 0, none, 0, hyy, ⟨rfl, .inl ⟨rfl, rfl⟩⟩, ⟨rfl, .inl ⟨rfl, rfl⟩⟩, ⟨rfl, .inl ⟨rfl, rfl⟩⟩, HN.out.2.2.1, HE.out.2.2.2⟩)
      have HBB := Lib.hid HE.out.1
      clear hfn hyy HE hj hj7
      generalize hdn : newCut d u = dn at HY
      have HDN0 := Lib.hid hdn; clear hdn
      go_wp2_with fail
      go_loopw [6] (fun vk wr => ∃ j : Nat, j ≤ l.length ∧ vk = .int .i64 j ∧ Below w.heap.size w wr ∧ ∃ q1 k1 q2 k2 q3 k3, DocAt wr (w.heap.size + 2) gy q1 k1 q2 k2 q3 k3 (pruned (l.take j) dn) dn) (fun vk _ => l.length - (intOf vk).toNat)
      case atStart => exact ⟨0, by omega, rfl, HBB.out, HY.out⟩
      case round =>
        clear HY HBB
        obtain ⟨j, hj, rfl, hbel, q1, k1, q2, k2, q3, k3, hdy⟩ := hrel
        have HBB := Lib.hid hbel; clear hbel
        have HY := Lib.hid hdy; clear hdy
        have HDD := Lib.hid (HD.out.below HBB.out)
        have g0 := HDD.out.box.cell 0
        simp only [List.getElem?_cons_zero] at g0
        by_cases hjn : j < l.length
        · have HR1 := Lib.hid (own_isrows HDD.out.o1 (fun _ => rfl) (by unfold maxLen; omega))
          obtain ⟨pa, poff, hp, hplt⟩ := HR1.out.spot (by omega)
          subst hp
          have HR2 := Lib.hid (own_isrows HDD.out.o2 (fun _ => rfl) (by unfold maxLen; omega))
          obtain ⟨pb, pboff, hp, hplt2⟩ := HR2.out.spot (by omega)
          subst hp
          have HR3 := Lib.hid (own_isrows HDD.out.o3 (fun _ => rfl) (by unfold maxLen; omega))
          obtain ⟨pq, pqoff, hp, hplt3⟩ := HR3.out.spot (by omega)
          subst hp
          have hm1 : l.length ≤ c1 ∧ c1 ≤ maxLen := by
            obtain ⟨p', c', hv, h1, h2⟩ := own_shape HDD.out.o1
            injection hv with _ _ h3
            rw [h3]; exact ⟨h1, h2⟩
          have hm2 : l.length ≤ c2 ∧ c2 ≤ maxLen := by
            obtain ⟨p', c', hv, h1, h2⟩ := own_shape HDD.out.o2
            injection hv with _ _ h3
            rw [h3]; exact ⟨h1, h2⟩
          have hm3 : l.length ≤ c3 ∧ c3 ≤ maxLen := by
            obtain ⟨p', c', hv, h1, h2⟩ := own_shape HDD.out.o3
            injection hv with _ _ h3
            rw [h3]; exact ⟨h1, h2⟩
          unfold maxLen at hm1 hm2 hm3
          obtain ⟨hm11, hm12⟩ := hm1
          obtain ⟨hm21, hm22⟩ := hm2
          obtain ⟨hm31, hm32⟩ := hm3
          have hgd := HG.out _ (entAt_mem l hjn)
          obtain ⟨k, hkr⟩ : ∃ k : Nat, (entAt l j).r = k := ⟨(entAt l j).r.toNat, by have := hgd.1; omega⟩
          have hk7 : k < 7 := by have := hgd.1; omega
          have HKR := Lib.hid hkr
          have j0 := fun d os => HR1.out.grown d os hjn 0 (by omega)
          have j1 := fun d os => HR1.out.grown d os hjn 1 (by omega)
          have gg0 := fun d os => HDD.out.box.grown d os 0
          have yk := fun dd os => HY.out.box.grown dd os (3 + k)
          rw [pr_cut _ _ _ _ _ hk7] at yk
          simp only [VI, List.getElem?_cons_zero, List.getElem?_cons_succ, Nat.add_zero, hkr] at j0 j1 gg0
          clear hkr hgd
          generalize hesj : (entAt l j).s = es at j1
          have HESJ := Lib.hid hesj; clear hesj
          generalize hdk : dn k = dk at yk
          have HDK := Lib.hid hdk; clear hdk
          go_upto_region 10 with (fail)
          clear g0
          by_cases hgt : dk < es
          · have HSU := Lib.hid (show pruned (l.take (j + 1)) dn = pruned (l.take j) dn ++ [entAt l j] by
              rw [prunedTo_succ l dn hjn, HKR.out, HESJ.out, Int.toNat_natCast, HDK.out, if_pos hgt])
            refine wp_region_quiet_below (by as_aux_lemma => kernel_rfl) (by as_aux_lemma => kernel_rfl) ?_
            repeat go_big_quiet_step (fail)
            refine wpQuiet_nil ?_
            intro w5 hw'
            have hb5 := below_of_regrown hw'
            have HBB := Lib.hid (below_next HBB.out hb5)
            have HY := Lib.hid (HY.out.below hb5)
            clear hw' hb5 j0 j1 gg0 yk hgt HDD HDK HR1 HR2 HR3
            have hml : (pruned (l.take j) dn).length ≤ 1000 := by
              have h1 : (pruned (l.take j) dn).length ≤ (l.take j).length := List.length_filter_le _ _
              have h2 : (l.take j).length ≤ l.length := by rw [List.length_take]; omega
              omega
            generalize pruned (l.take j) dn = m at HY HSU hml
            have hkr := HKR.out
            generalize her : (entAt l j).r = er at hkr
            have hke : entAt l j = ⟨er, es, (entAt l j).c, (entAt l j).q⟩ := by rw [← her, ← HESJ.out]
            generalize hec : (entAt l j).c = ec at hke
            generalize heq : (entAt l j).q = eq at hke
            have HKE := Lib.hid hke
            have HFC := Lib.hid (show ∀ W, Below w.heap.size w W → (W.cell? ⟨gd, 0, none⟩ = some (.slice (some ⟨pa, poff, none⟩) l.length c1) ∧ W.cell? ⟨gd, 1, none⟩ = some (.slice (some ⟨pb, pboff, none⟩) l.length c2) ∧ W.cell? ⟨gd, 2, none⟩ = some (.slice (some ⟨pq, pqoff, none⟩) l.length c3) ∧ W.cell? ⟨pa, poff + j * 2, none⟩ = some (.int .i64 er) ∧ W.cell? ⟨pa, poff + j * 2 + 1, none⟩ = some (.int .i64 es) ∧ W.cell? ⟨pb, pboff + j * 7, none⟩ = some (.int .i64 ec.k) ∧ W.cell? ⟨pb, pboff + j * 7 + 1, none⟩ = some (.int .i64 ec.c) ∧ W.cell? ⟨pb, pboff + j * 7 + 2, none⟩ = some (.int .i64 ec.s) ∧ W.cell? ⟨pb, pboff + j * 7 + 3, none⟩ = some (.string ec.a) ∧ W.cell? ⟨pb, pboff + j * 7 + 4, none⟩ = some (.string ec.b) ∧ W.cell? ⟨pb, pboff + j * 7 + 5, none⟩ = some (.string ec.o) ∧ W.cell? ⟨pb, pboff + j * 7 + 6, none⟩ = some (.string ec.v) ∧ W.cell? ⟨pq, pqoff + j, none⟩ = some (.int .i64 eq)) from fun W hb => by
              have hD := HD.out.below hb
              have r1 := own_isrows hD.o1 (fun _ => rfl) (by unfold maxLen; omega)
              have r2 := own_isrows hD.o2 (fun _ => rfl) (by unfold maxLen; omega)
              have r3 := own_isrows hD.o3 (fun _ => rfl) (by unfold maxLen; omega)
              have b0 := hD.box.cell 0
              have b1 := hD.box.cell 1
              have b2 := hD.box.cell 2
              have j0 := r1.at (Below.refl _ _) hjn 0 (by omega)
              have j1 := r1.at (Below.refl _ _) hjn 1 (by omega)
              have k0 := r2.at (Below.refl _ _) hjn 0 (by omega)
              have k1 := r2.at (Below.refl _ _) hjn 1 (by omega)
              have k2 := r2.at (Below.refl _ _) hjn 2 (by omega)
              have k3 := r2.at (Below.refl _ _) hjn 3 (by omega)
              have k4 := r2.at (Below.refl _ _) hjn 4 (by omega)
              have k5 := r2.at (Below.refl _ _) hjn 5 (by omega)
              have k6 := r2.at (Below.refl _ _) hjn 6 (by omega)
              have x0 := r3.at (Below.refl _ _) hjn 0 (by omega)
              simp only [VI, VC, VQ, Cm.cells, List.getElem?_cons_zero, List.getElem?_cons_succ, Nat.add_zero, Nat.mul_one, her, HESJ.out, hec, heq] at b0 b1 b2 j0 j1 k0 k1 k2 k3 k4 k5 k6 x0
              exact ⟨b0, b1, b2, j0, j1, k0, k1, k2, k3, k4, k5, k6, x0⟩)
            clear hke her hec heq hkr HKR HESJ
            have HN1 := Lib.hid (show PrB w w5.drew (w.heap.size + 2) gy (.slice q1 m.length k1 :: .slice q2 m.length k2 :: .slice q3 m.length k3 :: cutL dn) from (⟨HBB.out, HY.out.box, ⟨HN.out.2.1, HN.out.2.2.1⟩, HY.out.le⟩ : PrB w w5 (w.heap.size + 2) gy _).below (drew_below _ _))
            have HNN := Lib.hid HN.out
            have HO0 := Lib.hid (owns_below HY.out.o1 (drew_below _ _)); have HO1 := Lib.hid (owns_below HY.out.o2 (drew_below _ _)); have HO2 := Lib.hid (owns_below HY.out.o3 (drew_below _ _))
            have HNE0 := Lib.hid (show ∀ k, (Value.slice q1 m.length k1).ownBlock = some k → w.heap.size + 2 ≤ k from fun k hk => (HY.out.o1.lt k hk).1)
            have HNE1 := Lib.hid (show ∀ k, (Value.slice q2 m.length k2).ownBlock = some k → w.heap.size + 2 ≤ k from fun k hk => (HY.out.o2.lt k hk).1)
            have HNE2 := Lib.hid (show ∀ k, (Value.slice q3 m.length k3).ownBlock = some k → w.heap.size + 2 ≤ k from fun k hk => (HY.out.o3.lt k hk).1)
            have HK := Lib.hid (show ∀ W, PrB w W (w.heap.size + 2) gy (.slice q1 m.length k1 :: .slice q2 m.length k2 :: .slice q3 m.length k3 :: cutL dn) → (W.cell? ⟨gd, 0, none⟩ = some (.slice (some ⟨pa, poff, none⟩) l.length c1) ∧ W.cell? ⟨gd, 1, none⟩ = some (.slice (some ⟨pb, pboff, none⟩) l.length c2) ∧ W.cell? ⟨gd, 2, none⟩ = some (.slice (some ⟨pq, pqoff, none⟩) l.length c3) ∧ W.cell? ⟨gy, 0, none⟩ = some (.slice q1 m.length k1) ∧ W.cell? ⟨gy, 1, none⟩ = some (.slice q2 m.length k2) ∧ W.cell? ⟨gy, 2, none⟩ = some (.slice q3 m.length k3) ∧ W.cell? ⟨pa, poff + j * 2, none⟩ = some (.int .i64 er) ∧ W.cell? ⟨pa, poff + j * 2 + 1, none⟩ = some (.int .i64 es) ∧ W.cell? ⟨pb, pboff + j * 7, none⟩ = some (.int .i64 ec.k) ∧ W.cell? ⟨pb, pboff + j * 7 + 1, none⟩ = some (.int .i64 ec.c) ∧ W.cell? ⟨pb, pboff + j * 7 + 2, none⟩ = some (.int .i64 ec.s) ∧ W.cell? ⟨pb, pboff + j * 7 + 3, none⟩ = some (.string ec.a) ∧ W.cell? ⟨pb, pboff + j * 7 + 4, none⟩ = some (.string ec.b) ∧ W.cell? ⟨pb, pboff + j * 7 + 5, none⟩ = some (.string ec.o) ∧ W.cell? ⟨pb, pboff + j * 7 + 6, none⟩ = some (.string ec.v) ∧ W.cell? ⟨pq, pqoff + j, none⟩ = some (.int .i64 eq)) from fun W h => by
              obtain ⟨b0, b1, b2, j0, j1, k0, k1, k2, k3, k4, k5, k6, x0⟩ := HFC.out W h.bel
              exact ⟨b0, b1, b2, h.hy.cell 0, h.hy.cell 1, h.hy.cell 2, j0, j1, k0, k1, k2, k3, k4, k5, k6, x0⟩)
            clear HY HBB HN HFC
            have HN := Lib.hid HN1.out
            clear HN1
            go_upto_region 11 with (fail)
            refine wp_region_noPanic ?_
            refine wp_region_late (S := fun W => W.cell? ⟨gd, 0, none⟩ = some (.slice (some ⟨pa, poff, none⟩) l.length c1) ∧ W.cell? ⟨gd, 1, none⟩ = some (.slice (some ⟨pb, pboff, none⟩) l.length c2) ∧ W.cell? ⟨gd, 2, none⟩ = some (.slice (some ⟨pq, pqoff, none⟩) l.length c3) ∧ W.cell? ⟨gy, 0, none⟩ = some (.slice q1 m.length k1) ∧ W.cell? ⟨gy, 1, none⟩ = some (.slice q2 m.length k2) ∧ W.cell? ⟨gy, 2, none⟩ = some (.slice q3 m.length k3) ∧ W.cell? ⟨pa, poff + j * 2, none⟩ = some (.int .i64 er) ∧ W.cell? ⟨pa, poff + j * 2 + 1, none⟩ = some (.int .i64 es) ∧ W.cell? ⟨pb, pboff + j * 7, none⟩ = some (.int .i64 ec.k) ∧ W.cell? ⟨pb, pboff + j * 7 + 1, none⟩ = some (.int .i64 ec.c) ∧ W.cell? ⟨pb, pboff + j * 7 + 2, none⟩ = some (.int .i64 ec.s) ∧ W.cell? ⟨pb, pboff + j * 7 + 3, none⟩ = some (.string ec.a) ∧ W.cell? ⟨pb, pboff + j * 7 + 4, none⟩ = some (.string ec.b) ∧ W.cell? ⟨pb, pboff + j * 7 + 5, none⟩ = some (.string ec.o) ∧ W.cell? ⟨pb, pboff + j * 7 + 6, none⟩ = some (.string ec.v) ∧ W.cell? ⟨pq, pqoff + j, none⟩ = some (.int .i64 eq)) (X0 := [34, 36, 38]) (by as_aux_lemma => kernel_rfl) ?_
            generalize w5.drew = wd at HN HO0 HO1 HO2 ⊢
            have hSn := HK.out _ HN.out
            change wpAnyL _ _ _ _ _ _ 39 #[false, false, false, false, false, false, false, false, false, false, false, false, false, false, false, false, false, false, false, false, false, false, false, false, false, false, false, false, false, false, false, false, false, false, false, false, false, false, false] _ _
            refine wpAnyL_move (i := 0) (v := ?vp1) (some 58) rfl rfl (by as_aux_lemma => kernel_rfl) (by as_aux_lemma => kernel_rfl) (by as_aux_lemma => kernel_rfl) (by as_aux_lemma => kernel_rfl) (fun _ _ _ h => h) (Or.inl ⟨by rfl, ?hp1⟩) (fun _ => hSn) ?rp1
            case hp1 =>
              intro w _
              go_simp
              try with_reducible rfl
            simp only [Act.put, List.setIfInBounds_toArray, List.set_cons_zero, List.set_cons_succ]
            refine wpAnyL_take (i := 1) (v := ?vp2) [10, 21, 32, 34, 36, 38] (some 59) rfl rfl (by as_aux_lemma => kernel_rfl) (by as_aux_lemma => kernel_rfl) (by as_aux_lemma => kernel_rfl) (by as_aux_lemma => kernel_rfl) (fun _ _ _ h => h) (Or.inl ⟨by rfl, ?hp2⟩) hSn ?rp2
            case hp2 =>
              intro w hSw
              obtain ⟨s0, s1, s2, y0, y1, y2, j0, j1, k0, k1, k2, k3, k4, k5, k6, x0⟩ := hSw
              go_simp
              try with_reducible rfl
            simp only [Act.put, List.setIfInBounds_toArray, List.set_cons_zero, List.set_cons_succ]
            refine wpAnyL_move (i := 2) (v := ?vp3) (some 60) rfl rfl (by as_aux_lemma => kernel_rfl) (by as_aux_lemma => kernel_rfl) (by as_aux_lemma => kernel_rfl) (by as_aux_lemma => kernel_rfl) (fun _ _ _ h => h) (Or.inl ⟨by rfl, ?hp3⟩) (fun _ => hSn) ?rp3
            case hp3 =>
              intro w _
              go_simp
              try with_reducible rfl
            simp only [Act.put, List.setIfInBounds_toArray, List.set_cons_zero, List.set_cons_succ]
            refine wpAnyL_move (i := 3) (v := ?vp4) (some 61) rfl rfl (by as_aux_lemma => kernel_rfl) (by as_aux_lemma => kernel_rfl) (by as_aux_lemma => kernel_rfl) (by as_aux_lemma => kernel_rfl) (fun _ _ _ h => h) (Or.inl ⟨by rfl, ?hp4⟩) (fun _ => hSn) ?rp4
            case hp4 =>
              intro w _
              go_simp
              try with_reducible rfl
            simp only [Act.put, List.setIfInBounds_toArray, List.set_cons_zero, List.set_cons_succ]
            refine wpAnyL_move (i := 4) (v := ?vp5) (some 62) rfl rfl (by as_aux_lemma => kernel_rfl) (by as_aux_lemma => kernel_rfl) (by as_aux_lemma => kernel_rfl) (by as_aux_lemma => kernel_rfl) (fun _ _ _ h => h) (Or.inl ⟨by rfl, ?hp5⟩) (fun _ => hSn) ?rp5
            case hp5 =>
              intro w _
              go_simp
              try with_reducible rfl
            simp only [Act.put, List.setIfInBounds_toArray, List.set_cons_zero, List.set_cons_succ]
            refine wpAnyL_take (i := 5) (v := ?vp6) [7, 8, 9, 10, 21, 32, 34, 36, 38] (some 63) rfl rfl (by as_aux_lemma => kernel_rfl) (by as_aux_lemma => kernel_rfl) (by as_aux_lemma => kernel_rfl) (by as_aux_lemma => kernel_rfl) (fun _ _ _ h => h) (Or.inl ⟨by rfl, ?hp6⟩) hSn ?rp6
            case hp6 =>
              intro w hSw
              obtain ⟨s0, s1, s2, y0, y1, y2, j0, j1, k0, k1, k2, k3, k4, k5, k6, x0⟩ := hSw
              go_simp
              try with_reducible rfl
            simp only [Act.put, List.setIfInBounds_toArray, List.set_cons_zero, List.set_cons_succ]
            refine wpAnyL_move (i := 6) (v := ?vp7) (some 64) rfl rfl (by as_aux_lemma => kernel_rfl) (by as_aux_lemma => kernel_rfl) (by as_aux_lemma => kernel_rfl) (by as_aux_lemma => kernel_rfl) (fun _ _ _ h => h) (Or.inl ⟨by rfl, ?hp7⟩) (fun _ => hSn) ?rp7
            case hp7 =>
              intro w _
              go_simp
              try with_reducible rfl
            simp only [Act.put, List.setIfInBounds_toArray, List.set_cons_zero, List.set_cons_succ]
            refine wpAnyL_move (i := 7) (v := ?vp8) (some 65) rfl rfl (by as_aux_lemma => kernel_rfl) (by as_aux_lemma => kernel_rfl) (by as_aux_lemma => kernel_rfl) (by as_aux_lemma => kernel_rfl) (fun _ _ _ h => h) (Or.inl ⟨by rfl, ?hp8⟩) (fun _ => hSn) ?rp8
            case hp8 =>
              intro w _
              go_simp
              try with_reducible rfl
            simp only [Act.put, List.setIfInBounds_toArray, List.set_cons_zero, List.set_cons_succ]
            refine wpAnyL_take (i := 8) (v := ?vp9) [9, 10, 21, 32, 34, 36, 38] (some 66) rfl rfl (by as_aux_lemma => kernel_rfl) (by as_aux_lemma => kernel_rfl) (by as_aux_lemma => kernel_rfl) (by as_aux_lemma => kernel_rfl) (fun _ _ _ h => h) (Or.inl ⟨by rfl, ?hp9⟩) hSn ?rp9
            case hp9 =>
              intro w hSw
              obtain ⟨s0, s1, s2, y0, y1, y2, j0, j1, k0, k1, k2, k3, k4, k5, k6, x0⟩ := hSw
              go_simp
              try with_reducible rfl
            simp only [Act.put, List.setIfInBounds_toArray, List.set_cons_zero, List.set_cons_succ]
            refine wpAnyL_move (i := 11) (v := ?vp10) (some 69) rfl rfl (by as_aux_lemma => kernel_rfl) (by as_aux_lemma => kernel_rfl) (by as_aux_lemma => kernel_rfl) (by as_aux_lemma => kernel_rfl) (fun _ _ _ h => h) (Or.inl ⟨by rfl, ?hp10⟩) (fun _ => hSn) ?rp10
            case hp10 =>
              intro w _
              go_simp
              try with_reducible rfl
            simp only [Act.put, List.setIfInBounds_toArray, List.set_cons_zero, List.set_cons_succ]
            refine wpAnyL_take (i := 12) (v := ?vp11) [21, 32, 34, 36, 38] (some 70) rfl rfl (by as_aux_lemma => kernel_rfl) (by as_aux_lemma => kernel_rfl) (by as_aux_lemma => kernel_rfl) (by as_aux_lemma => kernel_rfl) (fun _ _ _ h => h) (Or.inl ⟨by rfl, ?hp11⟩) hSn ?rp11
            case hp11 =>
              intro w hSw
              obtain ⟨s0, s1, s2, y0, y1, y2, j0, j1, k0, k1, k2, k3, k4, k5, k6, x0⟩ := hSw
              go_simp
              try with_reducible rfl
            simp only [Act.put, List.setIfInBounds_toArray, List.set_cons_zero, List.set_cons_succ]
            refine wpAnyL_move (i := 13) (v := ?vp12) (some 71) rfl rfl (by as_aux_lemma => kernel_rfl) (by as_aux_lemma => kernel_rfl) (by as_aux_lemma => kernel_rfl) (by as_aux_lemma => kernel_rfl) (fun _ _ _ h => h) (Or.inl ⟨by rfl, ?hp12⟩) (fun _ => hSn) ?rp12
            case hp12 =>
              intro w _
              go_simp
              try with_reducible rfl
            simp only [Act.put, List.setIfInBounds_toArray, List.set_cons_zero, List.set_cons_succ]
            refine wpAnyL_move (i := 14) (v := ?vp13) (some 72) rfl rfl (by as_aux_lemma => kernel_rfl) (by as_aux_lemma => kernel_rfl) (by as_aux_lemma => kernel_rfl) (by as_aux_lemma => kernel_rfl) (fun _ _ _ h => h) (Or.inl ⟨by rfl, ?hp13⟩) (fun _ => hSn) ?rp13
            case hp13 =>
              intro w _
              go_simp
              try with_reducible rfl
            simp only [Act.put, List.setIfInBounds_toArray, List.set_cons_zero, List.set_cons_succ]
            refine wpAnyL_move (i := 15) (v := ?vp14) (some 73) rfl rfl (by as_aux_lemma => kernel_rfl) (by as_aux_lemma => kernel_rfl) (by as_aux_lemma => kernel_rfl) (by as_aux_lemma => kernel_rfl) (fun _ _ _ h => h) (Or.inl ⟨by rfl, ?hp14⟩) (fun _ => hSn) ?rp14
            case hp14 =>
              intro w _
              go_simp
              try with_reducible rfl
            simp only [Act.put, List.setIfInBounds_toArray, List.set_cons_zero, List.set_cons_succ]
            refine wpAnyL_take (i := 16) (v := ?vp15) [18, 19, 20, 21, 32, 34, 36, 38] (some 74) rfl rfl (by as_aux_lemma => kernel_rfl) (by as_aux_lemma => kernel_rfl) (by as_aux_lemma => kernel_rfl) (by as_aux_lemma => kernel_rfl) (fun _ _ _ h => h) (Or.inl ⟨by rfl, ?hp15⟩) hSn ?rp15
            case hp15 =>
              intro w hSw
              obtain ⟨s0, s1, s2, y0, y1, y2, j0, j1, k0, k1, k2, k3, k4, k5, k6, x0⟩ := hSw
              go_simp
              try with_reducible rfl
            simp only [Act.put, List.setIfInBounds_toArray, List.set_cons_zero, List.set_cons_succ]
            refine wpAnyL_move (i := 17) (v := ?vp16) (some 75) rfl rfl (by as_aux_lemma => kernel_rfl) (by as_aux_lemma => kernel_rfl) (by as_aux_lemma => kernel_rfl) (by as_aux_lemma => kernel_rfl) (fun _ _ _ h => h) (Or.inl ⟨by rfl, ?hp16⟩) (fun _ => hSn) ?rp16
            case hp16 =>
              intro w _
              go_simp
              try with_reducible rfl
            simp only [Act.put, List.setIfInBounds_toArray, List.set_cons_zero, List.set_cons_succ]
            refine wpAnyL_move (i := 18) (v := ?vp17) (some 76) rfl rfl (by as_aux_lemma => kernel_rfl) (by as_aux_lemma => kernel_rfl) (by as_aux_lemma => kernel_rfl) (by as_aux_lemma => kernel_rfl) (fun _ _ _ h => h) (Or.inl ⟨by rfl, ?hp17⟩) (fun _ => hSn) ?rp17
            case hp17 =>
              intro w _
              go_simp
              try with_reducible rfl
            simp only [Act.put, List.setIfInBounds_toArray, List.set_cons_zero, List.set_cons_succ]
            refine wpAnyL_take (i := 19) (v := ?vp18) [20, 21, 32, 34, 36, 38] (some 77) rfl rfl (by as_aux_lemma => kernel_rfl) (by as_aux_lemma => kernel_rfl) (by as_aux_lemma => kernel_rfl) (by as_aux_lemma => kernel_rfl) (fun _ _ _ h => h) (Or.inl ⟨by rfl, ?hp18⟩) hSn ?rp18
            case hp18 =>
              intro w hSw
              obtain ⟨s0, s1, s2, y0, y1, y2, j0, j1, k0, k1, k2, k3, k4, k5, k6, x0⟩ := hSw
              go_simp
              try with_reducible rfl
            simp only [Act.put, List.setIfInBounds_toArray, List.set_cons_zero, List.set_cons_succ]
            refine wpAnyL_move (i := 22) (v := ?vp19) (some 80) rfl rfl (by as_aux_lemma => kernel_rfl) (by as_aux_lemma => kernel_rfl) (by as_aux_lemma => kernel_rfl) (by as_aux_lemma => kernel_rfl) (fun _ _ _ h => h) (Or.inl ⟨by rfl, ?hp19⟩) (fun _ => hSn) ?rp19
            case hp19 =>
              intro w _
              go_simp
              try with_reducible rfl
            simp only [Act.put, List.setIfInBounds_toArray, List.set_cons_zero, List.set_cons_succ]
            refine wpAnyL_take (i := 23) (v := ?vp20) [32, 34, 36, 38] (some 81) rfl rfl (by as_aux_lemma => kernel_rfl) (by as_aux_lemma => kernel_rfl) (by as_aux_lemma => kernel_rfl) (by as_aux_lemma => kernel_rfl) (fun _ _ _ h => h) (Or.inl ⟨by rfl, ?hp20⟩) hSn ?rp20
            case hp20 =>
              intro w hSw
              obtain ⟨s0, s1, s2, y0, y1, y2, j0, j1, k0, k1, k2, k3, k4, k5, k6, x0⟩ := hSw
              go_simp
              try with_reducible rfl
            simp only [Act.put, List.setIfInBounds_toArray, List.set_cons_zero, List.set_cons_succ]
            refine wpAnyL_move (i := 24) (v := ?vp21) (some 82) rfl rfl (by as_aux_lemma => kernel_rfl) (by as_aux_lemma => kernel_rfl) (by as_aux_lemma => kernel_rfl) (by as_aux_lemma => kernel_rfl) (fun _ _ _ h => h) (Or.inl ⟨by rfl, ?hp21⟩) (fun _ => hSn) ?rp21
            case hp21 =>
              intro w _
              go_simp
              try with_reducible rfl
            simp only [Act.put, List.setIfInBounds_toArray, List.set_cons_zero, List.set_cons_succ]
            refine wpAnyL_move (i := 25) (v := ?vp22) (some 83) rfl rfl (by as_aux_lemma => kernel_rfl) (by as_aux_lemma => kernel_rfl) (by as_aux_lemma => kernel_rfl) (by as_aux_lemma => kernel_rfl) (fun _ _ _ h => h) (Or.inl ⟨by rfl, ?hp22⟩) (fun _ => hSn) ?rp22
            case hp22 =>
              intro w _
              go_simp
              try with_reducible rfl
            simp only [Act.put, List.setIfInBounds_toArray, List.set_cons_zero, List.set_cons_succ]
            refine wpAnyL_move (i := 26) (v := ?vp23) (some 84) rfl rfl (by as_aux_lemma => kernel_rfl) (by as_aux_lemma => kernel_rfl) (by as_aux_lemma => kernel_rfl) (by as_aux_lemma => kernel_rfl) (fun _ _ _ h => h) (Or.inl ⟨by rfl, ?hp23⟩) (fun _ => hSn) ?rp23
            case hp23 =>
              intro w _
              go_simp
              try with_reducible rfl
            simp only [Act.put, List.setIfInBounds_toArray, List.set_cons_zero, List.set_cons_succ]
            refine wpAnyL_take (i := 27) (v := ?vp24) [29, 30, 31, 32, 34, 36, 38] (some 85) rfl rfl (by as_aux_lemma => kernel_rfl) (by as_aux_lemma => kernel_rfl) (by as_aux_lemma => kernel_rfl) (by as_aux_lemma => kernel_rfl) (fun _ _ _ h => h) (Or.inl ⟨by rfl, ?hp24⟩) hSn ?rp24
            case hp24 =>
              intro w hSw
              obtain ⟨s0, s1, s2, y0, y1, y2, j0, j1, k0, k1, k2, k3, k4, k5, k6, x0⟩ := hSw
              go_simp
              try with_reducible rfl
            simp only [Act.put, List.setIfInBounds_toArray, List.set_cons_zero, List.set_cons_succ]
            refine wpAnyL_move (i := 28) (v := ?vp25) (some 86) rfl rfl (by as_aux_lemma => kernel_rfl) (by as_aux_lemma => kernel_rfl) (by as_aux_lemma => kernel_rfl) (by as_aux_lemma => kernel_rfl) (fun _ _ _ h => h) (Or.inl ⟨by rfl, ?hp25⟩) (fun _ => hSn) ?rp25
            case hp25 =>
              intro w _
              go_simp
              try with_reducible rfl
            simp only [Act.put, List.setIfInBounds_toArray, List.set_cons_zero, List.set_cons_succ]
            refine wpAnyL_move (i := 29) (v := ?vp26) (some 87) rfl rfl (by as_aux_lemma => kernel_rfl) (by as_aux_lemma => kernel_rfl) (by as_aux_lemma => kernel_rfl) (by as_aux_lemma => kernel_rfl) (fun _ _ _ h => h) (Or.inl ⟨by rfl, ?hp26⟩) (fun _ => hSn) ?rp26
            case hp26 =>
              intro w _
              go_simp
              try with_reducible rfl
            simp only [Act.put, List.setIfInBounds_toArray, List.set_cons_zero, List.set_cons_succ]
            refine wpAnyL_take (i := 30) (v := ?vp27) [31, 32, 34, 36, 38] (some 88) rfl rfl (by as_aux_lemma => kernel_rfl) (by as_aux_lemma => kernel_rfl) (by as_aux_lemma => kernel_rfl) (by as_aux_lemma => kernel_rfl) (fun _ _ _ h => h) (Or.inl ⟨by rfl, ?hp27⟩) hSn ?rp27
            case hp27 =>
              intro w hSw
              obtain ⟨s0, s1, s2, y0, y1, y2, j0, j1, k0, k1, k2, k3, k4, k5, k6, x0⟩ := hSw
              go_simp
              try with_reducible rfl
            simp only [Act.put, List.setIfInBounds_toArray, List.set_cons_zero, List.set_cons_succ]
            refine wpAnyL_grow (apps := [⟨9, 10, 67, 68, 59, 26, 2, .slice q1 m.length k1, m.length, flat 2 m.length (VI m), [.int .i64 er, .int .i64 es]⟩, ⟨20, 21, 78, 79, 70, 29, 7, .slice q2 m.length k2, m.length, flat 7 m.length (VC m), [.int .i64 ec.k, .int .i64 ec.c, .int .i64 ec.s, .string ec.a, .string ec.b, .string ec.o, .string ec.v]⟩, ⟨31, 32, 89, 90, 81, 3, 1, .slice q3 m.length k3, m.length, flat 1 m.length (VQ m), [.int .i64 eq]⟩]) [⟨33, 91, .pointer (some ⟨gy, 0, none⟩)⟩] (f := 5) rfl (B := w.heap.size + 2) ?ok (fun W => PrB w W (w.heap.size + 2) gy (.slice q1 m.length k1 :: .slice q2 m.length k2 :: .slice q3 m.length k3 :: cutL dn)) (fun _ _ h hb => h.below hb) ?ing (fun W h => HK.out W h) (by as_aux_lemma => kernel_rfl) (by show List.Nodup [9, 10, 20, 21, 31, 32, 33]; decide) HN.out.le HN.out ?own ?fin
            case ing =>
              intro W W2 y hx hi hg; simp only [List.mem_cons, List.not_mem_nil, or_false] at hx; rcases hx with rfl | rfl | rfl
              · exact hi.grown hg HNE0.out
              · exact hi.grown hg HNE1.out
              · exact hi.grown hg HNE2.out
            case own =>
              intro y hx; simp only [List.mem_cons, List.not_mem_nil, or_false] at hx; rcases hx with rfl | rfl | rfl
              · exact HO0.out
              · exact HO1.out
              · exact HO2.out
            case ok =>
              refine ⟨?_, ?_, ?_, ?_, by simp, ?_, ?_, ?_, ?_, ?_, ?_, ?_⟩
              · intro y hx; simp only [List.mem_cons, List.not_mem_nil, or_false] at hx; rcases hx with rfl | rfl | rfl
                · exact ⟨_, rfl, rfl, rfl, fun a W K hA hK => wp_build_one (q := 66) 49 26 (.agg #[.int .i64 er, .int .i64 es]) [.int .i64 er, .int .i64 es] rfl rfl (eval_known ((hA.2.2 66 (by simp) (by simp)).trans rfl)) (by intro W; go_simp) hK⟩
                · exact ⟨_, rfl, rfl, rfl, fun a W K hA hK => wp_build_one (q := 77) 50 29 (.agg #[.int .i64 ec.k, .int .i64 ec.c, .int .i64 ec.s, .string ec.a, .string ec.b, .string ec.o, .string ec.v]) [.int .i64 ec.k, .int .i64 ec.c, .int .i64 ec.s, .string ec.a, .string ec.b, .string ec.o, .string ec.v] rfl rfl (eval_known ((hA.2.2 77 (by simp) (by simp)).trans rfl)) (by intro W; go_simp) hK⟩
                · exact ⟨_, rfl, rfl, rfl, fun a W K hA hK => wp_build_one (q := 88) 51 3 (.int .i64 eq) [.int .i64 eq] rfl rfl (eval_known ((hA.2.2 88 (by simp) (by simp)).trans rfl)) (by intro W; go_simp) hK⟩
              · intro y hx; simp only [List.mem_cons, List.not_mem_nil, or_false] at hx; rcases hx with rfl | rfl | rfl
                · exact ⟨_, 49, .agg #[.int .i64 0, .int .i64 0], 16, rfl, rfl, rfl, rfl, rfl, (by as_aux_lemma => kernel_rfl), rfl, (by show (m.length + 1) * 16 ≤ _; omega), rfl⟩
                · exact ⟨_, 50, .agg #[.int .i64 0, .int .i64 0, .int .i64 0, .string ⟨#[]⟩, .string ⟨#[]⟩, .string ⟨#[]⟩, .string ⟨#[]⟩], 88, rfl, rfl, rfl, rfl, rfl, (by as_aux_lemma => kernel_rfl), rfl, (by show (m.length + 1) * 88 ≤ _; omega), rfl⟩
                · exact ⟨_, 51, .int .i64 0, 8, rfl, rfl, rfl, rfl, rfl, (by as_aux_lemma => kernel_rfl), rfl, (by show (m.length + 1) * 8 ≤ _; omega), rfl⟩
              · intro y hx; simp only [List.mem_cons, List.not_mem_nil, or_false] at hx; rcases hx with rfl | rfl | rfl
                · exact ⟨Nat.succ_pos _, rfl, rfl, (by show m.length + 1 ≤ maxLen; unfold maxLen; omega)⟩
                · exact ⟨Nat.succ_pos _, rfl, rfl, (by show m.length + 1 ≤ maxLen; unfold maxLen; omega)⟩
                · exact ⟨Nat.succ_pos _, rfl, rfl, (by show m.length + 1 ≤ maxLen; unfold maxLen; omega)⟩
              · intro y hx z hz; simp only [List.mem_cons, List.not_mem_nil, or_false] at hx hz; rcases hx with rfl | rfl | rfl <;> rcases hz with rfl | rfl | rfl <;> simp
              · intro y hx z hz; simp only [List.mem_cons, List.not_mem_nil, or_false] at hx hz; rcases hx with rfl | rfl | rfl <;> rcases hz with rfl | rfl | rfl <;> simp
              · intro y hx z hz; simp only [List.mem_cons, List.not_mem_nil, or_false] at hx hz; rcases hx with rfl | rfl | rfl <;> rcases hz with rfl | rfl | rfl <;> simp
              · intro y hx z hz; simp only [List.mem_cons, List.not_mem_nil, or_false] at hx hz; rcases hx with rfl | rfl | rfl <;> rcases hz with rfl | rfl | rfl <;> simp
              · intro y hx; simp only [List.mem_cons, List.not_mem_nil, or_false] at hx; subst hx
                refine ⟨_, rfl, rfl, rfl, fun a W K hA hK => ?_⟩
                have e : a.tmps[4]? = some (.pointer (some ⟨gy, 0, none⟩)) := (hA.2.2 4 (by simp) (by simp)).trans rfl
                unfold Oper.wp execOp
                go_simp
                exact hK
              · intro y hx; simp only [List.mem_cons, List.not_mem_nil, or_false] at hx; subst hx
                refine ⟨by simp, ?_⟩
                intro z hz; simp only [List.mem_cons, List.not_mem_nil, or_false] at hz; rcases hz with rfl | rfl | rfl <;> simp
              · intro y hx z hz; simp only [List.mem_cons, List.not_mem_nil, or_false] at hx hz; subst hx; subst hz; simp
              · intro y hx; simp only [List.mem_cons, List.not_mem_nil, or_false] at hx; rcases hx with rfl | rfl | rfl
                · exact ⟨_, rfl, (by as_aux_lemma => kernel_rfl)⟩
                · exact ⟨_, rfl, (by as_aux_lemma => kernel_rfl)⟩
                · exact ⟨_, rfl, (by as_aux_lemma => kernel_rfl)⟩
            case fin =>
              intro β ρ W hWle hN hR
              clear hSn HN HO0 HO1 HO2
              have HN := Lib.hid hN
              have HR0 := Lib.hid (hR (⟨9, 10, 67, 68, 59, 26, 2, .slice q1 m.length k1, m.length, flat 2 m.length (VI m), [.int .i64 er, .int .i64 es]⟩) (List.mem_cons_self))
              have HR1 := Lib.hid (hR (⟨20, 21, 78, 79, 70, 29, 7, .slice q2 m.length k2, m.length, flat 7 m.length (VC m), [.int .i64 ec.k, .int .i64 ec.c, .int .i64 ec.s, .string ec.a, .string ec.b, .string ec.o, .string ec.v]⟩) (List.mem_cons_of_mem _ List.mem_cons_self))
              have HR2 := Lib.hid (hR (⟨31, 32, 89, 90, 81, 3, 1, .slice q3 m.length k3, m.length, flat 1 m.length (VQ m), [.int .i64 eq]⟩) (List.mem_cons_of_mem _ (List.mem_cons_of_mem _ List.mem_cons_self)))
              clear hR hN
              simp only [layM, layL, List.foldl, markL, nums, List.map_cons, List.map_nil, List.flatMap_cons, List.flatMap_nil, List.cons_append, List.nil_append, List.append_nil] at HR0 HR1 HR2 ⊢
              generalize ρ 10 = v90 at HR0 ⊢
              generalize ρ 21 = v91 at HR1 ⊢
              generalize ρ 32 = v92 at HR2 ⊢
              simp only [Act.put, List.setIfInBounds_toArray, List.set_cons_zero, List.set_cons_succ]
              obtain ⟨z0, d0, hq0, _, _⟩ := own_shape HR0.out
              subst hq0
              obtain ⟨z1, d1, hq1, _, _⟩ := own_shape HR1.out
              subst hq1
              obtain ⟨z2, d2, hq2, _, _⟩ := own_shape HR2.out
              subst hq2
              refine wpAnyL_ready (rs := [34]) (by as_aux_lemma => kernel_rfl) (by simp) ?_
              refine AllReadyL.cons rfl (fun K hK => ?_) (AllReadyL.nil)
              refine step_store_cell rfl 49 (.tmp 91) (.tmp 68) rfl rfl gy 0 53 _ HN.out.hy (by simp [cutL]) rfl (.slice z0 (m.length + 1) d0) rfl (by simp [Value.cells]) (by as_aux_lemma => kernel_rfl) (by simp [Value.oneCell']) ?_
              intro w80 hd hT
              have HN := Lib.hid (HN.out.stored hd hT)
              have HR0 := Lib.hid (owns_touch HR0.out hT HN.out.lo.2)
              have HR1 := Lib.hid (owns_touch HR1.out hT HN.out.lo.2)
              have HR2 := Lib.hid (owns_touch HR2.out hT HN.out.lo.2)
              clear hd hT
              refine hK.out _ _ (notLate (by as_aux_lemma => kernel_rfl)) ?_
              clear hK
              try simp only [Act.put, List.setIfInBounds_toArray, List.set_cons_zero, List.set_cons_succ]
              refine wpAnyL_move (i := 35) (v := ?vp28) (some 92) rfl rfl (by as_aux_lemma => kernel_rfl) (by as_aux_lemma => kernel_rfl) (by as_aux_lemma => kernel_rfl) (by as_aux_lemma => kernel_rfl) (fun _ _ _ h => h) (Or.inl ⟨by rfl, ?hp28⟩) (notLate (by as_aux_lemma => kernel_rfl)) ?rp28
              case hp28 =>
                intro w _
                go_simp
                try with_reducible rfl
              simp only [Act.put, List.setIfInBounds_toArray, List.set_cons_zero, List.set_cons_succ]
              refine wpAnyL_ready (rs := [36]) (by as_aux_lemma => kernel_rfl) (by simp) ?_
              refine AllReadyL.cons rfl (fun K hK => ?_) (AllReadyL.nil)
              refine step_store_cell rfl 50 (.tmp 92) (.tmp 79) rfl rfl gy 1 53 _ HN.out.hy (by simp [cutL]) rfl (.slice z1 (m.length + 1) d1) rfl (by simp [Value.cells]) (by as_aux_lemma => kernel_rfl) (by simp [Value.oneCell']) ?_
              intro w81 hd hT
              have HN := Lib.hid (HN.out.stored hd hT)
              have HR0 := Lib.hid (owns_touch HR0.out hT HN.out.lo.2)
              have HR1 := Lib.hid (owns_touch HR1.out hT HN.out.lo.2)
              have HR2 := Lib.hid (owns_touch HR2.out hT HN.out.lo.2)
              clear hd hT
              refine hK.out _ _ (notLate (by as_aux_lemma => kernel_rfl)) ?_
              clear hK
              try simp only [Act.put, List.setIfInBounds_toArray, List.set_cons_zero, List.set_cons_succ]
              refine wpAnyL_move (i := 37) (v := ?vp29) (some 93) rfl rfl (by as_aux_lemma => kernel_rfl) (by as_aux_lemma => kernel_rfl) (by as_aux_lemma => kernel_rfl) (by as_aux_lemma => kernel_rfl) (fun _ _ _ h => h) (Or.inl ⟨by rfl, ?hp29⟩) (notLate (by as_aux_lemma => kernel_rfl)) ?rp29
              case hp29 =>
                intro w _
                go_simp
                try with_reducible rfl
              simp only [Act.put, List.setIfInBounds_toArray, List.set_cons_zero, List.set_cons_succ]
              refine wpAnyL_ready (rs := [38]) (by as_aux_lemma => kernel_rfl) (by simp) ?_
              refine AllReadyL.cons rfl (fun K hK => ?_) (AllReadyL.nil)
              refine step_store_cell rfl 51 (.tmp 93) (.tmp 90) rfl rfl gy 2 53 _ HN.out.hy (by simp [cutL]) rfl (.slice z2 (m.length + 1) d2) rfl (by simp [Value.cells]) (by as_aux_lemma => kernel_rfl) (by simp [Value.oneCell']) ?_
              intro w82 hd hT
              have HN := Lib.hid (HN.out.stored hd hT)
              have HR0 := Lib.hid (owns_touch HR0.out hT HN.out.lo.2)
              have HR1 := Lib.hid (owns_touch HR1.out hT HN.out.lo.2)
              have HR2 := Lib.hid (owns_touch HR2.out hT HN.out.lo.2)
              clear hd hT
              refine hK.out _ _ (notLate (by as_aux_lemma => kernel_rfl)) ?_
              clear hK
              try simp only [Act.put, List.setIfInBounds_toArray, List.set_cons_zero, List.set_cons_succ]
              refine wpAnyL_done (by as_aux_lemma => kernel_rfl) ?_ _
              refine NoPanic.normal ?_
              have HDN := Lib.hid (doc_more (e := ⟨er, es, ec, eq⟩) HN.out.hy HR0.out HR1.out HR2.out HN.out.lo.2 HN.out.le)
              have HBB := Lib.hid HN.out.bel
              clear HN HR0 HR1 HR2
              go_wp2_with fail
              go_roundw
              case rel =>
                refine ⟨j + 1, by omega, by go_num, HBB.out, ?_⟩
                rw [HSU.out, HKE.out]
                exact ⟨_, _, _, _, _, _, HDN.out⟩
              case measure => simp [intOf]; omega
          · have HSU := Lib.hid (show pruned (l.take (j + 1)) dn = pruned (l.take j) dn by
              rw [prunedTo_succ l dn hjn, HKR.out, HESJ.out, Int.toNat_natCast, HDK.out, if_neg hgt])
            refine wp_region_quiet_below (by as_aux_lemma => kernel_rfl) (by as_aux_lemma => kernel_rfl) ?_
            repeat go_big_quiet_step (fail)
            refine wpQuiet_nil ?_
            intro w5 hw'
            have hb5 := below_of_regrown hw'
            have HBB := Lib.hid (below_next HBB.out hb5)
            have HY := Lib.hid (HY.out.below hb5)
            clear hw' hb5 j0 j1 gg0 yk hgt HDD HDK HR1 HR2 HR3
            go_wp2_with fail
            go_roundw
            case rel =>
              refine ⟨j + 1, by omega, by go_num, HBB.out, ?_⟩
              rw [HSU.out]
              exact ⟨_, _, _, _, _, _, HY.out⟩
            case measure => simp [intOf]; omega
        · have hjn2 : j = l.length := by omega
          subst hjn2
          clear hj hjn
          have hdy := HY.out
          rw [List.take_length] at hdy
          have HY := Lib.hid hdy; clear hdy
          generalize hmm : pruned l dn = m at HY
          have HMM := Lib.hid hmm; clear hmm
          have hrng : wr.rangeAt gy 0 (Value.slice q1 m.length k1 :: .slice q2 m.length k2 :: .slice q3 m.length k3 :: cutL dn) := fun j v hv => by
            rw [Nat.zero_add, HY.out.box.cell j]; exact hv
          have hone : (Value.slice q1 m.length k1 :: .slice q2 m.length k2 :: .slice q3 m.length k3 :: cutL dn).toArray.all (·.oneCell') = true := by simp [Value.oneCell', cutL]
          have HRG := Lib.hid hrng; have HON := Lib.hid hone; clear hrng hone
          obtain ⟨L, hL⟩ : ∃ L, L = (Value.slice q1 m.length k1 :: .slice q2 m.length k2 :: .slice q3 m.length k3 :: cutL dn) := ⟨_, rfl⟩
          have hL10 : L.length = 10 := by rw [hL]; rfl
          rw [← hL] at HRG HON
          have HL := Lib.hid hL; clear hL
          go_wp2_with (first
            | (refine wpList_load_mid rfl 53 _ rfl gy 0 rfl _ _ HRG.out Try.underlying53 rfl (by rw [hL10]; kernel_rfl) ?_)
            | (refine wpList_store_box rfl rfl rfl rfl rfl HDD.out.box (by rw [hL10]; kernel_rfl) (by rw [hL10]; rfl) HON.out ?_))
          have hT : Touch gd wr (wr.setRow gd L.toArray) := ⟨rfl, rfl, rfl, by simp [World.setRow], fun j hj hne => setRow_other wr gd j _ hne⟩
          have hbx : Holds (wr.setRow gd L.toArray) gd 53 L := setRow_heap wr gd _ _ _ _ HDD.out.box
          rw [HL.out] at hT hbx ⊢
          rw [HDN0.out, HMM.out]
          have hle : B ≤ w.heap.size + 2 := by have := HD.out.le; omega
          have hgl : gd < w.heap.size + 2 := by have := HD.out.lt; omega
          refine bodyPost_end (v := .tuple #[]) (by simp [results, Try.results21, go_sem]) rfl ?_
          exact ⟨rfl, ⟨_, _, _, _, _, _, hbx, owns_mono (owns_touch HY.out.o1 hT hgl) hle, owns_mono (owns_touch HY.out.o2 hT hgl) hle, owns_mono (owns_touch HY.out.o3 hT hgl) hle, HD.out.lt, Nat.le_trans HDD.out.le hT.size⟩, ((Keep.refl B gd w).then (HBB.out.mono HD.out.le)).touched hT (Nat.le_trans HDD.out.le (Nat.le_refl _))⟩
end Go.Proofs.Ytleagecocffihaa
