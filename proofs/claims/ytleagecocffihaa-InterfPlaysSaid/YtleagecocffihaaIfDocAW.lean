/-
  The walk of the document's Attr.
-/
import Derived.Test.YtleagecocffihaaIfDocL
import Derived.Test.YtleagecocffihaaIfAttrW
import Derived.Test.YtleagecocffihaaLast
namespace Go.Proofs.Ytleagecocffihaa
open Go.RowKit Go.Maps
set_option linter.unusedVariables false
set_option linter.unusedSimpArgs false

theorem doc_cut' (v1 v2 v3 : Value) (d : Nat → Int) (k : Nat) (hk : k < 7) : (v1 :: v2 :: v3 :: cutL d)[3 + k]? = some (.int .i64 (d k)) := by
  have : k = 0 ∨ k = 1 ∨ k = 2 ∨ k = 3 ∨ k = 4 ∨ k = 5 ∨ k = 6 := by omega
  rcases this with rfl | rfl | rfl | rfl | rfl | rfl | rfl <;> rfl
theorem eql_inst' (r s r' s' : Int) (w : World) : (binOp .eql 26 (.agg #[.int .i64 r, .int .i64 s]) (.agg #[.int .i64 r', .int .i64 s'])).run Try.prog w = .ok (.bool (r == r' && s == s')) w := by
  by_cases h1 : r = r' <;> by_cases h2 : s = s' <;> go_simp <;> simp [h1, h2]
/-- Under way in Attr: what was handed in, and the box of what is told. -/
structure Da (w wr : World) (r s : Int) (c : Cm) (gi gc gr ga : Nat) (q : Int) (dd : Nat → Int) : Prop where
  bel : Below w.heap.size w wr
  hi : Holds wr gi 26 [.int .i64 r, .int .i64 s]
  hc : Holds wr gc 29 [.int .i64 c.k, .int .i64 c.c, .int .i64 c.s, .string c.a, .string c.b, .string c.o, .string c.v]
  hr : Holds wr gr 34 (attL 0 fun _ => 0)
  ha : Holds wr ga 34 (attL q dd)
  lo : w.heap.size ≤ ga ∧ w.heap.size ≤ gr
  ne : gi ≠ ga ∧ gc ≠ ga ∧ gr ≠ ga
theorem Da.below {w wr w2 : World} {r s : Int} {c : Cm} {gi gc gr ga : Nat} {q : Int} {dd : Nat → Int} (h : Da w wr r s c gi gc gr ga q dd) (hb : Below wr.heap.size wr w2) : Da w w2 r s c gi gc gr ga q dd :=
  ⟨below_next h.bel hb, h.hi.bel hb, h.hc.bel hb, h.hr.bel hb, h.ha.bel hb, h.lo, h.ne⟩
theorem Da.wrote {w wr w2 : World} {r s : Int} {c : Cm} {gi gc gr ga : Nat} {q q' : Int} {dd dd' : Nat → Int} (h : Da w wr r s c gi gc gr ga q dd) (ht : Touch ga wr w2) (ha : Holds w2 ga 34 (attL q' dd')) : Da w w2 r s c gi gc gr ga q' dd' :=
  ⟨h.bel.trans (ht.below h.lo.1 h.bel.size), h.hi.touch ht h.ne.1, h.hc.touch ht h.ne.2.1, h.hr.touch ht h.ne.2.2, ha, h.lo, h.ne⟩
theorem takes_doc (r s : Int) (c : Cm) (e : Ent) : takes r s c e = (!(e.r == r && e.s == s) && rclashC e.c c && !(e.r == r && decide (s < e.s))) := by
  unfold takes
  rw [rclash_eq]
  by_cases h1 : e.r = r
  · by_cases h2 : e.s = s
    · simp [h1, h2]
    · by_cases h3 : s < e.s
      · simp [h1, h3, show s ≤ e.s by omega]
      · simp [h1, h2, h3, show ¬ s ≤ e.s by omega]
  · rw [show (e.r == r) = false from by simp [h1]]
    simp
theorem seqTo_next (l : List Ent) (r s : Int) (c : Cm) {j : Nat} (h : j < l.length) (b : Bool) (hb : takes r s c (entAt l j) = b) : seqOf (l.take (j + 1)) (takes r s c) = if b then max (seqOf (l.take j) (takes r s c)) ((entAt l j).q + 1) else seqOf (l.take j) (takes r s c) := by
  rw [seqTo_succ l _ h, hb]
  split <;> omega
theorem depTo_same (l : List Ent) (r s : Int) (c : Cm) {j : Nat} (h : j < l.length) (hb : takes r s c (entAt l j) = false) : (fun t : Nat => depOf (l.take (j + 1)) (takes r s c) t) = fun t : Nat => depOf (l.take j) (takes r s c) t := by
  funext t
  rw [depTo_succ l _ h, hb]
  simp
theorem depTo_next (l : List Ent) (r s : Int) (c : Cm) {j k : Nat} (h : j < l.length) (hb : takes r s c (entAt l j) = true) (hk : (entAt l j).r = k) : (fun t : Nat => depOf (l.take (j + 1)) (takes r s c) t) = fun t : Nat => if t = k then max (depOf (l.take j) (takes r s c) k) (entAt l j).s else depOf (l.take j) (takes r s c) t := by
  funext t
  rw [depTo_succ l _ h, hb, hk]
  by_cases ht : t = k
  · subst ht
    simp
    omega
  · rw [if_neg ht, if_neg]
    simp
    omega
/-- Behind the loop: first the own row, then the others. -/
def attM (l : List Ent) (r s : Int) (c : Cm) (t : Nat) : Int := if (t : Int) = r then (if rightI r s then max (depOf l (takes r s c) t) (s - 1) else depOf l (takes r s c) t) else depOf l (takes r s c) t
set_option maxRecDepth 8000 in
set_option maxHeartbeats 40000000 in
theorem dattr_any (B gd : Nat) (p1 : Option Addr) (c1 : Nat) (p2 : Option Addr) (c2 : Nat) (p3 : Option Addr) (c3 : Nat) (l : List Ent) (d : Nat → Int) (r s : Int) (c : Cm) (w : World) (h : DocAt w B gd p1 c1 p2 c2 p3 c3 l d) (hgood : GoodE l) (hlen : l.length ≤ 1000) (hca : c.a.size ≤ 1000000) :
    Calls Try.prog 20 #[.pointer (some ⟨gd, 0, none⟩), .agg #[.int .i64 r, .int .i64 s], .agg #[.int .i64 c.k, .int .i64 c.c, .int .i64 c.s, .string c.a, .string c.b, .string c.o, .string c.v]] w fun e w' =>
      e = .returned (.agg (attL (attrQ l r s c) (attrD l d r s c)).toArray) ∧ Below w.heap.size w w' := by
  have HD := Lib.hid h; clear h
  have HG := Lib.hid hgood; clear hgood
  go_enter Try.func20, Try.ntmps20
  go_upto_region 2 with (fail)
  go_name_world W hW
  have hi : Holds W w.heap.size 26 [.int .i64 r, .int .i64 s] := by rw [← hW]; exact holds_past (holds_past (holds_past (holds_alloc w _ _) _) _) _
  have hc : Holds W (w.heap.size + 1) 29 [.int .i64 c.k, .int .i64 c.c, .int .i64 c.s, .string c.a, .string c.b, .string c.o, .string c.v] := by
    rw [← hW]
    have := holds_past (holds_past (holds_alloc (w.alloc (.cells #[.int .i64 r, .int .i64 s] 26)) 29 [.int .i64 c.k, .int .i64 c.c, .int .i64 c.s, .string c.a, .string c.b, .string c.o, .string c.v]) (.cells #[.int .i64 0, .int .i64 0, .int .i64 0, .int .i64 0, .int .i64 0, .int .i64 0, .int .i64 0, .int .i64 0] 34)) (.cells #[.int .i64 0, .int .i64 0, .int .i64 0, .int .i64 0, .int .i64 0, .int .i64 0, .int .i64 0, .int .i64 0] 34)
    rw [World.size_alloc] at this
    exact this
  have hr : Holds W (w.heap.size + 1 + 1) 34 (attL 0 fun _ => 0) := by
    rw [← hW]
    have := holds_past (holds_alloc ((w.alloc (.cells #[.int .i64 r, .int .i64 s] 26)).alloc (.cells #[.int .i64 c.k, .int .i64 c.c, .int .i64 c.s, .string c.a, .string c.b, .string c.o, .string c.v] 29)) 34 (attL 0 fun _ => 0)) (.cells #[.int .i64 0, .int .i64 0, .int .i64 0, .int .i64 0, .int .i64 0, .int .i64 0, .int .i64 0, .int .i64 0] 34)
    rw [World.size_alloc, World.size_alloc] at this
    exact this
  have ha : Holds W (w.heap.size + 1 + 1 + 1) 34 (attL 0 fun _ => 0) := by
    rw [← hW]
    have := holds_alloc (((w.alloc (.cells #[.int .i64 r, .int .i64 s] 26)).alloc (.cells #[.int .i64 c.k, .int .i64 c.c, .int .i64 c.s, .string c.a, .string c.b, .string c.o, .string c.v] 29)).alloc (.cells #[.int .i64 0, .int .i64 0, .int .i64 0, .int .i64 0, .int .i64 0, .int .i64 0, .int .i64 0, .int .i64 0] 34)) 34 (attL 0 fun _ => 0)
    rw [World.size_alloc, World.size_alloc, World.size_alloc] at this
    exact this
  have HB : Below w.heap.size w W := by rw [← hW]; go_grown
  clear hW
  have HA := Lib.hid (show Da w W r s c w.heap.size (w.heap.size + 1) (w.heap.size + 1 + 1) (w.heap.size + 1 + 1 + 1) (seqOf (l.take 0) (takes r s c)) (fun t => depOf (l.take 0) (takes r s c) t) from
    ⟨HB, hi, hc, hr, ha, ⟨by omega, by omega⟩, ⟨by omega, by omega, by omega⟩⟩)
  clear hi hc hr ha HB
  generalize w.heap.size + 1 + 1 + 1 = ga at HA ⊢
  generalize w.heap.size + 1 + 1 = gr at HA ⊢
  generalize w.heap.size + 1 = gc at HA ⊢
  generalize hgi : w.heap.size = gi at HA ⊢
  rw [← hgi]
  rw [hgi]
  clear hgi
  go_wp2_with fail
  go_loopw [8] (fun vk wr => ∃ j : Nat, j ≤ l.length ∧ vk = .int .i64 j ∧ Da w wr r s c gi gc gr ga (seqOf (l.take j) (takes r s c)) (fun t => depOf (l.take j) (takes r s c) t)) (fun vk _ => l.length - (intOf vk).toNat)
  case atStart => exact ⟨0, by omega, rfl, HA.out⟩
  case round =>
    clear HA
    obtain ⟨j, hj, rfl, hre⟩ := hrel
    have HA := Lib.hid hre; clear hre
    have HDD := Lib.hid (HD.out.below HA.out.bel)
    have g0 := HDD.out.box.cell 0
    simp only [List.getElem?_cons_zero] at g0
    by_cases hjn : j < l.length
    · have HR1 := Lib.hid (own_isrows HDD.out.o1 (fun _ => rfl) (by unfold maxLen; omega))
      obtain ⟨pa, poff, hp, hplt⟩ := HR1.out.spot (by omega)
      subst hp
      have HR2 := Lib.hid (own_isrows HDD.out.o2 (fun _ => rfl) (by unfold maxLen; omega))
      obtain ⟨pb, pboff, hp, hplt2⟩ := HR2.out.spot (by omega)
      subst hp
      have HR3 := Lib.hid (own_isrows HDD.out.o3 (fun _ => rfl) (by unfold maxLen; omega))
      obtain ⟨pq, pqoff, hp, hplt3⟩ := HR3.out.spot (by omega)
      subst hp
      have hm1 : l.length ≤ c1 ∧ c1 ≤ maxLen := by
        obtain ⟨p', c', hv, h1, h2⟩ := own_shape HDD.out.o1
        injection hv with _ _ h3
        rw [h3]; exact ⟨h1, h2⟩
      have hm2 : l.length ≤ c2 ∧ c2 ≤ maxLen := by
        obtain ⟨p', c', hv, h1, h2⟩ := own_shape HDD.out.o2
        injection hv with _ _ h3
        rw [h3]; exact ⟨h1, h2⟩
      have hm3 : l.length ≤ c3 ∧ c3 ≤ maxLen := by
        obtain ⟨p', c', hv, h1, h2⟩ := own_shape HDD.out.o3
        injection hv with _ _ h3
        rw [h3]; exact ⟨h1, h2⟩
      unfold maxLen at hm1 hm2 hm3
      obtain ⟨hm11, hm12⟩ := hm1
      obtain ⟨hm21, hm22⟩ := hm2
      obtain ⟨hm31, hm32⟩ := hm3
      have hgd := HG.out _ (entAt_mem l hjn)
      have HGE := Lib.hid hgd
      obtain ⟨k, hkr⟩ : ∃ k : Nat, (entAt l j).r = k := ⟨(entAt l j).r.toNat, by have := hgd.1; omega⟩
      have hk7 : k < 7 := by have := hgd.1; omega
      have hKR := Lib.hid hkr
      have hCl := fun W => dclash_any (entAt l j).c c W (by have := hgd.2.2.2; omega) hca
      have HC := Lib.hid hCl; clear hCl hgd
      have hTK := takes_doc r s c (entAt l j)
      rw [hkr] at hTK
      have HTK := Lib.hid hTK; clear hTK
      have j0 := fun d os => HR1.out.grown d os hjn 0 (by omega)
      have j1 := fun d os => HR1.out.grown d os hjn 1 (by omega)
      have k0 := fun d os => HR2.out.grown d os hjn 0 (by omega)
      have k1 := fun d os => HR2.out.grown d os hjn 1 (by omega)
      have k2 := fun d os => HR2.out.grown d os hjn 2 (by omega)
      have k3 := fun d os => HR2.out.grown d os hjn 3 (by omega)
      have k4 := fun d os => HR2.out.grown d os hjn 4 (by omega)
      have k5 := fun d os => HR2.out.grown d os hjn 5 (by omega)
      have k6 := fun d os => HR2.out.grown d os hjn 6 (by omega)
      have i0 := fun d os => HA.out.hi.grown d os 0
      have i1 := fun d os => HA.out.hi.grown d os 1
      have x0 := fun d os => HA.out.hc.grown d os 0
      have x1 := fun d os => HA.out.hc.grown d os 1
      have x2 := fun d os => HA.out.hc.grown d os 2
      have x3 := fun d os => HA.out.hc.grown d os 3
      have x4 := fun d os => HA.out.hc.grown d os 4
      have x5 := fun d os => HA.out.hc.grown d os 5
      have x6 := fun d os => HA.out.hc.grown d os 6
      have gg0 := fun d os => HDD.out.box.grown d os 0
      have gg1 := fun d os => HDD.out.box.grown d os 1
      simp only [VI, VC, Cm.cells, List.getElem?_cons_zero, List.getElem?_cons_succ, Nat.add_zero, hkr] at j0 j1 k0 k1 k2 k3 k4 k5 k6 i0 i1 x0 x1 x2 x3 x4 x5 x6 gg0 gg1
      clear hkr
      have heq := eql_inst' k (entAt l j).s r s
      obtain ⟨M, hM⟩ : ∃ M, M = ((k : Int) == r && (entAt l j).s == s) := ⟨_, rfl⟩
      rw [← hM] at heq HTK
      have HMM := Lib.hid hM; clear hM
      have hes : 1 ≤ (entAt l j).s ∧ (entAt l j).s ≤ 1073741824 := HGE.out.2.1
      have HES := Lib.hid hes; clear hes
      generalize hcl : rclashC (entAt l j).c c = cl at HC HTK
      clear hcl
      generalize hesj : (entAt l j).s = es at j1 heq HTK HMM HES
      have HESJ := Lib.hid hesj; clear hesj
      generalize hecj : (entAt l j).c = ec at k0 k1 k2 k3 k4 k5 k6 HC
      clear hecj
      go_upto_region 5 with (fail)
      have HT5 : M = true ∨ (M = false ∧ cl = false) ∨ (M = false ∧ cl = true) := by cases M <;> cases cl <;> simp
      rcases HT5 with rfl | ⟨rfl, rfl⟩ | ⟨rfl, rfl⟩
      · have HF := Lib.hid (show takes r s c (entAt l j) = false by rw [HTK.out]; rfl)
        refine wp_region_quiet_below (by kernel_rfl) (by kernel_rfl) ?_
        repeat go_big_quiet_step (fail)
        refine wpQuiet_nil ?_
        intro w5 hw'
        have HA5 := Lib.hid (HA.out.below (below_of_regrown hw'))
        clear hw' j0 j1 k0 k1 k2 k3 k4 k5 k6 i0 i1 x0 x1 x2 x3 x4 x5 x6 gg0 gg1 g0 heq
        go_wp2_with fail
        go_roundw
        case rel =>
          refine ⟨j + 1, by omega, by go_num, ?_⟩
          rw [seqTo_next l r s c hjn _ HF.out, depTo_same l r s c hjn HF.out]
          exact HA5.out
        case measure => simp [intOf]; omega
      · have HF := Lib.hid (show takes r s c (entAt l j) = false by rw [HTK.out]; rfl)
        refine wp_region_quiet_below (by kernel_rfl) (by kernel_rfl) ?_
        repeat go_big_quiet_step (first
          | (go_at_call 29; with_reducible exact calls_regrown fun W _ => HC.out W))
        refine wpQuiet_nil ?_
        intro w5 hw'
        have HA5 := Lib.hid (HA.out.below (below_of_regrown hw'))
        clear hw' j0 j1 k0 k1 k2 k3 k4 k5 k6 i0 i1 x0 x1 x2 x3 x4 x5 x6 gg0 gg1 g0 heq
        go_wp2_with fail
        go_roundw
        case rel =>
          refine ⟨j + 1, by omega, by go_num, ?_⟩
          rw [seqTo_next l r s c hjn _ HF.out, depTo_same l r s c hjn HF.out]
          exact HA5.out
        case measure => simp [intOf]; omega
      refine wp_region_quiet_below (by kernel_rfl) (by kernel_rfl) ?_
      repeat go_big_quiet_step (first
        | (go_at_call 29; with_reducible exact calls_regrown fun W _ => HC.out W))
      refine wpQuiet_nil ?_
      intro w5 hw'
      have hb5 := below_of_regrown hw'
      have HA5 := Lib.hid (HA.out.below hb5)
      have HDD := Lib.hid (HDD.out.below hb5)
      have HR1 := Lib.hid (HR1.out.below hb5)
      have HR2 := Lib.hid (HR2.out.below hb5)
      have HR3 := Lib.hid (HR3.out.below hb5)
      clear hw' hb5 j0 j1 k0 k1 k2 k3 k4 k5 k6 i0 i1 x0 x1 x2 x3 x4 x5 x6 gg0 gg1 g0 heq HA
      go_upto_region 6 with (fail)
      have j0 := fun d os => HR1.out.grown d os hjn 0 (by omega)
      have j1 := fun d os => HR1.out.grown d os hjn 1 (by omega)
      have i0 := fun d os => HA5.out.hi.grown d os 0
      have i1 := fun d os => HA5.out.hi.grown d os 1
      have gg0 := fun d os => HDD.out.box.grown d os 0
      simp only [VI, List.getElem?_cons_zero, List.getElem?_cons_succ, Nat.add_zero, hKR.out, HESJ.out] at j0 j1 i0 i1 gg0
      have hA : (((k : Int) == r) = true ∧ s < es) ∨ (((k : Int) == r) = true ∧ ¬ s < es) ∨ ((k : Int) == r) = false := by
        by_cases h1 : ((k : Int) == r) = true
        · by_cases h2 : s < es
          · exact .inl ⟨h1, h2⟩
          · exact .inr (.inl ⟨h1, h2⟩)
        · exact .inr (.inr (by simpa using h1))
      rcases hA with ⟨h1, h2⟩ | h1
      · have HF := Lib.hid (show takes r s c (entAt l j) = false by rw [HTK.out, h1]; simp [h2])
        refine wp_region_quiet_below (by kernel_rfl) (by kernel_rfl) ?_
        repeat go_big_quiet_step (fail)
        refine wpQuiet_nil ?_
        intro w6 hw'
        have HA6 := Lib.hid (HA5.out.below (below_of_regrown hw'))
        clear hw' j0 j1 i0 i1 gg0 h1 h2
        go_wp2_with fail
        go_roundw
        case rel =>
          refine ⟨j + 1, by omega, by go_num, ?_⟩
          rw [seqTo_next l r s c hjn _ HF.out, depTo_same l r s c hjn HF.out]
          exact HA6.out
        case measure => simp [intOf]; omega
      have HF : takes r s c (entAt l j) = true := by
        rw [HTK.out]
        rcases h1 with ⟨h1, h2⟩ | h1
        · rw [h1]; simp [h2]
        · rw [h1]; simp
      have HF := Lib.hid HF
      rcases h1 with ⟨h1, h2⟩ | h1
      all_goals
        refine wp_region_quiet_below (by kernel_rfl) (by kernel_rfl) ?_
        repeat go_big_quiet_step (fail)
        refine wpQuiet_nil ?_
        intro w6 hw'
        have hb6 := below_of_regrown hw'
        have HA6 := Lib.hid (HA5.out.below hb6)
        have HDD := Lib.hid (HDD.out.below hb6)
        have HR1 := Lib.hid (HR1.out.below hb6)
        have HR3 := Lib.hid (HR3.out.below hb6)
        clear hw' hb6 j0 j1 i0 i1 gg0 h1 HA5 HR2
        have g0 := HDD.out.box.cell 0
        have j0 := HR1.out.at (Below.refl _ _) hjn 0 (by omega)
        have j1 := HR1.out.at (Below.refl _ _) hjn 1 (by omega)
        simp only [VI, List.getElem?_cons_zero, List.getElem?_cons_succ, Nat.add_zero, hKR.out, HESJ.out] at g0 j0 j1
        have ak := HA6.out.ha.cell (1 + k)
        rw [show attL (seqOf (l.take j) (takes r s c)) (fun t : Nat => depOf (l.take j) (takes r s c) t) = Value.int .i64 (seqOf (l.take j) (takes r s c)) :: cutL (fun t : Nat => depOf (l.take j) (takes r s c) t) from rfl, cut_get _ _ _ hk7] at ak
        have af := HA6.out.ha.free (1 + k)
        have hS := HA6.out.ha.set (1 + k) (.int .i64 (max (depOf (l.take j) (takes r s c) k) es))
        rw [att_set _ _ _ hk7] at hS
        have HS := Lib.hid hS
        have HT8 := Lib.hid ((Touch.refl ga w6).setCell (1 + k) (.int .i64 (max (depOf (l.take j) (takes r s c) k) es)))
        clear hS
        go_upto_region 8 with (fail)
        go_region
        go_upto_region 9 with (fail)
        go_name_world W9 hW9
        have hT9 : Touch ga w6 W9 := by rw [← hW9]; exact HT8.out.drew
        have hA9 : Holds W9 ga 34 (attL (seqOf (l.take j) (takes r s c)) fun t => if t = k then max (depOf (l.take j) (takes r s c) k) es else depOf (l.take j) (takes r s c) t) := by rw [← hW9]; exact HS.out
        clear hW9 g0 j0 j1 ak af HS HT8
        have HA9 := Lib.hid (HA6.out.wrote hT9 hA9)
        have HDD := Lib.hid (HD.out.below HA9.out.bel)
        clear hT9 hA9
        have g0 := HDD.out.box.cell 2
        have HR3 := Lib.hid (own_isrows HDD.out.o3 (fun _ => rfl) (by unfold maxLen; omega))
        have j0 := HR3.out.at (Below.refl _ _) hjn 0 (by omega)
        have a0 := HA9.out.ha.cell 0
        have af := fun i => HA9.out.ha.free i
        have hqw : IntKind.i64.wrap ((entAt l j).q + 1) = (entAt l j).q + 1 := IntWalk.i64_in _ (by have := HGE.out.2.2.1; omega)
        simp only [VQ, attL, List.getElem?_cons_zero, List.getElem?_cons_succ, Nat.add_zero, Nat.mul_one] at g0 j0 a0
        have HS := Lib.hid (HA9.out.ha.set 0 (.int .i64 (max (seqOf (l.take j) (takes r s c)) ((entAt l j).q + 1))))
        have HT8 := Lib.hid ((Touch.refl ga W9).setCell 0 (.int .i64 (max (seqOf (l.take j) (takes r s c)) ((entAt l j).q + 1))))
        go_region
        go_wp2_with fail
        go_roundw
        case rel =>
          refine ⟨j + 1, by omega, by go_num, HA9.out.wrote HT8.out.drew ?_⟩
          rw [seqTo_next l r s c hjn _ HF.out, depTo_next l r s c hjn HF.out hKR.out, HESJ.out]
          exact HS.out
        case measure => simp [intOf]; omega
    · have hjn2 : j = l.length := by omega
      subst hjn2
      clear hj hjn
      rw [List.take_length] at HA
      have HA := Lib.hid (show Da w wr r s c gi gc gr ga (attrQ l r s c) (fun t : Nat => depOf l (takes r s c) t) from HA.out)
      have HAM : rightI r s = false → (fun t : Nat => depOf l (takes r s c) t) = attM l r s c := fun hri => by
        funext t
        unfold attM
        rw [hri]
        simp
      have HAM := Lib.hid HAM
      have HDR := Lib.hid (dright_inst r s)
      clear HDD
      go_upto_region 10 with (fail)
      clear g0
      have i0 := HA.out.hi.cell 0
      have i1 := HA.out.hi.cell 1
      simp only [List.getElem?_cons_zero, List.getElem?_cons_succ] at i0 i1
      go_wp2_with fail
      refine (HDR.out _).mono ?_
      rintro e w6 ⟨rfl, hb6⟩
      have HA := Lib.hid (HA.out.below hb6)
      clear hb6 i0 i1
      go_upto_if 102 with (fail)
      go_cut [] from 102 to 116 (fun wx => Da w wx r s c gi gc gr ga (attrQ l r s c) (attM l r s c))
      case first =>
        by_cases hri : rightI r s = true
        · have hs2 : 0 ≤ r ∧ r < 7 ∧ 1 ≤ s ∧ s ≤ 1073741824 := by
            rcases rightI_cases r s with ⟨_, e⟩ | ⟨_, _, e⟩ | ⟨_, _, _, e⟩ | ⟨_, _, _, _, e⟩ | ⟨h1, h2, h3, h4, _⟩
            · rw [hri] at e; cases e
            · rw [hri] at e; cases e
            · rw [hri] at e; cases e
            · rw [hri] at e; cases e
            · exact ⟨h1, h2, h3, h4⟩
          obtain ⟨h1, h2, h3, h4⟩ := hs2
          obtain ⟨k, rfl⟩ : ∃ k : Nat, r = k := ⟨r.toNat, by omega⟩
          have hk7 : k < 7 := by omega
          have hsw : IntKind.i64.wrap (s - 1) = s - 1 := IntWalk.i64_in _ (by omega)
          have hmn : min s 1073741824 = s := by omega
          have i0 := HA.out.hi.cell 0
          have i1 := HA.out.hi.cell 1
          have ak := HA.out.ha.cell (1 + k)
          rw [show attL (attrQ l k s c) (fun t : Nat => depOf l (takes k s c) t) = Value.int .i64 (attrQ l k s c) :: cutL (fun t : Nat => depOf l (takes k s c) t) from rfl, cut_get _ _ _ hk7] at ak
          have af := HA.out.ha.free (1 + k)
          have hS := HA.out.ha.set (1 + k) (.int .i64 (max (depOf l (takes k s c) k) (s - 1)))
          rw [att_set _ _ _ hk7] at hS
          have hfn : (fun t : Nat => if t = k then max (depOf l (takes k s c) k) (s - 1) else depOf l (takes k s c) t) = attM l k s c := by
            funext t
            unfold attM
            rw [hri]
            by_cases ht : t = k
            · subst ht; simp
            · rw [if_neg ht, if_neg (by omega)]
          rw [hfn] at hS
          have HS := Lib.hid hS
          have HT8 := Lib.hid ((Touch.refl ga w6).setCell (1 + k) (.int .i64 (max (depOf l (takes k s c) k) (s - 1))))
          simp only [List.getElem?_cons_zero, List.getElem?_cons_succ] at i0 i1
          clear hS hfn
          rw [hri]
          go_upto_region 11 with (fail)
          go_region
          go_wp2_with fail
          go_meet
          exact HA.out.wrote HT8.out.drew HS.out
        · have hri : rightI r s = false := by revert hri; cases rightI r s <;> simp
          have HAM := Lib.hid (HAM.out hri)
          have HA2 := Lib.hid (show Da w w6 r s c gi gc gr ga (attrQ l r s c) (attM l r s c) by rw [← HAM.out]; exact HA.out)
          clear HAM HA
          rw [hri]
          go_wp2_with fail
          go_meet
          exact HA2.out
      case rest =>
        clear HA HAM HDR
        have HE := Lib.hid hcut; clear hcut
        have hst0 : (fun t : Nat => if t < 0 then attrD l d r s c t else attM l r s c t) = attM l r s c := by
          funext t
          rw [if_neg (Nat.not_lt_zero t)]
        have HE := Lib.hid (show Da w wc r s c gi gc gr ga (attrQ l r s c) (fun t => if t < 0 then attrD l d r s c t else attM l r s c t) by rw [hst0]; exact HE.out)
        clear hst0
        go_wp2_with fail
        go_loopw [10] (fun vk wr => ∃ j : Nat, j ≤ 7 ∧ vk = .int .i64 j ∧ Da w wr r s c gi gc gr ga (attrQ l r s c) (fun t => if t < j then attrD l d r s c t else attM l r s c t)) (fun vk _ => 7 - (intOf vk).toNat)
        case atStart => exact ⟨0, by omega, rfl, HE.out⟩
        case round =>
          clear HE
          obtain ⟨j, hj, rfl, hre⟩ := hrel
          have HE := Lib.hid hre; clear hre
          have HDD := Lib.hid (HD.out.below HE.out.bel)
          by_cases hj7 : j < 7
          · have hstep : ∀ v, v = attrD l d r s c j → attL (attrQ l r s c) (fun t => if t = j then v else if t < j then attrD l d r s c t else attM l r s c t) = attL (attrQ l r s c) (fun t => if t < j + 1 then attrD l d r s c t else attM l r s c t) := fun v hv => by
              congr 1
              funext t
              by_cases h1 : t = j
              · rw [if_pos h1, if_pos (by omega), h1, hv]
              · rw [if_neg h1]
                by_cases h2 : t < j
                · rw [if_pos h2, if_pos (by omega)]
                · rw [if_neg h2, if_neg (by omega)]
            have HST := Lib.hid hstep; clear hstep
            have i0 := HE.out.hi.cell 0
            simp only [List.getElem?_cons_zero] at i0
            by_cases hjr : ((j : Int) == r) = true
            · have HAD := Lib.hid (show attM l r s c j = attrD l d r s c j by
                have : (j : Int) = r := by simpa using hjr
                rw [attrD, attM, if_pos this, if_pos this])
              go_wp2_with fail
              go_roundw
              case rel =>
                refine ⟨j + 1, by omega, by go_num, ?_⟩
                have : (fun t => if t < j then attrD l d r s c t else attM l r s c t) = fun t => if t < j + 1 then attrD l d r s c t else attM l r s c t := by
                  funext t
                  by_cases h1 : t = j
                  · rw [h1, if_neg (Nat.lt_irrefl j), if_pos (Nat.lt_succ_self j), HAD.out]
                  · by_cases h2 : t < j
                    · rw [if_pos h2, if_pos (by omega)]
                    · rw [if_neg h2, if_neg (by omega)]
                rw [← this]
                exact HE.out
              case measure => simp [intOf]; omega
            · have hjr : ((j : Int) == r) = false := by simpa using hjr
              have HAD := Lib.hid (show max (attM l r s c j) (d j) = attrD l d r s c j by
                have : ¬ (j : Int) = r := by simpa using hjr
                rw [attrD, attM, if_neg this, if_neg this])
              have aj := HE.out.ha.cell (1 + j)
              rw [show attL (attrQ l r s c) (fun t => if t < j then attrD l d r s c t else attM l r s c t) = Value.int .i64 (attrQ l r s c) :: cutL (fun t => if t < j then attrD l d r s c t else attM l r s c t) from rfl, cut_get _ _ _ hj7, if_neg (Nat.lt_irrefl j)] at aj
              have af := HE.out.ha.free (1 + j)
              have cj := HDD.out.box.cell (3 + j)
              rw [doc_cut' _ _ _ _ _ hj7] at cj
              have hS := HE.out.ha.set (1 + j) (.int .i64 (max (attM l r s c j) (d j)))
              rw [att_set _ _ _ hj7, HST.out _ HAD.out] at hS
              have HS := Lib.hid hS
              have HT8 := Lib.hid ((Touch.refl ga wr).setCell (1 + j) (.int .i64 (max (attM l r s c j) (d j))))
              clear hS
              go_upto_region 16 with (fail)
              clear hjr i0
              go_region
              go_wp2_with fail
              go_roundw
              case rel => exact ⟨j + 1, by omega, by go_num, HE.out.wrote HT8.out.drew HS.out⟩
              case measure => simp [intOf]; omega
          · have hj77 : j = 7 := by omega
            subst hj77
            have hfn : attL (attrQ l r s c) (fun t => if t < 7 then attrD l d r s c t else attM l r s c t) = attL (attrQ l r s c) (attrD l d r s c) := by simp [attL, cutL]
            have hA := HE.out.ha
            rw [hfn] at hA
            have a0 := hA.cell 0
            have a1 := hA.cell 1
            have a2 := hA.cell 2
            have a3 := hA.cell 3
            have a4 := hA.cell 4
            have a5 := hA.cell 5
            have a6 := hA.cell 6
            have a7 := hA.cell 7
            simp only [attL, cutL, List.getElem?_cons_zero, List.getElem?_cons_succ] at a0 a1 a2 a3 a4 a5 a6 a7
            have rf := fun i => HE.out.hr.free i
            have r0 := HE.out.hr.cell 0
            have r1 := HE.out.hr.cell 1
            have r2 := HE.out.hr.cell 2
            have r3 := HE.out.hr.cell 3
            have r4 := HE.out.hr.cell 4
            have r5 := HE.out.hr.cell 5
            have r6 := HE.out.hr.cell 6
            have r7 := HE.out.hr.cell 7
            simp only [attL, cutL, List.getElem?_cons_zero, List.getElem?_cons_succ] at r0 r1 r2 r3 r4 r5 r6 r7
            clear hA hfn hj hj7 HDD
            have hT := (((((((((Touch.refl gr wr).setCell 0 (.int .i64 (attrQ l r s c))).setCell 1 (.int .i64 (attrD l d r s c 0))).setCell 2 (.int .i64 (attrD l d r s c 1))).setCell 3 (.int .i64 (attrD l d r s c 2))).setCell 4 (.int .i64 (attrD l d r s c 3))).setCell 5 (.int .i64 (attrD l d r s c 4))).setCell 6 (.int .i64 (attrD l d r s c 5))).setCell 7 (.int .i64 (attrD l d r s c 6)))
            have hS := ((((((((HE.out.hr.set 0 (.int .i64 (attrQ l r s c))).set 1 (.int .i64 (attrD l d r s c 0))).set 2 (.int .i64 (attrD l d r s c 1))).set 3 (.int .i64 (attrD l d r s c 2))).set 4 (.int .i64 (attrD l d r s c 3))).set 5 (.int .i64 (attrD l d r s c 4))).set 6 (.int .i64 (attrD l d r s c 5))).set 7 (.int .i64 (attrD l d r s c 6)))
            simp only [attL, cutL, List.set_cons_zero, List.set_cons_succ] at hS
            have hB := HE.out.bel.trans (hT.below HE.out.lo.2 HE.out.bel.size)
            have HS := Lib.hid hS; have HB := Lib.hid hB; clear hS hB hT
            go_wp2_with fail
            have hS := HS.out
            have y0 := hS.cell 0
            have y1 := hS.cell 1
            have y2 := hS.cell 2
            have y3 := hS.cell 3
            have y4 := hS.cell 4
            have y5 := hS.cell 5
            have y6 := hS.cell 6
            have y7 := hS.cell 7
            simp only [List.getElem?_cons_zero, List.getElem?_cons_succ] at y0 y1 y2 y3 y4 y5 y6 y7
            exact bodyPost_ret (v := .agg (attL (attrQ l r s c) (attrD l d r s c)).toArray) (by simp [results, Try.results20, go_sem, y0, y1, y2, y3, y4, y5, y6, y7, attL, cutL]) rfl ⟨rfl, HB.out⟩
end Go.Proofs.Ytleagecocffihaa
