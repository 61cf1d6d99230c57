/-
  The index behind a pointer: what it is (IxAt), New, Note, Len, Cut.
-/
import Derived.Test.YtleagecocffihaaIfMapP
import Derived.Test.YtleagecocffihaaIfRightW
import Derived.Test.YtleagecocffihaaIfCmdW
import Derived.Test.YtleagecocffihaaLast
namespace Go.Proofs.Ytleagecocffihaa
open Go.RowKit Go.Maps
set_option linter.unusedVariables false
set_option linter.unusedSimpArgs false

def cutL (d : Nat → Int) : List Value := [.int .i64 (d 0), .int .i64 (d 1), .int .i64 (d 2), .int .i64 (d 3), .int .i64 (d 4), .int .i64 (d 5), .int .i64 (d 6)]
/-- Block g is an index: its map lies in block b, has at most n entries, and l says which; d: what is cut. -/
structure IxAt (w : World) (g b n : Nat) (d : Nat → Int) (l : List Ent) : Prop where
  ix : Holds w g 62 (.map (some b) :: cutL d)
  map : ∃ D, w.ownsMap Try.prog 26 readN b n D ∧ Lists D l
  good : GoodE l
theorem IxAt.wf {w : World} {g b n : Nat} {d : Nat → Int} {l : List Ent} (h : IxAt w g b n d l) : WfE l := h.good.wf
theorem IxAt.ne {w : World} {g b n : Nat} {d : Nat → Int} {l : List Ent} (h : IxAt w g b n d l) : g ≠ b := by
  obtain ⟨D, ⟨es, clock, hb, _⟩, _⟩ := h.map
  intro e
  have := h.ix
  unfold Holds at this
  rw [e, hb] at this
  cases this
theorem IxAt.keep {w w' : World} {g b n : Nat} {d : Nat → Int} {l : List Ent} (h : IxAt w g b n d l) (hg : w'.heap[g]? = w.heap[g]?) (hb : w'.heap[b]? = w.heap[b]?) : IxAt w' g b n d l := by
  obtain ⟨D, ⟨es, clock, hm, r⟩, hl⟩ := h.map
  exact ⟨by have := h.ix; unfold Holds at *; rw [hg]; exact this, ⟨D, ⟨es, clock, hb.trans hm, r⟩, hl⟩, h.good⟩
theorem IxAt.lt {w : World} {g b n : Nat} {d : Nat → Int} {l : List Ent} (h : IxAt w g b n d l) : g < w.heap.size ∧ b < w.heap.size := by
  obtain ⟨D, hm, _⟩ := h.map
  exact ⟨h.ix.lt, hm.lt⟩
theorem IxAt.mono {w : World} {g b n : Nat} {d : Nat → Int} {l : List Ent} (h : IxAt w g b n d l) : IxAt w g b (n + 1) d l := by
  obtain ⟨D, hm, hl⟩ := h.map
  exact ⟨h.ix, ⟨D, hm.mono (Nat.le_succ n), hl⟩, h.good⟩
theorem IxAt.below {w w' : World} {g b n : Nat} {d : Nat → Int} {l : List Ent} (h : IxAt w g b n d l) (hb : Below w.heap.size w w') : IxAt w' g b n d l :=
  h.keep (hb.block g h.lt.1) (hb.block b h.lt.2)
theorem IxAt.touch {w w' : World} {g b n k : Nat} {d : Nat → Int} {l : List Ent} (h : IxAt w g b n d l) (ht : Touch k w w') (h1 : g ≠ k) (h2 : b ≠ k) : IxAt w' g b n d l :=
  h.keep (ht.block g h.lt.1 h1) (ht.block b h.lt.2 h2)
theorem touch_of_grownBy {w w' : World} {b : Nat} (h : w.grownBy w' (some b)) : Touch b w w' := ⟨h.os, h.tape, h.output, h.size, fun k hk hne => h.block k hk (fun e => hne (by cases e; rfl))⟩

set_option maxRecDepth 4000 in
set_option maxHeartbeats 2000000 in
theorem new_any (w : World) : Calls Try.prog 8 #[] w fun e w' => e = .returned (.pointer (some ⟨w.heap.size + 1, 0, none⟩)) ∧ IxAt w' (w.heap.size + 1) w.heap.size 0 (fun _ => 0) [] ∧ Below w.heap.size w w' := by
  have hmm := @run_makeMap Try.prog
  go_enter Try.func8, Try.ntmps8
  go_wp2_with fail
  go_ret
  have hB : Below w.heap.size w (w.alloc (.map #[] 0)) := (Below.refl _ _).alloc (Nat.le_refl _) _
  refine ⟨rfl, ⟨?_, ⟨.map [], ?_, Lists.empty⟩, fun e he => by cases he⟩, hB.alloc hB.size _⟩
  · have := holds_alloc (w.alloc (.map #[] 0)) 62 (.map (some w.heap.size) :: cutL fun _ => 0)
    rw [World.size_alloc] at this
    exact this
  · exact (World.ownsMap_made w Try.prog 26 readN).alloc _

theorem cut_get (m : Value) (d : Nat → Int) (k : Nat) (hk : k < 7) : (m :: cutL d)[1 + k]? = some (.int .i64 (d k)) := by
  have : k = 0 ∨ k = 1 ∨ k = 2 ∨ k = 3 ∨ k = 4 ∨ k = 5 ∨ k = 6 := by omega
  rcases this with rfl | rfl | rfl | rfl | rfl | rfl | rfl <;> rfl
theorem wp_region_last_d {P : Program} {id : Nat} {Q : Exit → Act → World → Prop} {a : Act} {w : World} (ops : List Oper) (hne : ops ≠ []) (hm : P.follows .mixedOrders = true)
    (hB : Region.lexB .any (ops.dropLast ++ [hushLast (ops.getLast hne)]).toArray = true) (hl : lastB ops.dropLast (ops.getLast hne) = true)
    (h : wpQuiet P (ops.dropLast ++ [hushLast (ops.getLast hne)]).toArray (fun w' => ∃ p : Regrown, w' = Sort.grow (redrawn w p.d) p.os) (fun a' => ∀ w', (∃ p : Regrown, w' = Sort.grow (redrawn w p.d) p.os) → (ops.getLast hne).wp P a' w' (fun a2 w2 => Q .normal a2 w2) Q) ops.dropLast a) :
    (Code.region id ops.toArray true).wp P Q a w := by
  have := wp_region_last (id := id) (Q := Q) hm hB hl h
  have he : ops.dropLast ++ [ops.getLast hne] = ops := List.dropLast_concat_getLast hne
  rwa [he] at this
theorem oper_mapUpdate {H : Type} {P : Program} {w : World} {o : Oper} {a : Act} {K : Act → World → Prop} {Q : Exit → Act → World → Prop}
    (m x v : Operand) (t : TypeId) (hop : o.op = Op.mapUpdate t m x v)
    (k e : TypeId) (Kd : Keyed P k) (ht : P.underlying t = some (.map k e)) (R : Value → Option (DataW H × List MemPlace)) (b n : Nat) (D : DataW H)
    (hm : a.eval m = .map (some b)) (hown : w.ownsMap P k R b n D) (hn : n < maxLen) (key val : Value) (kl : Lit) (hx : a.eval x = key) (hv : a.eval v = val) (hkey : keyOf P k key = some kl)
    (d : DataW H) (ps : List MemPlace) (hval : R val = some (d, ps))
    (hK : ∀ w', w'.ownsMap P k R b (n + 1) (D.put kl d) → w.grownBy w' (some b) → K (a.put o.dst undef) w') : o.wp P a w K Q := by
  obtain ⟨w', hrun, r1, r2⟩ := hown.update Kd ht hn hkey hval
  unfold Oper.wp
  simp [execOp, hop, hm, hx, hv, hrun, Result.andThen]
  exact hK w' r1 r2

/-- Is it noted? -/
def noteB (d : Nat → Int) (r s : Int) (x : Cm) (q : Int) : Bool := rightI r s && (decide (d r.toNat < s) && (rightA x.k x.c x.s x.a x.b x.o x.v && (decide (0 ≤ q) && decide (q ≤ 1099511627776))))
set_option maxRecDepth 4000 in
set_option maxHeartbeats 4000000 in
theorem note_any (g b n : Nat) (d : Nat → Int) (l : List Ent) (r s : Int) (x : Cm) (q : Int) (w : World) (h : IxAt w g b n d l) (hn : n ≤ 1000) :
    Calls Try.prog 9 #[.pointer (some ⟨g, 0, none⟩), .agg #[.int .i64 r, .int .i64 s], .agg #[.int .i64 x.k, .int .i64 x.c, .int .i64 x.s, .string x.a, .string x.b, .string x.o, .string x.v], .int .i64 q] w fun e w' =>
      e = .returned (.bool (noteB d r s x q)) ∧ IxAt w' g b (n + 1) d (if noteB d r s x q then putE l ⟨r, s, x, q⟩ else l) ∧ Touch b w w' := by
  obtain ⟨B, hB0⟩ : ∃ B, B = noteB d r s x q := ⟨_, rfl⟩
  rw [← hB0]
  have K1 := Lib.hid (fun W => right_inst r s W)
  have K2 := Lib.hid (fun W => right_cmd x.k x.c x.s x.a x.b x.o x.v W)
  generalize hz : rightA x.k x.c x.s x.a x.b x.o x.v = z at K2
  have hlen : z = true → x.a.size ≤ 16 := by
    intro hzt
    rw [← hz] at hzt
    unfold rightA at hzt
    rw [Bool.or_eq_true] at hzt
    rcases hzt with hzt | hzt
    · simp only [zeroC, Bool.and_eq_true, decide_eq_true_eq] at hzt
      have := hzt.2.2.2.1
      have h2 : x.a.size = 0 := by
        rw [Go.ByteArray.toList_eq] at this
        have := congrArg List.length this
        simpa using this
      omega
    · simp only [Bool.and_eq_true, longB, Bool.not_eq_true', Bool.or_eq_false_iff, decide_eq_false_iff_not] at hzt
      have := hzt.2.2.1.1
      omega
  have HL := Lib.hid hlen; clear hlen
  have hcase : (rightI r s = false ∧ B = false) ∨ (rightI r s = true ∧ s ≤ d r.toNat ∧ B = false) ∨ (rightI r s = true ∧ ¬ s ≤ d r.toNat ∧ z = false ∧ B = false) ∨ (rightI r s = true ∧ ¬ s ≤ d r.toNat ∧ z = true ∧ q < 0 ∧ B = false) ∨
      (rightI r s = true ∧ ¬ s ≤ d r.toNat ∧ z = true ∧ ¬ q < 0 ∧ 1099511627776 < q ∧ B = false) ∨ (rightI r s = true ∧ ¬ s ≤ d r.toNat ∧ z = true ∧ ¬ q < 0 ∧ ¬ 1099511627776 < q ∧ B = true) := by
    rw [hB0, noteB, hz]
    cases rightI r s
    · simp
    by_cases h1 : s ≤ d r.toNat
    · rw [show decide (d r.toNat < s) = false from by simp; omega]
      simp [h1]
    · rw [show decide (d r.toNat < s) = true from by simp; omega]
      cases z
      · simp [h1]
      by_cases h2 : q < 0
      · exact .inr (.inr (.inr (.inl ⟨rfl, h1, rfl, h2, by simp; omega⟩)))
      by_cases h3 : 1099511627776 < q
      · exact .inr (.inr (.inr (.inr (.inl ⟨rfl, h1, rfl, h2, h3, by simp; omega⟩))))
      · exact .inr (.inr (.inr (.inr (.inr ⟨rfl, h1, rfl, h2, h3, by simp; omega⟩))))
  clear hB0 hz
  have HI := Lib.hid h; clear h
  go_enter Try.func9, Try.ntmps9
  go_upto_region 1 with (fail)
  go_name_world W hW
  have hX : Holds W w.heap.size 26 [.int .i64 r, .int .i64 s] := by rw [← hW]; exact holds_past (holds_alloc w _ _) _
  have hC : Holds W (w.heap.size + 1) 29 [.int .i64 x.k, .int .i64 x.c, .int .i64 x.s, .string x.a, .string x.b, .string x.o, .string x.v] := by
    rw [← hW]
    have := holds_alloc (w.alloc (.cells #[.int .i64 r, .int .i64 s] 26)) 29 [.int .i64 x.k, .int .i64 x.c, .int .i64 x.s, .string x.a, .string x.b, .string x.o, .string x.v]
    rw [World.size_alloc] at this
    exact this
  have HB := Lib.hid (show Below w.heap.size w W by rw [← hW]; go_grown)
  clear hW
  have HI := Lib.hid (HI.out.below HB.out)
  have HX := Lib.hid hX
  have HC := Lib.hid hC
  have i0 := fun d os => hX.grown d os 0
  have i1 := fun d os => hX.grown d os 1
  have x0 := fun d os => hC.grown d os 0
  have x1 := fun d os => hC.grown d os 1
  have x2 := fun d os => hC.grown d os 2
  have x3 := fun d os => hC.grown d os 3
  have x4 := fun d os => hC.grown d os 4
  have x5 := fun d os => hC.grown d os 5
  have x6 := fun d os => hC.grown d os 6
  simp only [List.getElem?_cons_zero, List.getElem?_cons_succ] at i0 i1 x0 x1 x2 x3 x4 x5 x6
  clear hX hC
  generalize w.heap.size + 1 = gc at HC x0 x1 x2 x3 x4 x5 x6 ⊢
  generalize hgi : w.heap.size = gi at HX i0 i1 ⊢
  clear hgi
  by_cases he1 : rightI r s = false
  · have hB : B = false := by
      rcases hcase with ⟨_, e⟩ | ⟨e1, _⟩ | ⟨e1, _⟩ | ⟨e1, _⟩ | ⟨e1, _⟩ | ⟨e1, _⟩
      · exact e
      all_goals rw [he1] at e1; cases e1
    clear hcase
    subst hB
    rw [he1] at K1
    refine wp_region_quiet_below (by kernel_rfl) (by kernel_rfl) ?_
    repeat go_big_quiet_step (first
      | (go_at_call 18; with_reducible exact calls_regrown fun W _ => K1.out W))
    refine wpQuiet_nil ?_
    intro w2 hw'
    have hb2 := below_of_regrown hw'
    have HI := Lib.hid (HI.out.below hb2)
    have HB := Lib.hid (below_next HB.out hb2)
    clear hw' hb2 i0 i1 x0 x1 x2 x3 x4 x5 x6
    go_wp2_with fail
    go_ret
    exact ⟨rfl, HI.out.mono, .of_below HB.out⟩
  have he1 : rightI r s = true := by revert he1; cases rightI r s <;> simp
  rw [he1] at K1 hcase
  simp only [Bool.true_eq_false, false_and, false_or, true_and] at hcase
  have hr7 : 0 ≤ r ∧ r < 7 ∧ 1 ≤ s ∧ s ≤ 1073741824 := by
    rcases rightI_cases r s with ⟨_, e⟩ | ⟨_, _, e⟩ | ⟨_, _, _, e⟩ | ⟨_, _, _, _, e⟩ | ⟨h1, h2, h3, h4, _⟩
    · rw [he1] at e; cases e
    · rw [he1] at e; cases e
    · rw [he1] at e; cases e
    · rw [he1] at e; cases e
    · exact ⟨h1, h2, h3, h4⟩
  clear he1
  obtain ⟨h1, h2, h3, h4⟩ := hr7
  obtain ⟨k, rfl⟩ : ∃ k : Nat, r = k := ⟨r.toNat, by omega⟩
  have hk7 : k < 7 := by omega
  rw [Int.toNat_natCast] at hcase
  have hcut := fun dd os => HI.out.ix.grown dd os (1 + k)
  rw [cut_get _ _ _ hk7] at hcut
  have hm0 := fun dd os => HI.out.ix.grown dd os 0
  simp only [List.getElem?_cons_zero] at hm0
  have hwf : (Lit.int .i64 (k : Int)).wf = true ∧ (Lit.int .i64 s).wf = true := ⟨WalkArith.wf_i64 (by omega), WalkArith.wf_i64 (by omega)⟩
  have HK := Lib.hid (key_inst k s hwf.1 hwf.2)
  have HWF := Lib.hid hwf; clear hwf
  generalize d k = dk at hcase hcut
  rcases hcase with ⟨e2, rfl⟩ | ⟨e2, rfl, rfl⟩ | ⟨e2, rfl, e3, rfl⟩ | ⟨e2, rfl, e3, e4, rfl⟩ | ⟨e2, rfl, e3, e4, rfl⟩
  all_goals
    refine wp_region_quiet_below (by kernel_rfl) (by kernel_rfl) ?_
    repeat go_big_quiet_step (first
      | (go_at_call 18; with_reducible exact calls_regrown fun W _ => K1.out W)
      | (go_at_call 23; with_reducible exact calls_regrown fun W _ => K2.out W))
    refine wpQuiet_nil ?_
    intro w2 hw'
    have hb2 := below_of_regrown hw'
    have HI := Lib.hid (HI.out.below hb2)
    have HB := Lib.hid (below_next HB.out hb2)
    clear hcut hm0
  · clear hw' hb2 i0 i1 x0 x1 x2 x3 x4 x5 x6
    go_wp2_with fail
    go_ret
    exact ⟨rfl, HI.out.mono, .of_below HB.out⟩
  · clear hw' hb2 i0 i1 x0 x1 x2 x3 x4 x5 x6
    go_wp2_with fail
    go_ret
    exact ⟨rfl, HI.out.mono, .of_below HB.out⟩
  · clear hw' hb2 i0 i1 x0 x1 x2 x3 x4 x5 x6
    go_wp2_with fail
    go_ret
    exact ⟨rfl, HI.out.mono, .of_below HB.out⟩
  · clear hw' hb2 i0 i1 x0 x1 x2 x3 x4 x5 x6
    go_wp2_with fail
    go_ret
    exact ⟨rfl, HI.out.mono, .of_below HB.out⟩
  · have HX := Lib.hid (HX.out.below hb2 HX.out.lt)
    have HC := Lib.hid (HC.out.below hb2 HC.out.lt)
    have HG := Lib.hid (show (0 ≤ (k : Int) ∧ (k : Int) < 7) ∧ (1 ≤ s ∧ s ≤ 1073741824) ∧ (0 ≤ q ∧ q ≤ 1099511627776) ∧ x.a.size ≤ 16 from ⟨by omega, by omega, by omega, HL.out rfl⟩)
    clear hw' hb2 i0 i1 x0 x1 x2 x3 x4 x5 x6
    go_upto_region 3 with (fail)
    have i0 := fun d os => HX.out.grown d os 0
    have i1 := fun d os => HX.out.grown d os 1
    have x0 := fun d os => HC.out.grown d os 0
    have x1 := fun d os => HC.out.grown d os 1
    have x2 := fun d os => HC.out.grown d os 2
    have x3 := fun d os => HC.out.grown d os 3
    have x4 := fun d os => HC.out.grown d os 4
    have x5 := fun d os => HC.out.grown d os 5
    have x6 := fun d os => HC.out.grown d os 6
    have hm0 := fun dd os => HI.out.ix.grown dd os 0
    simp only [List.getElem?_cons_zero, List.getElem?_cons_succ] at i0 i1 x0 x1 x2 x3 x4 x5 x6 hm0
    refine wp_region_last_d _ (by simp) (by kernel_rfl) (by kernel_rfl) (by kernel_rfl) ?_
    simp only [List.dropLast, List.getLast_cons_cons, List.getLast_singleton, hushLast, List.cons_append, List.nil_append]
    repeat go_big_quiet_step (fail)
    refine wpQuiet_nil ?_
    intro w3 hw'
    have hb3 := below_of_regrown hw'
    have hI3 := HI.out.below hb3
    have HB := Lib.hid (below_next HB.out hb3)
    clear hw' hb3 i0 i1 x0 x1 x2 x3 x4 x5 x6 hm0
    obtain ⟨D, hown, hl⟩ := hI3.map
    refine oper_mapUpdate _ _ _ 60 rfl 26 64 keyLaw Try.underlying60 readN b n D rfl hown (by unfold maxLen; omega) (instV k s) (notedV x q) (keyL k s) rfl rfl HK.out (.held (notedV x q)) [] rfl ?_
    intro w4 hown4 hg4
    have hT := touch_of_grownBy hg4
    have hI4 : IxAt w4 g b (n + 1) d (putE l ⟨k, s, x, q⟩) :=
      ⟨hI3.ix.touch hT hI3.ne, ⟨_, hown4, hl.put hI3.wf ⟨k, s, x, q⟩ HWF.out⟩, putE_good hI3.good HG.out⟩
    have HI4 := Lib.hid hI4
    have HT := Lib.hid ((Touch.of_below (g := b) HB.out).trans hT)
    clear hI4 hI3 hown4 hown hl hT hg4
    go_wp2_with fail
    go_ret
    exact ⟨rfl, HI4.out, HT.out⟩
end Go.Proofs.Ytleagecocffihaa
