/-
  The walks of QuorumRuns and of its helpers.
-/
import Derived.Test.YtmpefdepcbfcdaaQuPreW
import Derived.Test.YtmpefdepcbfcdaaQuPrepW
namespace Go.Proofs.Ytmpefdepcbfcdaa
open Go.RowKit
set_option linter.unusedVariables false
set_option linter.unusedSimpArgs false

theorem rows_of_flat {W : World} {g s n : Nat} {e : TypeId} {V : Nat → List Value} (h : Holds W g e (flat s n V)) (hl : ∀ i, i < n → (V i).length = s) (hn : n ≤ 1000) : IsRows W (some ⟨g, 0, none⟩) n s V :=
  ⟨by unfold maxLen; omega, hl, fun _ => ⟨g, 0, rfl, h.lt, fun i hi j hj => by rw [Nat.zero_add, h.cell]; exact flat_at s n V i j hi hj (hl i hi)⟩⟩
theorem attr_lit (k : Int) (w : World) : Calls Try.prog 12 #[.int .i64 k] w fun e w' => e = .returned (.agg #[.int .i64 k, .int .i64 0, .int .i64 0, .int .i64 0, .int .i64 0, .int .i64 0, .int .i64 0, .int .i64 0]) ∧ Below w.heap.size w w' := attr_any k w
theorem wpList_store_row {P : Program} {ops : Array Oper} {rest : List Oper} {op : Oper} {a : Act} {w : World} {Q : Exit → Act → World → Prop} (hgd : op.guard = none) (ty : TypeId) (x y : Operand) (ho : op.op = .store ty x y) (hd : op.dst = none)
    (g : Nat) (old cells : Array Value) (t : TypeId) (hg : w.heap[g]? = some (.cells old t (0, 0))) (hx : a.eval x = .pointer (some ⟨g, 0, none⟩)) (hy : a.eval y = .agg cells)
    (hi : (P.info? ty).map (·.size) = some cells.size) (hc : old.size = cells.size) (h1 : cells.all (·.oneCell') = true)
    (h : wpList P ops Q rest a (w.setRow g cells)) : wpList P ops Q (op :: rest) a w :=
  wpList_plain hgd fun _ hK => by
    unfold Oper.wp execOp
    simp only [ho, hx, hy, Instr.storeAt, Instr.sureAddr, Sem.run_bind, Sem.run_pure, Result.andThen_ok, run_storeVar_row w g t ty old cells hg hi hc h1]
    refine hK _ _ ?_
    rw [hd]
    exact h
def sdOf (r st k : Int) (same : Bool) : Sd := ⟨r, st, 0, 0, 0, 0, Cm.zero, At.of k, same⟩
def sdV (r st k : Int) (same : Bool) : Value := .agg #[.int .i64 r, .int .i64 st, .int .i64 0, .int .i64 0, .int .i64 0, .int .i64 0, .int .i64 0, .int .i64 0, .int .i64 0, .string ⟨#[]⟩, .string ⟨#[]⟩, .string ⟨#[]⟩, .string ⟨#[]⟩, .int .i64 k, .int .i64 0, .int .i64 0, .int .i64 0, .int .i64 0, .int .i64 0, .int .i64 0, .int .i64 0, .bool same]
set_option maxRecDepth 4000 in
set_option maxHeartbeats 2000000 in
theorem said_any (r st k : Int) (same : Bool) (w : World) : Calls Try.prog 14 #[.int .i64 r, .int .i64 st, .int .i64 k, .bool same] w fun e w' => e = .returned (sdV r st k same) ∧ Below w.heap.size w w' := by
  go_enter Try.func14, Try.ntmps14
  go_wp2_with fail
  refine (attr_lit k _).mono ?_
  rintro e w1 ⟨rfl, hb⟩
  have hz : Holds w1 w.heap.size 36 (sdOf 0 0 0 false).cells := (holds_alloc w 36 (sdOf 0 0 0 false).cells).below hb (by simp)
  have HB := Lib.hid (below_next (show Below w.heap.size w _ by go_grown) hb)
  have hs := HB.out.size
  clear hb
  have HZ := Lib.hid hz; clear hz
  go_wp2_with (refine wpList_store_row rfl 36 _ _ rfl rfl w.heap.size _ (sdOf r st k same).cells.toArray 36 HZ.out rfl rfl (by kernel_rfl) (by kernel_rfl) (Sd.cells_one _) ?_)
  exact bodyPost_ret (v := sdV r st k same) (results_cell_row rfl _ _ w.heap.size 36 (sdOf r st k same).cells.toArray (0, 0) _ rfl (setRow_heap _ _ _ _ _ _ HZ.out) Try.underlying36 rfl (by kernel_rfl)) rfl ⟨rfl, below_setRow HB.out (Nat.le_refl _) _⟩
set_option maxRecDepth 4000 in
set_option maxHeartbeats 2000000 in
theorem lpre_any (K : Nat) (want seq : Int) (late : Bool) (a : Option Addr) (len cap : Nat) (R : Nat → At) (w : World) (hS : IsRows w a len 8 fun i => (R i).cells) (hlc : len ≤ cap) (hnil : a = none → cap = 0) (hK3 : 3 ≤ K) (hK : K ≤ 7) (hlen : len ≤ 1000000) :
    Calls Try.prog 11 #[.int .i64 K, .int .i64 want, .int .i64 seq, .bool late, .slice a len cap] w fun e w' => e = .returned (.bool ((preA K true (At.of 1) R len late).1 == want && (preA K true (At.of 1) R len late).2.eqB (At.of seq))) ∧ Below w.heap.size w w' := by
  have hp := fun W (h : IsRows W a len 8 fun i => (R i).cells) => pre_any K true late (At.of 1) a len cap R W h hlc hnil hK3 hK hlen
  obtain ⟨P0, hP0⟩ : ∃ P0, P0 = preA K true (At.of 1) R len late := ⟨_, rfl⟩
  simp only [← hP0] at hp ⊢
  simp only [At.of] at hp
  clear hP0
  obtain ⟨kd, A⟩ := P0
  simp only at hp ⊢
  have HP := Lib.hid hp; clear hp
  have HS := Lib.hid hS; clear hS
  go_enter Try.func11, Try.ntmps11
  go_wp2_with fail
  refine (attr_lit 1 w).mono ?_
  rintro e w1 ⟨rfl, hb⟩
  have HB := Lib.hid hb; clear hb
  go_wp2_with fail
  refine (HP.out w1 (HS.out.below HB.out)).mono ?_
  rintro e w2 ⟨rfl, hb⟩
  have HB := Lib.hid (below_next HB.out hb)
  clear hb HP
  unfold At.cells
  go_upto_region 2 with (fail)
  have hbx := holds_alloc w2 26 [.int .i64 A.q, .int .i64 (A.d 0), .int .i64 (A.d 1), .int .i64 (A.d 2), .int .i64 (A.d 3), .int .i64 (A.d 4), .int .i64 (A.d 5), .int .i64 (A.d 6)]
  have hb2 := HB.out.alloc HB.out.size (.cells #[.int .i64 A.q, .int .i64 (A.d 0), .int .i64 (A.d 1), .int .i64 (A.d 2), .int .i64 (A.d 3), .int .i64 (A.d 4), .int .i64 (A.d 5), .int .i64 (A.d 6)] 26)
  go_name_world W hW
  rw [hW] at hbx hb2
  clear hW
  have HBX := Lib.hid hbx; have HB := Lib.hid hb2; clear hbx hb2
  have heq := eq_attr A (At.of seq)
  generalize hq : A.eqB (At.of seq) = q at heq
  simp only [At.of] at heq
  have hb0 := (HBX.out.grown · · 0)
  have hb1 := (HBX.out.grown · · 1)
  have hb2 := (HBX.out.grown · · 2)
  have hb3 := (HBX.out.grown · · 3)
  have hb4 := (HBX.out.grown · · 4)
  have hb5 := (HBX.out.grown · · 5)
  have hb6 := (HBX.out.grown · · 6)
  have hb7 := (HBX.out.grown · · 7)
  simp only [List.getElem?_cons_zero, List.getElem?_cons_succ] at hb0 hb1 hb2 hb3 hb4 hb5 hb6 hb7
  have HQ := Lib.hid hq; clear hq
  by_cases hw : kd = want
  · have e1 : (kd == want) = true := by simp [hw]
    refine wp_region_quiet_below (by kernel_rfl) (by kernel_rfl) ?_
    repeat go_big_quiet_step (first | (go_at_call 12; with_reducible exact calls_regrown fun W _ => attr_lit seq W))
    refine wpQuiet_nil ?_
    intro w6 hw'
    have HB := below_next HB.out (below_of_regrown hw')
    clear hw' hb0 hb1 hb2 hb3 hb4 hb5 hb6 hb7
    go_wp2_with fail
    go_ret
    exact ⟨ret_bool (by rw [HQ.out]; simp [e1]), HB⟩
  · have e1 : (kd == want) = false := by simp [hw]
    refine wp_region_quiet_below (by kernel_rfl) (by kernel_rfl) ?_
    repeat go_big_quiet_step (first | (go_at_call 12; with_reducible exact calls_regrown fun W _ => attr_lit seq W))
    refine wpQuiet_nil ?_
    intro w6 hw'
    have HB := below_next HB.out (below_of_regrown hw')
    clear hw' hb0 hb1 hb2 hb3 hb4 hb5 hb6 hb7
    go_wp2_with fail
    go_ret
    exact ⟨ret_bool (by simp [e1]), HB⟩
set_option maxRecDepth 4000 in
set_option maxHeartbeats 2000000 in
theorem lprep_any (want seq : Int) (a : Option Addr) (len cap : Nat) (S : Nat → Sd) (w : World) (hS : IsRows w a len 22 fun i => (S i).cells) (hlc : len ≤ cap) :
    Calls Try.prog 13 #[.int .i64 want, .int .i64 seq, .slice a len cap] w fun e w' => e = .returned (.bool ((prepared 3 0 S len).1 == want && (prepared 3 0 S len).2.2.eqB (At.of seq))) ∧ Below w.heap.size w w' := by
  have hp := prepared_any 3 0 a len cap S w hS hlc (by omega) (by omega)
  obtain ⟨P0, hP0⟩ : ∃ P0, P0 = prepared 3 0 S len := ⟨_, rfl⟩
  simp only [← hP0] at hp ⊢
  rw [show ((3 : Nat) : Int) = 3 from rfl] at hp
  clear hP0
  obtain ⟨kd, X, A⟩ := P0
  simp only at hp ⊢
  have HP := Lib.hid hp; clear hp hS
  go_enter Try.func13, Try.ntmps13
  go_wp2_with fail
  refine HP.out.mono ?_
  rintro e w2 ⟨rfl, hb⟩
  have HB := Lib.hid hb
  clear hb HP
  unfold At.cells Cm.cells
  go_upto_region 2 with (fail)
  have hbx := holds_alloc (w2.alloc (.cells #[.int .i64 X.k, .int .i64 X.c, .int .i64 X.s, .string X.a, .string X.b, .string X.o, .string X.v] 32)) 26 [.int .i64 A.q, .int .i64 (A.d 0), .int .i64 (A.d 1), .int .i64 (A.d 2), .int .i64 (A.d 3), .int .i64 (A.d 4), .int .i64 (A.d 5), .int .i64 (A.d 6)]
  have hb2 := (HB.out.alloc HB.out.size (.cells #[.int .i64 X.k, .int .i64 X.c, .int .i64 X.s, .string X.a, .string X.b, .string X.o, .string X.v] 32)).alloc (by have := HB.out.size; simp; omega) (.cells #[.int .i64 A.q, .int .i64 (A.d 0), .int .i64 (A.d 1), .int .i64 (A.d 2), .int .i64 (A.d 3), .int .i64 (A.d 4), .int .i64 (A.d 5), .int .i64 (A.d 6)] 26)
  go_name_world W hW
  rw [hW] at hbx hb2
  rw [World.size_alloc] at hbx
  clear hW
  have HBX := Lib.hid hbx; have HB := Lib.hid hb2; clear hbx hb2
  have heq := eq_attr A (At.of seq)
  generalize hq : A.eqB (At.of seq) = q at heq
  simp only [At.of] at heq
  have hb0 := (HBX.out.grown · · 0)
  have hb1 := (HBX.out.grown · · 1)
  have hb2 := (HBX.out.grown · · 2)
  have hb3 := (HBX.out.grown · · 3)
  have hb4 := (HBX.out.grown · · 4)
  have hb5 := (HBX.out.grown · · 5)
  have hb6 := (HBX.out.grown · · 6)
  have hb7 := (HBX.out.grown · · 7)
  simp only [List.getElem?_cons_zero, List.getElem?_cons_succ] at hb0 hb1 hb2 hb3 hb4 hb5 hb6 hb7
  have HQ := Lib.hid hq; clear hq
  by_cases hw : kd = want
  · have e1 : (kd == want) = true := by simp [hw]
    refine wp_region_quiet_below (by kernel_rfl) (by kernel_rfl) ?_
    repeat go_big_quiet_step (first | (go_at_call 12; with_reducible exact calls_regrown fun W _ => attr_lit seq W))
    refine wpQuiet_nil ?_
    intro w6 hw'
    have HB := below_next HB.out (below_of_regrown hw')
    clear hw' hb0 hb1 hb2 hb3 hb4 hb5 hb6 hb7
    go_wp2_with fail
    go_ret
    exact ⟨ret_bool (by rw [HQ.out]; simp [e1]), HB⟩
  · have e1 : (kd == want) = false := by simp [hw]
    refine wp_region_quiet_below (by kernel_rfl) (by kernel_rfl) ?_
    repeat go_big_quiet_step (first | (go_at_call 12; with_reducible exact calls_regrown fun W _ => attr_lit seq W))
    refine wpQuiet_nil ?_
    intro w6 hw'
    have HB := below_next HB.out (below_of_regrown hw')
    clear hw' hb0 hb1 hb2 hb3 hb4 hb5 hb6 hb7
    go_wp2_with fail
    go_ret
    exact ⟨ret_bool (by simp [e1]), HB⟩
set_option maxRecDepth 4000 in
set_option maxHeartbeats 8000000 in
theorem quorumRuns_any (w : World) : Calls Try.prog 3 #[] w fun e w' => e = .returned (.bool true) ∧ Below w.heap.size w w' := by
  have HB := Lib.hid (Below.refl w.heap.size w)
  go_enter Try.func3, Try.ntmps3
  go_wp2_with fail
  refine (attr_lit 1 _).mono ?_
  rintro e w2 ⟨rfl, hb⟩
  have HB := Lib.hid (below_next HB.out hb)
  clear hb
  have hbl : Holds (w2.alloc (.cells #[.int .i64 1, .int .i64 0, .int .i64 0, .int .i64 0, .int .i64 0, .int .i64 0, .int .i64 0, .int .i64 0] 26)) w2.heap.size 26 (flat 8 1 fun i => ((fun i => At.of (([1] : List Int).getD i 0)) i).cells) := holds_alloc w2 26 _
  have hb3 := HB.out.alloc HB.out.size (.cells #[.int .i64 1, .int .i64 0, .int .i64 0, .int .i64 0, .int .i64 0, .int .i64 0, .int .i64 0, .int .i64 0] 26)
  have hc := lpre_any 3 1 1 false (some ⟨w2.heap.size, 0, none⟩) 1 1 (fun i => At.of (([1] : List Int).getD i 0)) _ (rows_of_flat hbl (fun i hi => rfl) (by omega)) (by omega) (by intro h; cases h) (by omega) (by omega) (by omega)
  rw [show ((preA 3 true (At.of 1) (fun i => At.of (([1] : List Int).getD i 0)) 1 false).1 == 1 && (preA 3 true (At.of 1) (fun i => At.of (([1] : List Int).getD i 0)) 1 false).2.eqB (At.of 1)) = true from by kernel_rfl, show ((3 : Nat) : Int) = 3 from rfl] at hc
  have HC := Lib.hid hc; have HB := Lib.hid hb3
  clear hbl hb3 hc
  go_wp2_with fail
  refine HC.out.mono ?_
  rintro e w3 ⟨rfl, hb⟩
  have HB := Lib.hid (below_next HB.out hb)
  clear hb HC
  go_wp2_with fail
  refine (attr_lit 1 _).mono ?_
  rintro e w2 ⟨rfl, hb⟩
  have HB := Lib.hid (below_next HB.out hb)
  clear hb
  go_wp2_with fail
  refine (attr_lit 1 _).mono ?_
  rintro e w2 ⟨rfl, hb⟩
  have HB := Lib.hid (below_next HB.out hb)
  clear hb
  have hbl : Holds (w2.alloc (.cells #[.int .i64 1, .int .i64 0, .int .i64 0, .int .i64 0, .int .i64 0, .int .i64 0, .int .i64 0, .int .i64 0, .int .i64 1, .int .i64 0, .int .i64 0, .int .i64 0, .int .i64 0, .int .i64 0, .int .i64 0, .int .i64 0] 26)) w2.heap.size 26 (flat 8 2 fun i => ((fun i => At.of (([1, 1] : List Int).getD i 0)) i).cells) := holds_alloc w2 26 _
  have hb3 := HB.out.alloc HB.out.size (.cells #[.int .i64 1, .int .i64 0, .int .i64 0, .int .i64 0, .int .i64 0, .int .i64 0, .int .i64 0, .int .i64 0, .int .i64 1, .int .i64 0, .int .i64 0, .int .i64 0, .int .i64 0, .int .i64 0, .int .i64 0, .int .i64 0] 26)
  have hc := lpre_any 5 0 0 false (some ⟨w2.heap.size, 0, none⟩) 2 2 (fun i => At.of (([1, 1] : List Int).getD i 0)) _ (rows_of_flat hbl (fun i hi => rfl) (by omega)) (by omega) (by intro h; cases h) (by omega) (by omega) (by omega)
  rw [show ((preA 5 true (At.of 1) (fun i => At.of (([1, 1] : List Int).getD i 0)) 2 false).1 == 0 && (preA 5 true (At.of 1) (fun i => At.of (([1, 1] : List Int).getD i 0)) 2 false).2.eqB (At.of 0)) = true from by kernel_rfl, show ((5 : Nat) : Int) = 5 from rfl] at hc
  have HC := Lib.hid hc; have HB := Lib.hid hb3
  clear hbl hb3 hc
  go_wp2_with fail
  refine HC.out.mono ?_
  rintro e w3 ⟨rfl, hb⟩
  have HB := Lib.hid (below_next HB.out hb)
  clear hb HC
  go_wp2_with fail
  refine (attr_lit 1 _).mono ?_
  rintro e w2 ⟨rfl, hb⟩
  have HB := Lib.hid (below_next HB.out hb)
  clear hb
  go_wp2_with fail
  refine (attr_lit 2 _).mono ?_
  rintro e w2 ⟨rfl, hb⟩
  have HB := Lib.hid (below_next HB.out hb)
  clear hb
  go_wp2_with fail
  refine (attr_lit 2 _).mono ?_
  rintro e w2 ⟨rfl, hb⟩
  have HB := Lib.hid (below_next HB.out hb)
  clear hb
  have hbl : Holds (w2.alloc (.cells #[.int .i64 1, .int .i64 0, .int .i64 0, .int .i64 0, .int .i64 0, .int .i64 0, .int .i64 0, .int .i64 0, .int .i64 2, .int .i64 0, .int .i64 0, .int .i64 0, .int .i64 0, .int .i64 0, .int .i64 0, .int .i64 0, .int .i64 2, .int .i64 0, .int .i64 0, .int .i64 0, .int .i64 0, .int .i64 0, .int .i64 0, .int .i64 0] 26)) w2.heap.size 26 (flat 8 3 fun i => ((fun i => At.of (([1, 2, 2] : List Int).getD i 0)) i).cells) := holds_alloc w2 26 _
  have hb3 := HB.out.alloc HB.out.size (.cells #[.int .i64 1, .int .i64 0, .int .i64 0, .int .i64 0, .int .i64 0, .int .i64 0, .int .i64 0, .int .i64 0, .int .i64 2, .int .i64 0, .int .i64 0, .int .i64 0, .int .i64 0, .int .i64 0, .int .i64 0, .int .i64 0, .int .i64 2, .int .i64 0, .int .i64 0, .int .i64 0, .int .i64 0, .int .i64 0, .int .i64 0, .int .i64 0] 26)
  have hc := lpre_any 5 2 2 false (some ⟨w2.heap.size, 0, none⟩) 3 3 (fun i => At.of (([1, 2, 2] : List Int).getD i 0)) _ (rows_of_flat hbl (fun i hi => rfl) (by omega)) (by omega) (by intro h; cases h) (by omega) (by omega) (by omega)
  rw [show ((preA 5 true (At.of 1) (fun i => At.of (([1, 2, 2] : List Int).getD i 0)) 3 false).1 == 2 && (preA 5 true (At.of 1) (fun i => At.of (([1, 2, 2] : List Int).getD i 0)) 3 false).2.eqB (At.of 2)) = true from by kernel_rfl, show ((5 : Nat) : Int) = 5 from rfl] at hc
  have HC := Lib.hid hc; have HB := Lib.hid hb3
  clear hbl hb3 hc
  go_wp2_with fail
  refine HC.out.mono ?_
  rintro e w3 ⟨rfl, hb⟩
  have HB := Lib.hid (below_next HB.out hb)
  clear hb HC
  go_wp2_with fail
  refine (attr_lit 1 _).mono ?_
  rintro e w2 ⟨rfl, hb⟩
  have HB := Lib.hid (below_next HB.out hb)
  clear hb
  go_wp2_with fail
  refine (attr_lit 1 _).mono ?_
  rintro e w2 ⟨rfl, hb⟩
  have HB := Lib.hid (below_next HB.out hb)
  clear hb
  have hbl : Holds (w2.alloc (.cells #[.int .i64 1, .int .i64 0, .int .i64 0, .int .i64 0, .int .i64 0, .int .i64 0, .int .i64 0, .int .i64 0, .int .i64 1, .int .i64 0, .int .i64 0, .int .i64 0, .int .i64 0, .int .i64 0, .int .i64 0, .int .i64 0] 26)) w2.heap.size 26 (flat 8 2 fun i => ((fun i => At.of (([1, 1] : List Int).getD i 0)) i).cells) := holds_alloc w2 26 _
  have hb3 := HB.out.alloc HB.out.size (.cells #[.int .i64 1, .int .i64 0, .int .i64 0, .int .i64 0, .int .i64 0, .int .i64 0, .int .i64 0, .int .i64 0, .int .i64 1, .int .i64 0, .int .i64 0, .int .i64 0, .int .i64 0, .int .i64 0, .int .i64 0, .int .i64 0] 26)
  have hc := lpre_any 5 2 1 true (some ⟨w2.heap.size, 0, none⟩) 2 2 (fun i => At.of (([1, 1] : List Int).getD i 0)) _ (rows_of_flat hbl (fun i hi => rfl) (by omega)) (by omega) (by intro h; cases h) (by omega) (by omega) (by omega)
  rw [show ((preA 5 true (At.of 1) (fun i => At.of (([1, 1] : List Int).getD i 0)) 2 true).1 == 2 && (preA 5 true (At.of 1) (fun i => At.of (([1, 1] : List Int).getD i 0)) 2 true).2.eqB (At.of 1)) = true from by kernel_rfl, show ((5 : Nat) : Int) = 5 from rfl] at hc
  have HC := Lib.hid hc; have HB := Lib.hid hb3
  clear hbl hb3 hc
  go_wp2_with fail
  refine HC.out.mono ?_
  rintro e w3 ⟨rfl, hb⟩
  have HB := Lib.hid (below_next HB.out hb)
  clear hb HC
  go_wp2_with fail
  refine (said_any 1 0 0 false _).mono ?_
  rintro e w2 ⟨rfl, hb⟩
  have HB := Lib.hid (below_next HB.out hb)
  clear hb
  unfold sdV
  go_wp2_with fail
  refine (said_any 2 0 0 false _).mono ?_
  rintro e w2 ⟨rfl, hb⟩
  have HB := Lib.hid (below_next HB.out hb)
  clear hb
  unfold sdV
  have hbl : Holds (w2.alloc (.cells #[.int .i64 1, .int .i64 0, .int .i64 0, .int .i64 0, .int .i64 0, .int .i64 0, .int .i64 0, .int .i64 0, .int .i64 0, .string ⟨#[]⟩, .string ⟨#[]⟩, .string ⟨#[]⟩, .string ⟨#[]⟩, .int .i64 0, .int .i64 0, .int .i64 0, .int .i64 0, .int .i64 0, .int .i64 0, .int .i64 0, .int .i64 0, .bool false, .int .i64 2, .int .i64 0, .int .i64 0, .int .i64 0, .int .i64 0, .int .i64 0, .int .i64 0, .int .i64 0, .int .i64 0, .string ⟨#[]⟩, .string ⟨#[]⟩, .string ⟨#[]⟩, .string ⟨#[]⟩, .int .i64 0, .int .i64 0, .int .i64 0, .int .i64 0, .int .i64 0, .int .i64 0, .int .i64 0, .int .i64 0, .bool false] 36)) w2.heap.size 36 (flat 22 2 fun i => ((fun i => ([sdOf 1 0 0 false, sdOf 2 0 0 false] : List Sd).getD i (sdOf 0 0 0 false)) i).cells) := holds_alloc w2 36 _
  have hb3 := HB.out.alloc HB.out.size (.cells #[.int .i64 1, .int .i64 0, .int .i64 0, .int .i64 0, .int .i64 0, .int .i64 0, .int .i64 0, .int .i64 0, .int .i64 0, .string ⟨#[]⟩, .string ⟨#[]⟩, .string ⟨#[]⟩, .string ⟨#[]⟩, .int .i64 0, .int .i64 0, .int .i64 0, .int .i64 0, .int .i64 0, .int .i64 0, .int .i64 0, .int .i64 0, .bool false, .int .i64 2, .int .i64 0, .int .i64 0, .int .i64 0, .int .i64 0, .int .i64 0, .int .i64 0, .int .i64 0, .int .i64 0, .string ⟨#[]⟩, .string ⟨#[]⟩, .string ⟨#[]⟩, .string ⟨#[]⟩, .int .i64 0, .int .i64 0, .int .i64 0, .int .i64 0, .int .i64 0, .int .i64 0, .int .i64 0, .int .i64 0, .bool false] 36)
  have hc := lprep_any 4 0 (some ⟨w2.heap.size, 0, none⟩) 2 2 (fun i => ([sdOf 1 0 0 false, sdOf 2 0 0 false] : List Sd).getD i (sdOf 0 0 0 false)) _ (rows_of_flat hbl (fun i hi => by rcases (show i = 0 ∨ i = 1 by omega) with rfl | rfl <;> rfl) (by omega)) (by omega)
  rw [show ((prepared 3 0 (fun i => ([sdOf 1 0 0 false, sdOf 2 0 0 false] : List Sd).getD i (sdOf 0 0 0 false)) 2).1 == 4 && (prepared 3 0 (fun i => ([sdOf 1 0 0 false, sdOf 2 0 0 false] : List Sd).getD i (sdOf 0 0 0 false)) 2).2.2.eqB (At.of 0)) = true from by kernel_rfl] at hc
  have HC := Lib.hid hc; have HB := Lib.hid hb3
  clear hbl hb3 hc
  go_wp2_with fail
  refine HC.out.mono ?_
  rintro e w3 ⟨rfl, hb⟩
  have HB := Lib.hid (below_next HB.out hb)
  clear hb HC
  go_wp2_with fail
  refine (said_any 1 1 1 true _).mono ?_
  rintro e w2 ⟨rfl, hb⟩
  have HB := Lib.hid (below_next HB.out hb)
  clear hb
  unfold sdV
  go_wp2_with fail
  refine (said_any 2 1 2 false _).mono ?_
  rintro e w2 ⟨rfl, hb⟩
  have HB := Lib.hid (below_next HB.out hb)
  clear hb
  unfold sdV
  have hbl : Holds (w2.alloc (.cells #[.int .i64 1, .int .i64 1, .int .i64 0, .int .i64 0, .int .i64 0, .int .i64 0, .int .i64 0, .int .i64 0, .int .i64 0, .string ⟨#[]⟩, .string ⟨#[]⟩, .string ⟨#[]⟩, .string ⟨#[]⟩, .int .i64 1, .int .i64 0, .int .i64 0, .int .i64 0, .int .i64 0, .int .i64 0, .int .i64 0, .int .i64 0, .bool true, .int .i64 2, .int .i64 1, .int .i64 0, .int .i64 0, .int .i64 0, .int .i64 0, .int .i64 0, .int .i64 0, .int .i64 0, .string ⟨#[]⟩, .string ⟨#[]⟩, .string ⟨#[]⟩, .string ⟨#[]⟩, .int .i64 2, .int .i64 0, .int .i64 0, .int .i64 0, .int .i64 0, .int .i64 0, .int .i64 0, .int .i64 0, .bool false] 36)) w2.heap.size 36 (flat 22 2 fun i => ((fun i => ([sdOf 1 1 1 true, sdOf 2 1 2 false] : List Sd).getD i (sdOf 0 0 0 false)) i).cells) := holds_alloc w2 36 _
  have hb3 := HB.out.alloc HB.out.size (.cells #[.int .i64 1, .int .i64 1, .int .i64 0, .int .i64 0, .int .i64 0, .int .i64 0, .int .i64 0, .int .i64 0, .int .i64 0, .string ⟨#[]⟩, .string ⟨#[]⟩, .string ⟨#[]⟩, .string ⟨#[]⟩, .int .i64 1, .int .i64 0, .int .i64 0, .int .i64 0, .int .i64 0, .int .i64 0, .int .i64 0, .int .i64 0, .bool true, .int .i64 2, .int .i64 1, .int .i64 0, .int .i64 0, .int .i64 0, .int .i64 0, .int .i64 0, .int .i64 0, .int .i64 0, .string ⟨#[]⟩, .string ⟨#[]⟩, .string ⟨#[]⟩, .string ⟨#[]⟩, .int .i64 2, .int .i64 0, .int .i64 0, .int .i64 0, .int .i64 0, .int .i64 0, .int .i64 0, .int .i64 0, .bool false] 36)
  have hc := lprep_any 2 1 (some ⟨w2.heap.size, 0, none⟩) 2 2 (fun i => ([sdOf 1 1 1 true, sdOf 2 1 2 false] : List Sd).getD i (sdOf 0 0 0 false)) _ (rows_of_flat hbl (fun i hi => by rcases (show i = 0 ∨ i = 1 by omega) with rfl | rfl <;> rfl) (by omega)) (by omega)
  rw [show ((prepared 3 0 (fun i => ([sdOf 1 1 1 true, sdOf 2 1 2 false] : List Sd).getD i (sdOf 0 0 0 false)) 2).1 == 2 && (prepared 3 0 (fun i => ([sdOf 1 1 1 true, sdOf 2 1 2 false] : List Sd).getD i (sdOf 0 0 0 false)) 2).2.2.eqB (At.of 1)) = true from by kernel_rfl] at hc
  have HC := Lib.hid hc; have HB := Lib.hid hb3
  clear hbl hb3 hc
  go_wp2_with fail
  refine HC.out.mono ?_
  rintro e w3 ⟨rfl, hb⟩
  have HB := Lib.hid (below_next HB.out hb)
  clear hb HC
  go_wp2_with fail
  refine (said_any 0 1 1 true _).mono ?_
  rintro e w2 ⟨rfl, hb⟩
  have HB := Lib.hid (below_next HB.out hb)
  clear hb
  unfold sdV
  go_wp2_with fail
  refine (said_any 1 1 1 true _).mono ?_
  rintro e w2 ⟨rfl, hb⟩
  have HB := Lib.hid (below_next HB.out hb)
  clear hb
  unfold sdV
  have hbl : Holds (w2.alloc (.cells #[.int .i64 0, .int .i64 1, .int .i64 0, .int .i64 0, .int .i64 0, .int .i64 0, .int .i64 0, .int .i64 0, .int .i64 0, .string ⟨#[]⟩, .string ⟨#[]⟩, .string ⟨#[]⟩, .string ⟨#[]⟩, .int .i64 1, .int .i64 0, .int .i64 0, .int .i64 0, .int .i64 0, .int .i64 0, .int .i64 0, .int .i64 0, .bool true, .int .i64 1, .int .i64 1, .int .i64 0, .int .i64 0, .int .i64 0, .int .i64 0, .int .i64 0, .int .i64 0, .int .i64 0, .string ⟨#[]⟩, .string ⟨#[]⟩, .string ⟨#[]⟩, .string ⟨#[]⟩, .int .i64 1, .int .i64 0, .int .i64 0, .int .i64 0, .int .i64 0, .int .i64 0, .int .i64 0, .int .i64 0, .bool true] 36)) w2.heap.size 36 (flat 22 2 fun i => ((fun i => ([sdOf 0 1 1 true, sdOf 1 1 1 true] : List Sd).getD i (sdOf 0 0 0 false)) i).cells) := holds_alloc w2 36 _
  have hb3 := HB.out.alloc HB.out.size (.cells #[.int .i64 0, .int .i64 1, .int .i64 0, .int .i64 0, .int .i64 0, .int .i64 0, .int .i64 0, .int .i64 0, .int .i64 0, .string ⟨#[]⟩, .string ⟨#[]⟩, .string ⟨#[]⟩, .string ⟨#[]⟩, .int .i64 1, .int .i64 0, .int .i64 0, .int .i64 0, .int .i64 0, .int .i64 0, .int .i64 0, .int .i64 0, .bool true, .int .i64 1, .int .i64 1, .int .i64 0, .int .i64 0, .int .i64 0, .int .i64 0, .int .i64 0, .int .i64 0, .int .i64 0, .string ⟨#[]⟩, .string ⟨#[]⟩, .string ⟨#[]⟩, .string ⟨#[]⟩, .int .i64 1, .int .i64 0, .int .i64 0, .int .i64 0, .int .i64 0, .int .i64 0, .int .i64 0, .int .i64 0, .bool true] 36)
  have hc := lprep_any 3 1 (some ⟨w2.heap.size, 0, none⟩) 2 2 (fun i => ([sdOf 0 1 1 true, sdOf 1 1 1 true] : List Sd).getD i (sdOf 0 0 0 false)) _ (rows_of_flat hbl (fun i hi => by rcases (show i = 0 ∨ i = 1 by omega) with rfl | rfl <;> rfl) (by omega)) (by omega)
  rw [show ((prepared 3 0 (fun i => ([sdOf 0 1 1 true, sdOf 1 1 1 true] : List Sd).getD i (sdOf 0 0 0 false)) 2).1 == 3 && (prepared 3 0 (fun i => ([sdOf 0 1 1 true, sdOf 1 1 1 true] : List Sd).getD i (sdOf 0 0 0 false)) 2).2.2.eqB (At.of 1)) = true from by kernel_rfl] at hc
  have HC := Lib.hid hc; have HB := Lib.hid hb3
  clear hbl hb3 hc
  go_wp2_with fail
  refine HC.out.mono ?_
  rintro e w3 ⟨rfl, hb⟩
  have HB := Lib.hid (below_next HB.out hb)
  clear hb HC
  go_wp2_with fail
  go_ret
  exact ⟨rfl, HB.out⟩
end Go.Proofs.Ytmpefdepcbfcdaa
