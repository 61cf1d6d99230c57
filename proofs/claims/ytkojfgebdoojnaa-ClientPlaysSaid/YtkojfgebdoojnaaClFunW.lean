/-
  The walk of cmd.Right as a function of the command.
-/
import Derived.Test.YtkojfgebdoojnaaClBeginW
import Derived.Test.YtkojfgebdoojnaaClRunsW
namespace Go.Proofs.Ytkojfgebdoojnaa
open Go.RowKit
set_option linter.unusedVariables false

def bareE (k : Int) (b : ByteArray) : ByteArray := if k = 5 then b else ⟨#[]⟩
def bareO (k : Int) (o : ByteArray) : ByteArray := if k = 4 then o else ⟨#[]⟩
def bareV (k : Int) (v : ByteArray) : ByteArray := if k = 2 ∨ k = 4 then v else ⟨#[]⟩
def eqC (a b o v b' o' v' : ByteArray) : Bool := decide (a.toList = a.toList) && (decide (b.toList = b'.toList) && (decide (o.toList = o'.toList) && decide (v.toList = v'.toList)))
def longB (a b o v : ByteArray) : Bool := decide ((16 : Int) < a.size) || (decide ((16 : Int) < b.size) || (decide ((64 : Int) < o.size) || decide ((64 : Int) < v.size)))
def rightB (k : Int) (a b o v : ByteArray) : Bool := (decide (1 ≤ k) && decide (k ≤ 5)) && (eqC a b o v (bareE k b) (bareO k o) (bareV k v) && (!longB a b o v && (!decide (a.toList = []) || k == 5)))
set_option maxRecDepth 4000 in
set_option maxHeartbeats 2000000 in
theorem bare_fun (k c s : Int) (a b o v : ByteArray) (w : World) : Calls Try.prog 20 #[.agg #[.int .i64 k, .int .i64 c, .int .i64 s, .string a, .string b, .string o, .string v]] w fun e w' => e = .returned (.agg #[.int .i64 k, .int .i64 c, .int .i64 s, .string a, .string (bareE k b), .string (bareO k o), .string (bareV k v)]) ∧ Below w.heap.size w w' := by
  have hcase : (k = 2 ∧ (k == 2) = true) ∨ (k = 4 ∧ (k == 2) = false ∧ (k == 4) = true) ∨ (k = 5 ∧ (k == 2) = false ∧ (k == 4) = false ∧ (k == 5) = true) ∨ ((¬ k = 2 ∧ ¬ k = 4 ∧ ¬ k = 5) ∧ (k == 2) = false ∧ (k == 4) = false ∧ (k == 5) = false) := by
    simp only [beq_iff_eq, beq_eq_false_iff_ne]; omega
  rcases hcase with ⟨hk, e2⟩ | ⟨hk, e2, e4⟩ | ⟨hk, e2, e4, e5⟩ | ⟨⟨h2, h4, h5⟩, e2, e4, e5⟩
  · have h1 : bareE k b = ⟨#[]⟩ := if_neg (by omega)
    have h2 : bareO k o = ⟨#[]⟩ := if_neg (by omega)
    have h3 : bareV k v = v := if_pos (by omega)
    rw [h1, h2, h3]
    clear h1 h2 h3 hk
    go_enter Try.func20, Try.ntmps20
    go_wp2_with fail
    exact bodyPost_ret (v := .agg #[.int .i64 k, .int .i64 c, .int .i64 s, .string a, .string ⟨#[]⟩, .string ⟨#[]⟩, .string v]) (by simp [results, Try.results20, go_sem]) rfl ⟨rfl, by go_grown⟩
  · have h1 : bareE k b = ⟨#[]⟩ := if_neg (by omega)
    have h2 : bareO k o = o := if_pos (by omega)
    have h3 : bareV k v = v := if_pos (by omega)
    rw [h1, h2, h3]
    clear h1 h2 h3 hk
    go_enter Try.func20, Try.ntmps20
    go_upto_region 6 with (fail)
    go_region
    go_wp2_with fail
    exact bodyPost_ret (v := .agg #[.int .i64 k, .int .i64 c, .int .i64 s, .string a, .string ⟨#[]⟩, .string o, .string v]) (by simp [results, Try.results20, go_sem]) rfl ⟨rfl, by go_grown⟩
  · have h1 : bareE k b = b := if_pos (by omega)
    have h2 : bareO k o = ⟨#[]⟩ := if_neg (by omega)
    have h3 : bareV k v = ⟨#[]⟩ := if_neg (by omega)
    rw [h1, h2, h3]
    clear h1 h2 h3 hk
    go_enter Try.func20, Try.ntmps20
    go_wp2_with fail
    exact bodyPost_ret (v := .agg #[.int .i64 k, .int .i64 c, .int .i64 s, .string a, .string b, .string ⟨#[]⟩, .string ⟨#[]⟩]) (by simp [results, Try.results20, go_sem]) rfl ⟨rfl, by go_grown⟩
  · have h1' : bareE k b = ⟨#[]⟩ := if_neg (by omega)
    have h2' : bareO k o = ⟨#[]⟩ := if_neg (by omega)
    have h3' : bareV k v = ⟨#[]⟩ := if_neg (by omega)
    rw [h1', h2', h3']
    clear h1' h2' h3' h2 h4 h5
    go_enter Try.func20, Try.ntmps20
    go_wp2_with fail
    exact bodyPost_ret (v := .agg #[.int .i64 k, .int .i64 c, .int .i64 s, .string a, .string ⟨#[]⟩, .string ⟨#[]⟩, .string ⟨#[]⟩]) (by simp [results, Try.results20, go_sem]) rfl ⟨rfl, by go_grown⟩
/-- No command of a client's is the empty one. -/
theorem eql_no (k c s : Int) (a b o v : ByteArray) (hc : 1 ≤ c) (W : World) : (binOp .eql 27 (.agg #[.int .i64 k, .int .i64 c, .int .i64 s, .string a, .string b, .string o, .string v]) (.agg #[.int .i64 0, .int .i64 0, .int .i64 0, .string ⟨#[]⟩, .string ⟨#[]⟩, .string ⟨#[]⟩, .string ⟨#[]⟩])).run Try.prog W = .ok (.bool false) W := by
  rw [run_eql_struct, eq_cmd, show (c == 0) = false from by simp; omega]
  simp
theorem neq_cmd (k c s : Int) (a b o v b' o' v' : ByteArray) (W : World) : (binOp .neq 27 (.agg #[.int .i64 k, .int .i64 c, .int .i64 s, .string a, .string b, .string o, .string v]) (.agg #[.int .i64 k, .int .i64 c, .int .i64 s, .string a, .string b', .string o', .string v'])).run Try.prog W = .ok (.bool (!eqC a b o v b' o' v')) W := by
  rw [run_neq_struct, eq_cmd]
  simp [eqC]
theorem eql_cmd (k c s : Int) (a b o v b' o' v' : ByteArray) (W : World) : (binOp .eql 27 (.agg #[.int .i64 k, .int .i64 c, .int .i64 s, .string a, .string b, .string o, .string v]) (.agg #[.int .i64 k, .int .i64 c, .int .i64 s, .string a, .string b', .string o', .string v'])).run Try.prog W = .ok (.bool (eqC a b o v b' o' v')) W := by
  rw [run_eql_struct, eq_cmd]
  simp [eqC]
theorem long_cases (a b o v : ByteArray) : ((16 : Int) < a.size ∧ longB a b o v = true) ∨ (¬ (16 : Int) < a.size ∧ (16 : Int) < b.size ∧ longB a b o v = true) ∨ (¬ (16 : Int) < a.size ∧ ¬ (16 : Int) < b.size ∧ (64 : Int) < o.size ∧ longB a b o v = true) ∨
    (¬ (16 : Int) < a.size ∧ ¬ (16 : Int) < b.size ∧ ¬ (64 : Int) < o.size ∧ (64 : Int) < v.size ∧ longB a b o v = true) ∨ (¬ (16 : Int) < a.size ∧ ¬ (16 : Int) < b.size ∧ ¬ (64 : Int) < o.size ∧ ¬ (64 : Int) < v.size ∧ longB a b o v = false) := by
  unfold longB
  by_cases h1 : (16 : Int) < a.size
  · exact .inl ⟨h1, by simp [h1]⟩
  by_cases h2 : (16 : Int) < b.size
  · exact .inr (.inl ⟨h1, h2, by simp [h2]⟩)
  by_cases h3 : (64 : Int) < o.size
  · exact .inr (.inr (.inl ⟨h1, h2, h3, by simp [h3]⟩))
  by_cases h4 : (64 : Int) < v.size
  · exact .inr (.inr (.inr (.inl ⟨h1, h2, h3, h4, by simp [h4]⟩)))
  · exact .inr (.inr (.inr (.inr ⟨h1, h2, h3, h4, by simp [h1, h2, h3, h4]⟩)))
set_option maxRecDepth 4000 in
set_option maxHeartbeats 4000000 in
theorem right_fun (k c s : Int) (a b o v : ByteArray) (w : World) (hc : 1 ≤ c ∧ c ≤ 8) (hs : 1 ≤ s ∧ s ≤ 1000000) : Calls Try.prog 17 #[.agg #[.int .i64 k, .int .i64 c, .int .i64 s, .string a, .string b, .string o, .string v]] w fun e w' => e = .returned (.bool (rightB k a b o v)) ∧ Below w.heap.size w w' := by
  have hq := eql_no k c s a b o v hc.1
  have kb := bare_fun k c s a b o v
  have hq2 := neq_cmd k c s a b o v (bareE k b) (bareO k o) (bareV k v)
  have hR := Lib.hid (show rightB k a b o v = ((decide (1 ≤ k) && decide (k ≤ 5)) && (eqC a b o v (bareE k b) (bareO k o) (bareV k v) && (!longB a b o v && (!decide (a.toList = []) || k == 5)))) from rfl)
  generalize rightB k a b o v = R at hR ⊢
  generalize eqC a b o v (bareE k b) (bareO k o) (bareV k v) = E at hq2 hR
  generalize bareE k b = b', bareO k o = o', bareV k v = v' at kb hq2
  have KB := Lib.hid kb; clear kb
  have h1 := fun W => within5_any k 5 W
  have h2 := fun W => within5_any c 8 W
  have h3 := fun W => within5_any s 1099511627776 W
  rw [show (decide (1 ≤ c) && decide (c ≤ 8)) = true from by simp; omega] at h2
  rw [show (decide (1 ≤ s) && decide (s ≤ 1099511627776)) = true from by simp; omega] at h3
  obtain ⟨p, hp⟩ : ∃ p : Bool, p = (decide (1 ≤ k) && decide (k ≤ 5)) := ⟨_, rfl⟩
  rw [← hp] at h1 hR
  have K1 := Lib.hid h1; have K2 := Lib.hid h2; have K3 := Lib.hid h3
  clear h1 h2 h3 hp
  have hcase : p = false ∨ (p = true ∧ E = false) ∨ (p = true ∧ E = true) := by
    cases p <;> cases E <;> simp
  rcases hcase with rfl | ⟨rfl, rfl⟩ | ⟨rfl, rfl⟩
  all_goals
    go_enter Try.func17, Try.ntmps17
    go_upto_region 3 with (fail)
    clear hq
    go_name_world W hW
    have hX : Holds W w.heap.size 27 [.int .i64 k, .int .i64 c, .int .i64 s, .string a, .string b, .string o, .string v] := by rw [← hW]; exact holds_alloc w _ _
    have HB : Below w.heap.size w W := by rw [← hW]; go_grown
    clear hW
    have x0 := fun d os => hX.grown d os 0
    have x1 := fun d os => hX.grown d os 1
    have x2 := fun d os => hX.grown d os 2
    have x3 := fun d os => hX.grown d os 3
    have x4 := fun d os => hX.grown d os 4
    have x5 := fun d os => hX.grown d os 5
    have x6 := fun d os => hX.grown d os 6
    simp only [List.getElem?_cons_zero, List.getElem?_cons_succ] at x0 x1 x2 x3 x4 x5 x6
    refine wp_region_quiet_below (by kernel_rfl) (by kernel_rfl) ?_
    repeat go_big_quiet_step (first
      | (go_at_call 19; with_reducible exact calls_regrown fun W _ => K1.out W)
      | (go_at_call 19; with_reducible exact calls_regrown fun W _ => K2.out W)
      | (go_at_call 19; with_reducible exact calls_regrown fun W _ => K3.out W)
      | (go_at_call 20; with_reducible exact calls_regrown fun W _ => KB.out W))
    refine wpQuiet_nil ?_
    intro w2 hw'
    have hb2 := below_of_regrown hw'
    have HB2 := Lib.hid (below_next HB hb2)
    have hX2 := hX.below hb2 hX.lt
    clear hw' x0 x1 x2 x3 x4 x5 x6
    have x0 := hX2.cell 0
    have x3 := hX2.cell 3
    have x4 := hX2.cell 4
    have x5 := hX2.cell 5
    have x6 := hX2.cell 6
    simp only [List.getElem?_cons_zero, List.getElem?_cons_succ] at x0 x3 x4 x5 x6
    clear hX hX2 hb2 HB hq2
  · go_wp2_with fail
    go_ret
    exact ⟨ret_bool (by rw [hR.out]; rfl), HB2.out⟩
  · go_wp2_with fail
    go_ret
    exact ⟨ret_bool (by rw [hR.out]; rfl), HB2.out⟩
  · rcases long_cases a b o v with ⟨h1, hl⟩ | ⟨h1, h2, hl⟩ | ⟨h1, h2, h3, hl⟩ | ⟨h1, h2, h3, h4, hl⟩ | ⟨h1, h2, h3, h4, hl⟩
    all_goals
      rw [hl] at hR
      clear hl
    case inr.inr.inr.inr =>
      go_wp2_with fail
      all_goals
        go_ret
        exact ⟨ret_bool (by rw [hR.out]; simp [*]), HB2.out⟩
    all_goals
      go_wp2_with fail
      go_ret
      exact ⟨ret_bool (by rw [hR.out]; rfl), HB2.out⟩
set_option maxRecDepth 4000 in
set_option maxHeartbeats 4000000 in
theorem dright_fun (k c s : Int) (a b o v : ByteArray) (w : World) (hc : 1 ≤ c ∧ c ≤ 8) (hs : 1 ≤ s ∧ s ≤ 1000000) : Calls Try.prog 18 #[.agg #[.int .i64 k, .int .i64 c, .int .i64 s, .string a, .string b, .string o, .string v]] w fun e w' => e = .returned (.bool (rightB k a b o v)) ∧ Below w.heap.size w w' := by
  have hq := eql_no k c s a b o v hc.1
  have hR := Lib.hid (show rightB k a b o v = ((decide (1 ≤ k) && decide (k ≤ 5)) && (eqC a b o v (bareE k b) (bareO k o) (bareV k v) && (!longB a b o v && (!decide (a.toList = []) || k == 5)))) from rfl)
  generalize rightB k a b o v = R at hR ⊢
  obtain ⟨hc1, hc8⟩ := hc
  obtain ⟨hs1, hs2⟩ := hs
  have hp : (k < 1 ∧ (decide (1 ≤ k) && decide (k ≤ 5)) = false) ∨ (¬ k < 1 ∧ 5 < k ∧ (decide (1 ≤ k) && decide (k ≤ 5)) = false) ∨ (¬ k < 1 ∧ ¬ 5 < k ∧ (decide (1 ≤ k) && decide (k ≤ 5)) = true) := by
    simp only [Bool.and_eq_false_iff, decide_eq_false_iff_not, Bool.and_eq_true, decide_eq_true_iff]; omega
  rcases hp with ⟨hk, hp⟩ | ⟨hk, hk5, hp⟩ | ⟨hk, hk5, hp⟩
  · rw [hp] at hR
    clear hp
    go_enter Try.func18, Try.ntmps18
    go_wp2_with fail
    go_ret
    exact ⟨ret_bool (by rw [hR.out]; rfl), by go_grown⟩
  · rw [hp] at hR
    clear hp
    go_enter Try.func18, Try.ntmps18
    go_wp2_with fail
    go_ret
    exact ⟨ret_bool (by rw [hR.out]; rfl), by go_grown⟩
  · rw [hp] at hR
    clear hp
    rcases long_cases a b o v with ⟨h1, hl⟩ | ⟨h1, h2, hl⟩ | ⟨h1, h2, h3, hl⟩ | ⟨h1, h2, h3, h4, hl⟩ | ⟨h1, h2, h3, h4, hl⟩
    all_goals
      rw [hl] at hR
      clear hl
    case inr.inr.inr.inr =>
      have hcase : (k = 2 ∧ (k == 2) = true) ∨ (k = 4 ∧ (k == 2) = false ∧ (k == 4) = true) ∨ (k = 5 ∧ (k == 2) = false ∧ (k == 4) = false ∧ (k == 5) = true) ∨ ((¬ k = 2 ∧ ¬ k = 4 ∧ ¬ k = 5) ∧ (k == 2) = false ∧ (k == 4) = false ∧ (k == 5) = false) := by
        simp only [beq_iff_eq, beq_eq_false_iff_ne]; omega
      rcases hcase with ⟨hk, e2⟩ | ⟨hk, e2, e4⟩ | ⟨hk, e2, e4, e5⟩ | ⟨⟨h2, h4, h5⟩, e2, e4, e5⟩
      · have h1' : bareE k b = ⟨#[]⟩ := if_neg (by omega)
        have h2' : bareO k o = ⟨#[]⟩ := if_neg (by omega)
        have h3' : bareV k v = v := if_pos (by omega)
        rw [h1', h2', h3', show (k == 5) = false from by simp; omega] at hR
        have e5 : (k == 5) = false := by simp; omega
        clear h1' h2' h3' hk
        have hq2 := eql_cmd k c s a b o v ⟨#[]⟩ ⟨#[]⟩ v
        generalize eqC a b o v ⟨#[]⟩ ⟨#[]⟩ v = E at hq2 hR
        cases E
        all_goals
          go_enter Try.func18, Try.ntmps18
          go_wp2_with fail
          all_goals
            go_ret
            exact ⟨ret_bool (by rw [hR.out]; simp [*] <;> (cases a.toList <;> simp)), by go_grown⟩
      · have h1' : bareE k b = ⟨#[]⟩ := if_neg (by omega)
        have h2' : bareO k o = o := if_pos (by omega)
        have h3' : bareV k v = v := if_pos (by omega)
        rw [h1', h2', h3', show (k == 5) = false from by simp; omega] at hR
        have e5 : (k == 5) = false := by simp; omega
        clear h1' h2' h3' hk
        have hq2 := eql_cmd k c s a b o v ⟨#[]⟩ o v
        generalize eqC a b o v ⟨#[]⟩ o v = E at hq2 hR
        cases E
        all_goals
          go_enter Try.func18, Try.ntmps18
          go_upto_region 10 with (fail)
          go_region
          go_wp2_with fail
          all_goals
            go_ret
            exact ⟨ret_bool (by rw [hR.out]; simp [*] <;> (cases a.toList <;> simp)), by go_grown⟩
      · have h1' : bareE k b = b := if_pos (by omega)
        have h2' : bareO k o = ⟨#[]⟩ := if_neg (by omega)
        have h3' : bareV k v = ⟨#[]⟩ := if_neg (by omega)
        rw [h1', h2', h3', e5] at hR
        clear h1' h2' h3' hk
        have hq2 := eql_cmd k c s a b o v b ⟨#[]⟩ ⟨#[]⟩
        generalize eqC a b o v b ⟨#[]⟩ ⟨#[]⟩ = E at hq2 hR
        cases E
        all_goals
          go_enter Try.func18, Try.ntmps18
          go_wp2_with fail
          all_goals
            go_ret
            exact ⟨ret_bool (by rw [hR.out]; simp [*] <;> (cases a.toList <;> simp)), by go_grown⟩
      · have h1' : bareE k b = ⟨#[]⟩ := if_neg (by omega)
        have h2' : bareO k o = ⟨#[]⟩ := if_neg (by omega)
        have h3' : bareV k v = ⟨#[]⟩ := if_neg (by omega)
        rw [h1', h2', h3', e5] at hR
        clear h1' h2' h3' h2 h4 h5
        have hq2 := eql_cmd k c s a b o v ⟨#[]⟩ ⟨#[]⟩ ⟨#[]⟩
        generalize eqC a b o v ⟨#[]⟩ ⟨#[]⟩ ⟨#[]⟩ = E at hq2 hR
        cases E
        all_goals
          go_enter Try.func18, Try.ntmps18
          go_wp2_with fail
          all_goals
            go_ret
            exact ⟨ret_bool (by rw [hR.out]; simp [*] <;> (cases a.toList <;> simp)), by go_grown⟩
    all_goals
      go_enter Try.func18, Try.ntmps18
      go_wp2_with fail
      go_ret
      exact ⟨ret_bool (by rw [hR.out]; simp), by go_grown⟩
end Go.Proofs.Ytkojfgebdoojnaa
