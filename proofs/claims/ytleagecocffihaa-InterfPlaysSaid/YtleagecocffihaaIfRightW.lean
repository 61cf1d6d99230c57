/-
  The walks of Right (commands, instances), the program's and the document's.
-/
import Derived.Test.YtleagecocffihaaClP
import Derived.Test.YtleagecocffihaaBoxes
import Derived.Deep.RegionWith
import Derived.Deep.CutRange
import Derived.Lib.QuietBelow
import Derived.BigQuiet
import Derived.Lib.ItoaWalk
import Derived.Laws.StructEq
import Derived.Laws.Tables
import Derived.Laws.Cover2
import Derived.IntWalk
namespace Go.Proofs.Ytleagecocffihaa
open Go.RowKit
set_option linter.unusedVariables false
set_option linter.unusedSimpArgs false

theorem within5_any (n m : Int) (w : World) : Calls Try.prog 30 #[.int .i64 n, .int .i64 m] w fun e w' => e = .returned (.bool (decide (1 ≤ n) && decide (n ≤ m))) ∧ Below w.heap.size w w' := by
  go_enter Try.func30, Try.ntmps30
  go_wp2_with fail
  all_goals
    go_ret
    exact ⟨ret_bool (by first | (simp [*]; done) | (simp; omega)), by go_grown⟩
theorem eq_cmd (a0 a1 a2 b0 b1 b2 : Int) (a3 a4 a5 a6 b3 b4 b5 b6 : ByteArray) (w : World) : (Op.equalIn 10000 29 (.agg #[.int .i64 a0, .int .i64 a1, .int .i64 a2, .string a3, .string a4, .string a5, .string a6]) (.agg #[.int .i64 b0, .int .i64 b1, .int .i64 b2, .string b3, .string b4, .string b5, .string b6])).run Try.prog w = .ok (a0 == b0 && (a1 == b1 && (a2 == b2 && (decide (a3.toList = b3.toList) && (decide (a4.toList = b4.toList) && (decide (a5.toList = b5.toList) && decide (a6.toList = b6.toList))))))) w := by
  rw [show (10000 : Nat) = 9999 + 1 from rfl, run_equalIn_struct w 9999 29 _ _ (by kernel_rfl) (by kernel_rfl)]
  go_simp
  by_cases h0 : a0 = b0
  · by_cases h1 : a1 = b1
    · by_cases h2 : a2 = b2
      · by_cases h3 : a3.toList = b3.toList
        · by_cases h4 : a4.toList = b4.toList
          · by_cases h5 : a5.toList = b5.toList
            · by_cases h6 : a6.toList = b6.toList <;> simp [h0, h1, h2, h3, h4, h5, h6]
            · simp [h0, h1, h2, h3, h4, h5]
          · simp [h0, h1, h2, h3, h4]
        · simp [h0, h1, h2, h3]
      · simp [h0, h1, h2]
    · simp [h0, h1]
  · simp [h0]
def bareE (k : Int) (b : ByteArray) : ByteArray := if k = 5 then b else ⟨#[]⟩
def bareO (k : Int) (o : ByteArray) : ByteArray := if k = 4 then o else ⟨#[]⟩
def bareV (k : Int) (v : ByteArray) : ByteArray := if k = 2 ∨ k = 4 then v else ⟨#[]⟩
def eqC (a b o v b' o' v' : ByteArray) : Bool := decide (a.toList = a.toList) && (decide (b.toList = b'.toList) && (decide (o.toList = o'.toList) && decide (v.toList = v'.toList)))
def longB (a b o v : ByteArray) : Bool := decide ((16 : Int) < a.size) || (decide ((16 : Int) < b.size) || (decide ((64 : Int) < o.size) || decide ((64 : Int) < v.size)))
def zeroC (k c s : Int) (a b o v : ByteArray) : Bool := k == 0 && (c == 0 && (s == 0 && (decide (a.toList = (⟨#[]⟩ : ByteArray).toList) && (decide (b.toList = (⟨#[]⟩ : ByteArray).toList) && (decide (o.toList = (⟨#[]⟩ : ByteArray).toList) && decide (v.toList = (⟨#[]⟩ : ByteArray).toList))))))
def rightA (k c s : Int) (a b o v : ByteArray) : Bool := zeroC k c s a b o v || (((decide (1 ≤ k) && decide (k ≤ 5)) && ((decide (1 ≤ c) && decide (c ≤ 8)) && (decide (1 ≤ s) && decide (s ≤ 1099511627776)))) && (eqC a b o v (bareE k b) (bareO k o) (bareV k v) && (!longB a b o v && (!decide (a.toList = []) || k == 5))))
theorem eql_zero (k c s : Int) (a b o v : ByteArray) (W : World) : (binOp .eql 29 (.agg #[.int .i64 k, .int .i64 c, .int .i64 s, .string a, .string b, .string o, .string v]) (.agg #[.int .i64 0, .int .i64 0, .int .i64 0, .string ⟨#[]⟩, .string ⟨#[]⟩, .string ⟨#[]⟩, .string ⟨#[]⟩])).run Try.prog W = .ok (.bool (zeroC k c s a b o v)) W := by
  rw [run_eql_struct, eq_cmd]
  rfl
set_option maxRecDepth 4000 in
set_option maxHeartbeats 4000000 in
theorem bare_fun (k c s : Int) (a b o v : ByteArray) (w : World) : Calls Try.prog 31 #[.agg #[.int .i64 k, .int .i64 c, .int .i64 s, .string a, .string b, .string o, .string v]] w fun e w' => e = .returned (.agg #[.int .i64 k, .int .i64 c, .int .i64 s, .string a, .string (bareE k b), .string (bareO k o), .string (bareV k v)]) ∧ Below w.heap.size w w' := by
  have hcase : (k = 2 ∧ (k == 2) = true) ∨ (k = 4 ∧ (k == 2) = false ∧ (k == 4) = true) ∨ (k = 5 ∧ (k == 2) = false ∧ (k == 4) = false ∧ (k == 5) = true) ∨ ((¬ k = 2 ∧ ¬ k = 4 ∧ ¬ k = 5) ∧ (k == 2) = false ∧ (k == 4) = false ∧ (k == 5) = false) := by
    simp only [beq_iff_eq, beq_eq_false_iff_ne]; omega
  rcases hcase with ⟨hk, e2⟩ | ⟨hk, e2, e4⟩ | ⟨hk, e2, e4, e5⟩ | ⟨⟨h2, h4, h5⟩, e2, e4, e5⟩
  · have h1 : bareE k b = ⟨#[]⟩ := if_neg (by omega)
    have h2 : bareO k o = ⟨#[]⟩ := if_neg (by omega)
    have h3 : bareV k v = v := if_pos (by omega)
    rw [h1, h2, h3]
    clear h1 h2 h3 hk
    go_enter Try.func31, Try.ntmps31
    go_wp2_with fail
    exact bodyPost_ret (v := .agg #[.int .i64 k, .int .i64 c, .int .i64 s, .string a, .string ⟨#[]⟩, .string ⟨#[]⟩, .string v]) (by simp [results, Try.results31, go_sem]) rfl ⟨rfl, by go_grown⟩
  · have h1 : bareE k b = ⟨#[]⟩ := if_neg (by omega)
    have h2 : bareO k o = o := if_pos (by omega)
    have h3 : bareV k v = v := if_pos (by omega)
    rw [h1, h2, h3]
    clear h1 h2 h3 hk
    go_enter Try.func31, Try.ntmps31
    go_upto_region 6 with (fail)
    go_region
    go_wp2_with fail
    exact bodyPost_ret (v := .agg #[.int .i64 k, .int .i64 c, .int .i64 s, .string a, .string ⟨#[]⟩, .string o, .string v]) (by simp [results, Try.results31, go_sem]) rfl ⟨rfl, by go_grown⟩
  · have h1 : bareE k b = b := if_pos (by omega)
    have h2 : bareO k o = ⟨#[]⟩ := if_neg (by omega)
    have h3 : bareV k v = ⟨#[]⟩ := if_neg (by omega)
    rw [h1, h2, h3]
    clear h1 h2 h3 hk
    go_enter Try.func31, Try.ntmps31
    go_wp2_with fail
    exact bodyPost_ret (v := .agg #[.int .i64 k, .int .i64 c, .int .i64 s, .string a, .string b, .string ⟨#[]⟩, .string ⟨#[]⟩]) (by simp [results, Try.results31, go_sem]) rfl ⟨rfl, by go_grown⟩
  · have h1' : bareE k b = ⟨#[]⟩ := if_neg (by omega)
    have h2' : bareO k o = ⟨#[]⟩ := if_neg (by omega)
    have h3' : bareV k v = ⟨#[]⟩ := if_neg (by omega)
    rw [h1', h2', h3']
    clear h1' h2' h3' h2 h4 h5
    go_enter Try.func31, Try.ntmps31
    go_wp2_with fail
    exact bodyPost_ret (v := .agg #[.int .i64 k, .int .i64 c, .int .i64 s, .string a, .string ⟨#[]⟩, .string ⟨#[]⟩, .string ⟨#[]⟩]) (by simp [results, Try.results31, go_sem]) rfl ⟨rfl, by go_grown⟩
theorem neq_cmd (k c s : Int) (a b o v b' o' v' : ByteArray) (W : World) : (binOp .neq 29 (.agg #[.int .i64 k, .int .i64 c, .int .i64 s, .string a, .string b, .string o, .string v]) (.agg #[.int .i64 k, .int .i64 c, .int .i64 s, .string a, .string b', .string o', .string v'])).run Try.prog W = .ok (.bool (!eqC a b o v b' o' v')) W := by
  rw [run_neq_struct, eq_cmd]
  simp [eqC]
theorem eql_cmd (k c s : Int) (a b o v b' o' v' : ByteArray) (W : World) : (binOp .eql 29 (.agg #[.int .i64 k, .int .i64 c, .int .i64 s, .string a, .string b, .string o, .string v]) (.agg #[.int .i64 k, .int .i64 c, .int .i64 s, .string a, .string b', .string o', .string v'])).run Try.prog W = .ok (.bool (eqC a b o v b' o' v')) W := by
  rw [run_eql_struct, eq_cmd]
  simp [eqC]
theorem long_cases (a b o v : ByteArray) : ((16 : Int) < a.size ∧ longB a b o v = true) ∨ (¬ (16 : Int) < a.size ∧ (16 : Int) < b.size ∧ longB a b o v = true) ∨ (¬ (16 : Int) < a.size ∧ ¬ (16 : Int) < b.size ∧ (64 : Int) < o.size ∧ longB a b o v = true) ∨
    (¬ (16 : Int) < a.size ∧ ¬ (16 : Int) < b.size ∧ ¬ (64 : Int) < o.size ∧ (64 : Int) < v.size ∧ longB a b o v = true) ∨ (¬ (16 : Int) < a.size ∧ ¬ (16 : Int) < b.size ∧ ¬ (64 : Int) < o.size ∧ ¬ (64 : Int) < v.size ∧ longB a b o v = false) := by
  unfold longB
  by_cases h1 : (16 : Int) < a.size
  · exact .inl ⟨h1, by simp [h1]⟩
  by_cases h2 : (16 : Int) < b.size
  · exact .inr (.inl ⟨h1, h2, by simp [h2]⟩)
  by_cases h3 : (64 : Int) < o.size
  · exact .inr (.inr (.inl ⟨h1, h2, h3, by simp [h3]⟩))
  by_cases h4 : (64 : Int) < v.size
  · exact .inr (.inr (.inr (.inl ⟨h1, h2, h3, h4, by simp [h4]⟩)))
  · exact .inr (.inr (.inr (.inr ⟨h1, h2, h3, h4, by simp [h1, h2, h3, h4]⟩)))
set_option maxRecDepth 4000 in
set_option maxHeartbeats 4000000 in
theorem right_cmd (k c s : Int) (a b o v : ByteArray) (w : World) : Calls Try.prog 23 #[.agg #[.int .i64 k, .int .i64 c, .int .i64 s, .string a, .string b, .string o, .string v]] w fun e w' => e = .returned (.bool (rightA k c s a b o v)) ∧ Below w.heap.size w w' := by
  have hq := eql_zero k c s a b o v
  have kb := bare_fun k c s a b o v
  have hq2 := neq_cmd k c s a b o v (bareE k b) (bareO k o) (bareV k v)
  have hR := Lib.hid (show rightA k c s a b o v = (zeroC k c s a b o v || (((decide (1 ≤ k) && decide (k ≤ 5)) && ((decide (1 ≤ c) && decide (c ≤ 8)) && (decide (1 ≤ s) && decide (s ≤ 1099511627776)))) && (eqC a b o v (bareE k b) (bareO k o) (bareV k v) && (!longB a b o v && (!decide (a.toList = []) || k == 5))))) from rfl)
  generalize rightA k c s a b o v = R at hR ⊢
  generalize zeroC k c s a b o v = z at hq hR
  cases z
  case true =>
    go_enter Try.func23, Try.ntmps23
    go_wp2_with fail
    go_ret
    exact ⟨ret_bool (by rw [hR.out]; rfl), by go_grown⟩
  generalize eqC a b o v (bareE k b) (bareO k o) (bareV k v) = E at hq2 hR
  generalize bareE k b = b', bareO k o = o', bareV k v = v' at kb hq2
  have KB := Lib.hid kb; clear kb
  have h1 := fun W => within5_any k 5 W
  have h2 := fun W => within5_any c 8 W
  have h3 := fun W => within5_any s 1099511627776 W
  obtain ⟨p, hp⟩ : ∃ p : Bool, p = (decide (1 ≤ k) && decide (k ≤ 5)) := ⟨_, rfl⟩
  obtain ⟨p2, hp2⟩ : ∃ p : Bool, p = (decide (1 ≤ c) && decide (c ≤ 8)) := ⟨_, rfl⟩
  obtain ⟨p3, hp3⟩ : ∃ p : Bool, p = (decide (1 ≤ s) && decide (s ≤ 1099511627776)) := ⟨_, rfl⟩
  rw [← hp] at h1 hR
  rw [← hp2] at h2 hR
  rw [← hp3] at h3 hR
  have K1 := Lib.hid h1; have K2 := Lib.hid h2; have K3 := Lib.hid h3
  clear h1 h2 h3 hp hp2 hp3
  have hcase : p = false ∨ (p = true ∧ p2 = false) ∨ (p = true ∧ p2 = true ∧ p3 = false) ∨ (p = true ∧ p2 = true ∧ p3 = true ∧ E = false) ∨ (p = true ∧ p2 = true ∧ p3 = true ∧ E = true) := by
    cases p <;> cases p2 <;> cases p3 <;> cases E <;> simp
  rcases hcase with rfl | ⟨rfl, rfl⟩ | ⟨rfl, rfl, rfl⟩ | ⟨rfl, rfl, rfl, rfl⟩ | ⟨rfl, rfl, rfl, rfl⟩
  all_goals
    go_enter Try.func23, Try.ntmps23
    go_upto_region 3 with (fail)
    clear hq
    go_name_world W hW
    have hX : Holds W w.heap.size 29 [.int .i64 k, .int .i64 c, .int .i64 s, .string a, .string b, .string o, .string v] := by rw [← hW]; exact holds_alloc w _ _
    have HB : Below w.heap.size w W := by rw [← hW]; go_grown
    clear hW
    have x0 := fun d os => hX.grown d os 0
    have x1 := fun d os => hX.grown d os 1
    have x2 := fun d os => hX.grown d os 2
    have x3 := fun d os => hX.grown d os 3
    have x4 := fun d os => hX.grown d os 4
    have x5 := fun d os => hX.grown d os 5
    have x6 := fun d os => hX.grown d os 6
    simp only [List.getElem?_cons_zero, List.getElem?_cons_succ] at x0 x1 x2 x3 x4 x5 x6
    refine wp_region_quiet_below (by kernel_rfl) (by kernel_rfl) ?_
    repeat go_big_quiet_step (first
      | (go_at_call 30; with_reducible exact calls_regrown fun W _ => K1.out W)
      | (go_at_call 30; with_reducible exact calls_regrown fun W _ => K2.out W)
      | (go_at_call 30; with_reducible exact calls_regrown fun W _ => K3.out W)
      | (go_at_call 31; with_reducible exact calls_regrown fun W _ => KB.out W))
    refine wpQuiet_nil ?_
    intro w2 hw'
    have hb2 := below_of_regrown hw'
    have HB2 := Lib.hid (below_next HB hb2)
    have hX2 := hX.below hb2 hX.lt
    clear hw' x0 x1 x2 x3 x4 x5 x6
    have x0 := hX2.cell 0
    have x3 := hX2.cell 3
    have x4 := hX2.cell 4
    have x5 := hX2.cell 5
    have x6 := hX2.cell 6
    simp only [List.getElem?_cons_zero, List.getElem?_cons_succ] at x0 x3 x4 x5 x6
    clear hX hX2 hb2 HB hq2
  · go_wp2_with fail
    go_ret
    exact ⟨ret_bool (by rw [hR.out]; simp), HB2.out⟩
  · go_wp2_with fail
    go_ret
    exact ⟨ret_bool (by rw [hR.out]; simp), HB2.out⟩
  · go_wp2_with fail
    go_ret
    exact ⟨ret_bool (by rw [hR.out]; simp), HB2.out⟩
  · go_wp2_with fail
    go_ret
    exact ⟨ret_bool (by rw [hR.out]; simp), HB2.out⟩
  · rcases long_cases a b o v with ⟨h1, hl⟩ | ⟨h1, h2, hl⟩ | ⟨h1, h2, h3, hl⟩ | ⟨h1, h2, h3, h4, hl⟩ | ⟨h1, h2, h3, h4, hl⟩
    all_goals
      rw [hl] at hR
      clear hl
    case inr.inr.inr.inr =>
      go_wp2_with fail
      all_goals
        go_ret
        exact ⟨ret_bool (by rw [hR.out]; simp [*]), HB2.out⟩
    all_goals
      go_wp2_with fail
      go_ret
      exact ⟨ret_bool (by rw [hR.out]; simp), HB2.out⟩
set_option maxRecDepth 4000 in
set_option maxHeartbeats 4000000 in
theorem dright_cmd (k c s : Int) (a b o v : ByteArray) (w : World) : Calls Try.prog 28 #[.agg #[.int .i64 k, .int .i64 c, .int .i64 s, .string a, .string b, .string o, .string v]] w fun e w' => e = .returned (.bool (rightA k c s a b o v)) ∧ Below w.heap.size w w' := by
  have hq := eql_zero k c s a b o v
  have hR := Lib.hid (show rightA k c s a b o v = (zeroC k c s a b o v || (((decide (1 ≤ k) && decide (k ≤ 5)) && ((decide (1 ≤ c) && decide (c ≤ 8)) && (decide (1 ≤ s) && decide (s ≤ 1099511627776)))) && (eqC a b o v (bareE k b) (bareO k o) (bareV k v) && (!longB a b o v && (!decide (a.toList = []) || k == 5))))) from rfl)
  generalize rightA k c s a b o v = R at hR ⊢
  generalize zeroC k c s a b o v = z at hq hR
  cases z
  case true =>
    go_enter Try.func28, Try.ntmps28
    go_wp2_with fail
    go_ret
    exact ⟨ret_bool (by rw [hR.out]; rfl), by go_grown⟩
  have hp : (k < 1 ∧ ((decide (1 ≤ k) && decide (k ≤ 5)) && ((decide (1 ≤ c) && decide (c ≤ 8)) && (decide (1 ≤ s) && decide (s ≤ 1099511627776)))) = false) ∨ (¬ k < 1 ∧ 5 < k ∧ ((decide (1 ≤ k) && decide (k ≤ 5)) && ((decide (1 ≤ c) && decide (c ≤ 8)) && (decide (1 ≤ s) && decide (s ≤ 1099511627776)))) = false) ∨ (¬ k < 1 ∧ ¬ 5 < k ∧ c < 1 ∧ ((decide (1 ≤ k) && decide (k ≤ 5)) && ((decide (1 ≤ c) && decide (c ≤ 8)) && (decide (1 ≤ s) && decide (s ≤ 1099511627776)))) = false) ∨ (¬ k < 1 ∧ ¬ 5 < k ∧ ¬ c < 1 ∧ 8 < c ∧ ((decide (1 ≤ k) && decide (k ≤ 5)) && ((decide (1 ≤ c) && decide (c ≤ 8)) && (decide (1 ≤ s) && decide (s ≤ 1099511627776)))) = false) ∨ (¬ k < 1 ∧ ¬ 5 < k ∧ ¬ c < 1 ∧ ¬ 8 < c ∧ s < 1 ∧ ((decide (1 ≤ k) && decide (k ≤ 5)) && ((decide (1 ≤ c) && decide (c ≤ 8)) && (decide (1 ≤ s) && decide (s ≤ 1099511627776)))) = false) ∨ (¬ k < 1 ∧ ¬ 5 < k ∧ ¬ c < 1 ∧ ¬ 8 < c ∧ ¬ s < 1 ∧ 1099511627776 < s ∧ ((decide (1 ≤ k) && decide (k ≤ 5)) && ((decide (1 ≤ c) && decide (c ≤ 8)) && (decide (1 ≤ s) && decide (s ≤ 1099511627776)))) = false) ∨ (¬ k < 1 ∧ ¬ 5 < k ∧ ¬ c < 1 ∧ ¬ 8 < c ∧ ¬ s < 1 ∧ ¬ 1099511627776 < s ∧ ((decide (1 ≤ k) && decide (k ≤ 5)) && ((decide (1 ≤ c) && decide (c ≤ 8)) && (decide (1 ≤ s) && decide (s ≤ 1099511627776)))) = true) := by
    simp only [Bool.and_eq_false_iff, decide_eq_false_iff_not, Bool.and_eq_true, decide_eq_true_iff]; omega
  rcases hp with ⟨g0, hp⟩ | ⟨g0, g1, hp⟩ | ⟨g0, g1, g2, hp⟩ | ⟨g0, g1, g2, g3, hp⟩ | ⟨g0, g1, g2, g3, g4, hp⟩ | ⟨g0, g1, g2, g3, g4, g5, hp⟩ | ⟨g0, g1, g2, g3, g4, g5, hp⟩
  · rw [hp] at hR
    clear hp
    go_enter Try.func28, Try.ntmps28
    go_wp2_with fail
    go_ret
    exact ⟨ret_bool (by rw [hR.out]; simp), by go_grown⟩
  · rw [hp] at hR
    clear hp
    go_enter Try.func28, Try.ntmps28
    go_wp2_with fail
    go_ret
    exact ⟨ret_bool (by rw [hR.out]; simp), by go_grown⟩
  · rw [hp] at hR
    clear hp
    go_enter Try.func28, Try.ntmps28
    go_wp2_with fail
    go_ret
    exact ⟨ret_bool (by rw [hR.out]; simp), by go_grown⟩
  · rw [hp] at hR
    clear hp
    go_enter Try.func28, Try.ntmps28
    go_wp2_with fail
    go_ret
    exact ⟨ret_bool (by rw [hR.out]; simp), by go_grown⟩
  · rw [hp] at hR
    clear hp
    go_enter Try.func28, Try.ntmps28
    go_wp2_with fail
    go_ret
    exact ⟨ret_bool (by rw [hR.out]; simp), by go_grown⟩
  · rw [hp] at hR
    clear hp
    go_enter Try.func28, Try.ntmps28
    go_wp2_with fail
    go_ret
    exact ⟨ret_bool (by rw [hR.out]; simp), by go_grown⟩
  · rw [hp] at hR
    clear hp
    rcases long_cases a b o v with ⟨h1, hl⟩ | ⟨h1, h2, hl⟩ | ⟨h1, h2, h3, hl⟩ | ⟨h1, h2, h3, h4, hl⟩ | ⟨h1, h2, h3, h4, hl⟩
    all_goals
      rw [hl] at hR
      clear hl
    case inr.inr.inr.inr =>
      have hcase : (k = 2 ∧ (k == 2) = true) ∨ (k = 4 ∧ (k == 2) = false ∧ (k == 4) = true) ∨ (k = 5 ∧ (k == 2) = false ∧ (k == 4) = false ∧ (k == 5) = true) ∨ ((¬ k = 2 ∧ ¬ k = 4 ∧ ¬ k = 5) ∧ (k == 2) = false ∧ (k == 4) = false ∧ (k == 5) = false) := by
        simp only [beq_iff_eq, beq_eq_false_iff_ne]; omega
      rcases hcase with ⟨hk, e2⟩ | ⟨hk, e2, e4⟩ | ⟨hk, e2, e4, e5⟩ | ⟨⟨h2, h4, h5⟩, e2, e4, e5⟩
      · have h1' : bareE k b = ⟨#[]⟩ := if_neg (by omega)
        have h2' : bareO k o = ⟨#[]⟩ := if_neg (by omega)
        have h3' : bareV k v = v := if_pos (by omega)
        rw [h1', h2', h3', show (k == 5) = false from by simp; omega] at hR
        have e5 : (k == 5) = false := by simp; omega
        clear h1' h2' h3' hk
        have hq2 := eql_cmd k c s a b o v ⟨#[]⟩ ⟨#[]⟩ v
        generalize eqC a b o v ⟨#[]⟩ ⟨#[]⟩ v = E at hq2 hR
        cases E
        all_goals
          go_enter Try.func28, Try.ntmps28
          go_wp2_with fail
          all_goals
            go_ret
            exact ⟨ret_bool (by rw [hR.out]; simp [*] <;> (cases a.toList <;> simp)), by go_grown⟩
      · have h1' : bareE k b = ⟨#[]⟩ := if_neg (by omega)
        have h2' : bareO k o = o := if_pos (by omega)
        have h3' : bareV k v = v := if_pos (by omega)
        rw [h1', h2', h3', show (k == 5) = false from by simp; omega] at hR
        have e5 : (k == 5) = false := by simp; omega
        clear h1' h2' h3' hk
        have hq2 := eql_cmd k c s a b o v ⟨#[]⟩ o v
        generalize eqC a b o v ⟨#[]⟩ o v = E at hq2 hR
        cases E
        all_goals
          go_enter Try.func28, Try.ntmps28
          go_upto_region 10 with (fail)
          go_region
          go_wp2_with fail
          all_goals
            go_ret
            exact ⟨ret_bool (by rw [hR.out]; simp [*] <;> (cases a.toList <;> simp)), by go_grown⟩
      · have h1' : bareE k b = b := if_pos (by omega)
        have h2' : bareO k o = ⟨#[]⟩ := if_neg (by omega)
        have h3' : bareV k v = ⟨#[]⟩ := if_neg (by omega)
        rw [h1', h2', h3', e5] at hR
        clear h1' h2' h3' hk
        have hq2 := eql_cmd k c s a b o v b ⟨#[]⟩ ⟨#[]⟩
        generalize eqC a b o v b ⟨#[]⟩ ⟨#[]⟩ = E at hq2 hR
        cases E
        all_goals
          go_enter Try.func28, Try.ntmps28
          go_wp2_with fail
          all_goals
            go_ret
            exact ⟨ret_bool (by rw [hR.out]; simp [*] <;> (cases a.toList <;> simp)), by go_grown⟩
      · have h1' : bareE k b = ⟨#[]⟩ := if_neg (by omega)
        have h2' : bareO k o = ⟨#[]⟩ := if_neg (by omega)
        have h3' : bareV k v = ⟨#[]⟩ := if_neg (by omega)
        rw [h1', h2', h3', e5] at hR
        clear h1' h2' h3' h2 h4 h5
        have hq2 := eql_cmd k c s a b o v ⟨#[]⟩ ⟨#[]⟩ ⟨#[]⟩
        generalize eqC a b o v ⟨#[]⟩ ⟨#[]⟩ ⟨#[]⟩ = E at hq2 hR
        cases E
        all_goals
          go_enter Try.func28, Try.ntmps28
          go_wp2_with fail
          all_goals
            go_ret
            exact ⟨ret_bool (by rw [hR.out]; simp [*] <;> (cases a.toList <;> simp)), by go_grown⟩
    all_goals
      go_enter Try.func28, Try.ntmps28
      go_wp2_with fail
      go_ret
      exact ⟨ret_bool (by rw [hR.out]; simp), by go_grown⟩
def rightI (r s : Int) : Bool := decide (0 ≤ r) && (decide (r < 7) && (decide (1 ≤ s) && decide (s ≤ 1073741824)))
theorem rightI_cases (r s : Int) : (¬ 0 ≤ r ∧ rightI r s = false) ∨ (0 ≤ r ∧ ¬ r < 7 ∧ rightI r s = false) ∨ (0 ≤ r ∧ r < 7 ∧ ¬ 1 ≤ s ∧ rightI r s = false) ∨ (0 ≤ r ∧ r < 7 ∧ 1 ≤ s ∧ ¬ s ≤ 1073741824 ∧ rightI r s = false) ∨ (0 ≤ r ∧ r < 7 ∧ 1 ≤ s ∧ s ≤ 1073741824 ∧ rightI r s = true) := by
  unfold rightI
  by_cases h1 : 0 ≤ r
  · by_cases h2 : r < 7
    · by_cases h3 : 1 ≤ s
      · by_cases h4 : s ≤ 1073741824
        · exact .inr (.inr (.inr (.inr ⟨h1, h2, h3, h4, by simp [h1, h2, h3, h4]⟩)))
        · exact .inr (.inr (.inr (.inl ⟨h1, h2, h3, h4, by simp [h4]⟩)))
      · exact .inr (.inr (.inl ⟨h1, h2, h3, by simp [h3]⟩))
    · exact .inr (.inl ⟨h1, h2, by simp [h2]⟩)
  · exact .inl ⟨h1, by simp [h1]⟩
set_option maxRecDepth 4000 in
set_option maxHeartbeats 4000000 in
theorem right_inst (r s : Int) (w : World) : Calls Try.prog 18 #[.agg #[.int .i64 r, .int .i64 s]] w fun e w' => e = .returned (.bool (rightI r s)) ∧ Below w.heap.size w w' := by
  rcases rightI_cases r s with ⟨h1, hb⟩ | ⟨h1, h2, hb⟩ | ⟨h1, h2, h3, hb⟩ | ⟨h1, h2, h3, h4, hb⟩ | ⟨h1, h2, h3, h4, hb⟩
  all_goals
    rw [hb]
    clear hb
    go_enter Try.func18, Try.ntmps18
    go_wp2_with fail
    go_ret
    exact ⟨rfl, by go_grown⟩
set_option maxRecDepth 4000 in
set_option maxHeartbeats 4000000 in
theorem dright_inst (r s : Int) (w : World) : Calls Try.prog 27 #[.agg #[.int .i64 r, .int .i64 s]] w fun e w' => e = .returned (.bool (rightI r s)) ∧ Below w.heap.size w w' := by
  rcases rightI_cases r s with ⟨h1, hb⟩ | ⟨h1, h2, hb⟩ | ⟨h1, h2, h3, hb⟩ | ⟨h1, h2, h3, h4, hb⟩ | ⟨h1, h2, h3, h4, hb⟩
  all_goals
    rw [hb]
    clear hb
    go_enter Try.func27, Try.ntmps27
    go_wp2_with fail
    go_ret
    exact ⟨rfl, by go_grown⟩
end Go.Proofs.Ytleagecocffihaa
