/-
  The walks of quorum's small functions and of best.
-/
import Derived.Test.YtmpefdepcbfcdaaQuP
import Derived.Test.YtmpefdepcbfcdaaOwn
import Derived.Test.YtmpefdepcbfcdaaBook
import Derived.Deep.MidRow
import Derived.Deep.WholeRow
import Derived.Lib.ItoaWalk
namespace Go.Proofs.Ytmpefdepcbfcdaa
open Go.RowKit
set_option linter.unusedVariables false

theorem wf64 {n : Int} (h : (Lit.int .i64 n).wf = true) : -9223372036854775808 ≤ n ∧ n ≤ 9223372036854775807 := by
  simp [Lit.wf, IntKind.min, IntKind.max, IntKind.signed, IntKind.bits] at h
  omega
theorem holds_past {w : World} {g e : Nat} {L : List Value} (h : Holds w g e L) (o : Obj) : Holds (w.alloc o) g e L := by
  have := h.lt
  exact h.below (B := w.heap.size) ((Below.refl _ _).alloc (Nat.le_refl _) o) this
theorem holds_drew {w : World} {g e : Nat} {L : List Value} (h : Holds w g e L) : Holds w.drew g e L := h
theorem Touch.then {g : Nat} {w w1 w2 : World} (h : Touch g w w1) (h2 : Below w.heap.size w1 w2) : Touch g w w2 :=
  ⟨h2.os.trans h.os, h2.tape.trans h.tape, h2.output.trans h.output, Nat.le_trans h.size h2.size, fun k hk hne => (h2.block k hk).trans (h.block k hk hne)⟩
/-- A whole value into the block that was made last. -/
theorem wpList_store_new {P : Program} {ops : Array Oper} {rest : List Oper} {op : Oper} {a : Act} {Q : Exit → Act → World → Prop} (hgd : op.guard = none) (ty : TypeId) (x y : Operand) (ho : op.op = .store ty x y) (hd : op.dst = none)
    (w : World) (c cells : Array Value) (hx : a.eval x = .pointer (some ⟨w.heap.size, 0, none⟩)) (hy : a.eval y = .agg cells)
    (hi : (P.info? ty).map (·.size) = some cells.size) (hc : c.size = cells.size) (h1 : cells.all (·.oneCell') = true)
    (h : wpList P ops Q rest a (w.alloc (.cells cells ty))) : wpList P ops Q (op :: rest) a (w.alloc (.cells c ty)) :=
  wpList_plain hgd fun _ hK => by
    unfold Oper.wp execOp
    simp only [ho, hx, hy, Instr.storeAt, Instr.sureAddr, Sem.run_bind, Sem.run_pure, Result.andThen_ok, run_storeVar_new w ty c cells hi hc h1]
    refine hK _ _ ?_
    rw [hd]
    exact h
theorem wpList_store_at {P : Program} {ops : Array Oper} {rest : List Oper} {op : Oper} {a : Act} {Q : Exit → Act → World → Prop} (hgd : op.guard = none) (ty : TypeId) (x y : Operand) (ho : op.op = .store ty x y) (hd : op.dst = none)
    (w : World) (c cells : Array Value) (g : Nat) (hg : w.heap.size = g) (hx : a.eval x = .pointer (some ⟨g, 0, none⟩)) (hy : a.eval y = .agg cells)
    (hi : (P.info? ty).map (·.size) = some cells.size) (hc : c.size = cells.size) (h1 : cells.all (·.oneCell') = true)
    (h : wpList P ops Q rest a (w.alloc (.cells cells ty))) : wpList P ops Q (op :: rest) a (w.alloc (.cells c ty)) :=
  wpList_store_new hgd ty x y ho hd w c cells (by rw [hg]; exact hx) hy hi hc h1 h
theorem IsRows.spot {w : World} {a : Option Addr} {len n : Nat} {V : Nat → List Value} (h : IsRows w a len n V) (h0 : 0 < len) : ∃ b off, a = some ⟨b, off, none⟩ ∧ b < w.heap.size := by
  obtain ⟨b, off, ha, hlt, _⟩ := h.2.2 h0
  exact ⟨b, off, ha, hlt⟩
theorem IsRows.at {w W : World} {b off len n : Nat} {V : Nat → List Value} (h : IsRows w (some ⟨b, off, none⟩) len n V) (hbl : Below w.heap.size w W) {k : Nat} (hk : k < len) (j : Nat) (hj : j < n) : W.cell? ⟨b, off + k * n + j, none⟩ = (V k)[j]? := by
  obtain ⟨b', off', ha, hlt, hc⟩ := h.2.2 (by omega)
  simp only [Option.some.injEq, Addr.mk.injEq] at ha
  obtain ⟨rfl, rfl, _⟩ := ha
  rw [hbl.cell (p := ⟨b, _, none⟩) hlt]
  exact hc k hk j hj
theorem IsRows.range {w W : World} {b off len n : Nat} {V : Nat → List Value} (h : IsRows w (some ⟨b, off, none⟩) len n V) (hbl : Below w.heap.size w W) {k : Nat} (hk : k < len) : W.rangeAt b (off + k * n) (V k) := fun j v hv => by
  have hj : j < n := by have := (List.getElem?_eq_some_iff.1 hv).1; rw [h.2.1 k hk] at this; exact this
  rw [h.at hbl hk j hj]; exact hv
theorem IsRows.grown {w : World} {b off len n : Nat} {V : Nat → List Value} (h : IsRows w (some ⟨b, off, none⟩) len n V) (d : Nat) (os : Array Obj) {k : Nat} (hk : k < len) (j : Nat) (hj : j < n) : (Sort.grow (redrawn w d) os).cell? ⟨b, off + k * n + j, none⟩ = (V k)[j]? :=
  h.at (below_regrown w d os) hk j hj
theorem bestTo_succ (S : Nat → Sd) (st : Int) (k : Nat) : bestTo S st (k + 1) = if takes S st (bestTo S st k) k = true then (k : Int) else bestTo S st k := rfl
theorem Sd.cells_one (s : Sd) : s.cells.toArray.all (·.oneCell') = true := by
  simp [Sd.cells, Cm.cells, At.cells, Value.oneCell']
theorem below_any (e1 r1 e2 r2 : Int) (w : World) : Calls Try.prog 27 #[.agg #[.int .i64 e1, .int .i64 r1], .agg #[.int .i64 e2, .int .i64 r2]] w fun e w' => e = .returned (.bool (below e1 r1 e2 r2)) ∧ Below w.heap.size w w' := by
  have hcase : (e1 < e2 ∧ below e1 r1 e2 r2 = true) ∨ (¬ e1 < e2 ∧ (e1 == e2) = false ∧ below e1 r1 e2 r2 = false) ∨ (¬ e1 < e2 ∧ (e1 == e2) = true ∧ below e1 r1 e2 r2 = decide (r1 < r2)) := by
    unfold below
    by_cases h1 : e1 < e2
    · exact .inl ⟨h1, by simp [h1]⟩
    · by_cases h2 : e1 = e2
      · exact .inr (.inr ⟨h1, by simp [h2], by simp [h2]⟩)
      · exact .inr (.inl ⟨h1, by simp [h2], by simp [h1, h2]⟩)
  rcases hcase with ⟨h1, hb⟩ | ⟨h1, h2, hb⟩ | ⟨h1, h2, hb⟩
  all_goals
    rw [hb]
    clear hb
    go_enter Try.func27, Try.ntmps27
    go_wp2_with fail
    go_ret
    exact ⟨ret_bool (by simp [*]), by go_grown⟩
theorem slow_any (K : Nat) (w : World) (hK : K ≤ 1000) : Calls Try.prog 26 #[.int .i64 K] w fun e w' => e = .returned (.int .i64 ((K / 2 + 1 : Nat) : Int)) ∧ Below w.heap.size w w' := by
  go_enter Try.func26, Try.ntmps26
  go_wp2_with fail
  go_ret
  exact ⟨ret_int (by omega), by go_grown⟩
theorem fast_any (K : Nat) (w : World) (hK : K ≤ 1000) : Calls Try.prog 33 #[.int .i64 K] w fun e w' => e = .returned (.int .i64 ((K : Int) - 1)) ∧ Below w.heap.size w w' := by
  go_enter Try.func33, Try.ntmps33
  go_wp2_with fail
  go_ret
  exact ⟨ret_int (by omega), by go_grown⟩
theorem attr_any (k : Int) (w : World) : Calls Try.prog 12 #[.int .i64 k] w fun e w' => e = .returned (.agg (At.of k).cells.toArray) ∧ Below w.heap.size w w' := by
  go_enter Try.func12, Try.ntmps12
  go_wp2_with fail
  exact bodyPost_ret (v := .agg (At.of k).cells.toArray) (by simp [results, Try.results12, go_sem, At.of, At.cells]) rfl ⟨rfl, by go_grown⟩
set_option maxRecDepth 4000 in
set_option maxHeartbeats 2000000 in
theorem best_any (a : Option Addr) (len cap : Nat) (S : Nat → Sd) (st : Int) (w : World) (hS : IsRows w a len 22 fun i => (S i).cells) (hlc : len ≤ cap) (hst : -9223372036854775808 ≤ st ∧ st ≤ 9223372036854775807) :
    Calls Try.prog 38 #[.slice a len cap, .int .i64 st] w fun e w' => e = .returned (.int .i64 (bestTo S st len)) ∧ Below w.heap.size w w' := by
  have HV := Lib.hid hS
  have hm : len ≤ maxLen := hS.1
  unfold maxLen at hm
  clear hS
  go_enter Try.func38, Try.ntmps38
  go_wp2_with fail
  go_loopw [5, 10] (fun at' i wr => ∃ k : Nat, k ≤ len ∧ i = .int .i64 k ∧ at' = .int .i64 (bestTo S st k) ∧ Below w.heap.size w wr) (fun _ i _ => len - (intOf i).toNat)
  case atStart => exact ⟨0, by omega, rfl, rfl, by go_grown⟩
  case round =>
    obtain ⟨k, hk, rfl, rfl, hb⟩ := hrel
    have HB := Lib.hid hb; clear hb
    by_cases h1 : k < len
    · obtain ⟨b, off, rfl, hlt⟩ := HV.out.spot (by omega)
      have HR := Lib.hid (HV.out.range HB.out h1)
      go_upto_region 5 with (first
        | (refine wpList_load_mid rfl 36 _ rfl b (off + k * 22) rfl _ _ HR.out Try.underlying36 rfl (by kernel_rfl) ?_)
        | (refine wpList_store_new rfl 36 _ _ rfl rfl _ _ (S k).cells.toArray rfl rfl (by kernel_rfl) (by kernel_rfl) (Sd.cells_one _) ?_))
      go_name_world W hW
      have hbx : Holds W wr.heap.size 36 (S k).cells := by rw [← hW]; exact holds_alloc wr _ _
      have hB : Below w.heap.size w W := by rw [← hW]; exact HB.out.alloc HB.out.size _
      clear hW HB HR
      have b1 := fun d os => hbx.grown d os 1
      have b4 := fun d os => hbx.grown d os 4
      have b5 := fun d os => hbx.grown d os 5
      simp only [Sd.cells, List.getElem?_cons_zero, List.getElem?_cons_succ] at b1 b4 b5
      have hlt2 := bestTo_lt S st k
      have hbs := bestTo_succ S st k
      have HBS := Lib.hid hbs; clear hbs
      have HB := Lib.hid hB; clear hB
      generalize hbt : bestTo S st k = at' at hlt2 HBS ⊢
      clear hbt
      by_cases h2 : (S k).st = st
      · by_cases h3 : at' < 0
        · have e2 : ((S k).st == st) = true := by simp [h2]
          have ht : takes S st at' k = true := by simp [takes, h2, h3]
          rw [ht] at HBS
          clear ht
          generalize (S k).st = s1, (S k).ve = v1, (S k).vr = v2 at *
          refine wp_region_quiet_below (by kernel_rfl) (by kernel_rfl) ?_
          repeat go_big_quiet_step (fail)
          refine wpQuiet_nil ?_
          intro w5 hw'
          have HB := Lib.hid (below_next HB.out (below_of_regrown hw'))
          clear hw' b1 b4 b5
          go_wp2_with fail
          go_roundw
          case rel => exact ⟨k + 1, by omega, by go_num, by rw [HBS.out, if_pos rfl], HB.out⟩
          case measure => simp [intOf]; omega
        · obtain ⟨m, hm⟩ : ∃ m : Nat, at' = m := ⟨at'.toNat, by omega⟩
          subst hm
          have hmk : m < len := by omega
          have c4 := fun d os => HV.out.at (HB.out.trans ((below_regrown W d os).mono HB.out.size)) hmk 4 (by omega)
          have c5 := fun d os => HV.out.at (HB.out.trans ((below_regrown W d os).mono HB.out.size)) hmk 5 (by omega)
          simp only [Sd.cells, List.getElem?_cons_zero, List.getElem?_cons_succ] at c4 c5
          have e2 : ((S k).st == st) = true := by simp [h2]
          have ht : takes S st m k = below (S m).ve (S m).vr (S k).ve (S k).vr := by rw [takes, decide_eq_false h3]; simp [h2]
          rw [ht] at HBS
          clear ht h2
          have hbw := below_any (S m).ve (S m).vr (S k).ve (S k).vr
          generalize (S k).st = s1, (S k).ve = v1, (S k).vr = v2, (S m).ve = v3, (S m).vr = v4 at *
          generalize below v3 v4 v1 v2 = q at hbw HBS
          have HBW := Lib.hid hbw; clear hbw
          refine wp_region_quiet_below (by kernel_rfl) (by kernel_rfl) ?_
          repeat go_big_quiet_step (first | (go_at_call 27; with_reducible exact calls_regrown fun W _ => HBW.out W))
          refine wpQuiet_nil ?_
          intro w5 hw'
          have HB := Lib.hid (below_next HB.out (below_of_regrown hw'))
          clear hw' b1 b4 b5 c4 c5 HBW
          cases q
          all_goals
            go_wp2_with fail
            go_roundw
            case rel => exact ⟨k + 1, by omega, by go_num, by rw [HBS.out]; rfl, HB.out⟩
            case measure => simp [intOf]; omega
      · have e2 : ((S k).st == st) = false := by simp [h2]
        have ht : takes S st at' k = false := by simp [takes, h2]
        rw [ht] at HBS
        clear ht
        generalize (S k).st = s1, (S k).ve = v1, (S k).vr = v2 at *
        refine wp_region_quiet_below (by kernel_rfl) (by kernel_rfl) ?_
        repeat go_big_quiet_step (fail)
        refine wpQuiet_nil ?_
        intro w5 hw'
        have HB := Lib.hid (below_next HB.out (below_of_regrown hw'))
        clear hw' b1 b4 b5
        go_wp2_with fail
        go_roundw
        case rel => exact ⟨k + 1, by omega, by go_num, by rw [HBS.out]; rfl, HB.out⟩
        case measure => simp [intOf]; omega
    · have hkl : k = len := by omega
      subst hkl
      go_wp2_with fail
      go_ret
      exact ⟨rfl, HB.out⟩
end Go.Proofs.Ytmpefdepcbfcdaa
