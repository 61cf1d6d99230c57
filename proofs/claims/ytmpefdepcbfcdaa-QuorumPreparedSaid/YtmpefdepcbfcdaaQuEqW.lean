/-
  What was said is the same as itself.
-/
import Derived.Test.YtmpefdepcbfcdaaQuSizesW
namespace Go.Proofs.Ytmpefdepcbfcdaa
open Go.RowKit
set_option linter.unusedVariables false
set_option linter.unusedSimpArgs false

theorem eqDeps_self (d : Nat) (a0 a1 a2 a3 a4 a5 a6 : Int) (w : World) : (Op.equalIn (d + 2) 24 (.agg #[.int .i64 a0, .int .i64 a1, .int .i64 a2, .int .i64 a3, .int .i64 a4, .int .i64 a5, .int .i64 a6]) (.agg #[.int .i64 a0, .int .i64 a1, .int .i64 a2, .int .i64 a3, .int .i64 a4, .int .i64 a5, .int .i64 a6])).run Try.prog w = .ok true w := by
  have u3 := Try.underlying3
  have g3 := Try.isAgg3
  have z3 := Try.sizeOf3
  rw [show d + 2 = (d + 1) + 1 from rfl, Op.equalIn]
  simp only [Sem.run_bind, run_underlying Try.underlying24, Result.andThen_ok]
  simp only [Std.Legacy.Range.forIn_eq_forIn_range', Std.Legacy.Range.size, Nat.sub_zero, Nat.add_sub_cancel, Nat.div_one, List.range'_succ, List.range'_zero, List.forIn_cons, List.forIn_nil]
  go_simp
theorem eqAttr_self (d : Nat) (m : At) (w : World) : (Op.equalIn (d + 3) 26 (.agg #[.int .i64 m.q, .int .i64 (m.d 0), .int .i64 (m.d 1), .int .i64 (m.d 2), .int .i64 (m.d 3), .int .i64 (m.d 4), .int .i64 (m.d 5), .int .i64 (m.d 6)]) (.agg #[.int .i64 m.q, .int .i64 (m.d 0), .int .i64 (m.d 1), .int .i64 (m.d 2), .int .i64 (m.d 3), .int .i64 (m.d 4), .int .i64 (m.d 5), .int .i64 (m.d 6)])).run Try.prog w = .ok true w := by
  have hd := fun w => eqDeps_self d (m.d 0) (m.d 1) (m.d 2) (m.d 3) (m.d 4) (m.d 5) (m.d 6) w
  rw [show d + 3 = (d + 2) + 1 from rfl, run_equalIn_struct w (d + 2) 26 _ _ (by kernel_rfl) (by kernel_rfl)]
  go_simp
theorem eqBal_self (d : Nat) (a b : Int) (w : World) : (Op.equalIn (d + 2) 30 (.agg #[.int .i64 a, .int .i64 b]) (.agg #[.int .i64 a, .int .i64 b])).run Try.prog w = .ok true w := by
  rw [show d + 2 = (d + 1) + 1 from rfl, run_equalIn_struct w (d + 1) 30 _ _ (by kernel_rfl) (by kernel_rfl)]
  go_simp
theorem eqCmd_self (d : Nat) (k c s : Int) (a b o v : ByteArray) (w : World) : (Op.equalIn (d + 2) 32 (.agg #[.int .i64 k, .int .i64 c, .int .i64 s, .string a, .string b, .string o, .string v]) (.agg #[.int .i64 k, .int .i64 c, .int .i64 s, .string a, .string b, .string o, .string v])).run Try.prog w = .ok true w := by
  rw [show d + 2 = (d + 1) + 1 from rfl, run_equalIn_struct w (d + 1) 32 _ _ (by kernel_rfl) (by kernel_rfl)]
  go_simp
theorem eqCell_self (d : Nat) (m : Sd) (w : World) : (Op.equalIn (d + 4) 34 (.agg #[.int .i64 m.st, .int .i64 m.pe, .int .i64 m.pr, .int .i64 m.ve, .int .i64 m.vr, .int .i64 m.x.k, .int .i64 m.x.c, .int .i64 m.x.s, .string m.x.a, .string m.x.b, .string m.x.o, .string m.x.v, .int .i64 m.a.q, .int .i64 (m.a.d 0), .int .i64 (m.a.d 1), .int .i64 (m.a.d 2), .int .i64 (m.a.d 3), .int .i64 (m.a.d 4), .int .i64 (m.a.d 5), .int .i64 (m.a.d 6), .bool m.same]) (.agg #[.int .i64 m.st, .int .i64 m.pe, .int .i64 m.pr, .int .i64 m.ve, .int .i64 m.vr, .int .i64 m.x.k, .int .i64 m.x.c, .int .i64 m.x.s, .string m.x.a, .string m.x.b, .string m.x.o, .string m.x.v, .int .i64 m.a.q, .int .i64 (m.a.d 0), .int .i64 (m.a.d 1), .int .i64 (m.a.d 2), .int .i64 (m.a.d 3), .int .i64 (m.a.d 4), .int .i64 (m.a.d 5), .int .i64 (m.a.d 6), .bool m.same])).run Try.prog w = .ok true w := by
  have h1 : ∀ w, (Op.equalIn (d + 3) 30 (.agg #[.int .i64 m.pe, .int .i64 m.pr]) (.agg #[.int .i64 m.pe, .int .i64 m.pr])).run Try.prog w = .ok true w := fun w => eqBal_self (d + 1) m.pe m.pr w
  have h2 : ∀ w, (Op.equalIn (d + 3) 30 (.agg #[.int .i64 m.ve, .int .i64 m.vr]) (.agg #[.int .i64 m.ve, .int .i64 m.vr])).run Try.prog w = .ok true w := fun w => eqBal_self (d + 1) m.ve m.vr w
  have h3 : ∀ w, (Op.equalIn (d + 3) 32 (.agg #[.int .i64 m.x.k, .int .i64 m.x.c, .int .i64 m.x.s, .string m.x.a, .string m.x.b, .string m.x.o, .string m.x.v]) (.agg #[.int .i64 m.x.k, .int .i64 m.x.c, .int .i64 m.x.s, .string m.x.a, .string m.x.b, .string m.x.o, .string m.x.v])).run Try.prog w = .ok true w := fun w => eqCmd_self (d + 1) m.x.k m.x.c m.x.s m.x.a m.x.b m.x.o m.x.v w
  have h4 : ∀ w, (Op.equalIn (d + 3) 26 (.agg #[.int .i64 m.a.q, .int .i64 (m.a.d 0), .int .i64 (m.a.d 1), .int .i64 (m.a.d 2), .int .i64 (m.a.d 3), .int .i64 (m.a.d 4), .int .i64 (m.a.d 5), .int .i64 (m.a.d 6)]) (.agg #[.int .i64 m.a.q, .int .i64 (m.a.d 0), .int .i64 (m.a.d 1), .int .i64 (m.a.d 2), .int .i64 (m.a.d 3), .int .i64 (m.a.d 4), .int .i64 (m.a.d 5), .int .i64 (m.a.d 6)])).run Try.prog w = .ok true w := fun w => eqAttr_self d m.a w
  rw [show d + 4 = (d + 3) + 1 from rfl, run_equalIn_struct w (d + 3) 34 _ _ (by kernel_rfl) (by kernel_rfl)]
  go_simp
theorem eqSaid_self (d : Nat) (m : Sd) (w : World) : (Op.equalIn (d + 5) 36 (.agg #[.int .i64 m.r, .int .i64 m.st, .int .i64 m.pe, .int .i64 m.pr, .int .i64 m.ve, .int .i64 m.vr, .int .i64 m.x.k, .int .i64 m.x.c, .int .i64 m.x.s, .string m.x.a, .string m.x.b, .string m.x.o, .string m.x.v, .int .i64 m.a.q, .int .i64 (m.a.d 0), .int .i64 (m.a.d 1), .int .i64 (m.a.d 2), .int .i64 (m.a.d 3), .int .i64 (m.a.d 4), .int .i64 (m.a.d 5), .int .i64 (m.a.d 6), .bool m.same]) (.agg #[.int .i64 m.r, .int .i64 m.st, .int .i64 m.pe, .int .i64 m.pr, .int .i64 m.ve, .int .i64 m.vr, .int .i64 m.x.k, .int .i64 m.x.c, .int .i64 m.x.s, .string m.x.a, .string m.x.b, .string m.x.o, .string m.x.v, .int .i64 m.a.q, .int .i64 (m.a.d 0), .int .i64 (m.a.d 1), .int .i64 (m.a.d 2), .int .i64 (m.a.d 3), .int .i64 (m.a.d 4), .int .i64 (m.a.d 5), .int .i64 (m.a.d 6), .bool m.same])).run Try.prog w = .ok true w := by
  have h1 := eqCell_self d m
  rw [show d + 5 = (d + 4) + 1 from rfl, run_equalIn_struct w (d + 4) 36 _ _ (by kernel_rfl) (by kernel_rfl)]
  go_simp
theorem neq_sd_self (m : Sd) (w : World) : (binOp .neq 36 (.agg #[.int .i64 m.r, .int .i64 m.st, .int .i64 m.pe, .int .i64 m.pr, .int .i64 m.ve, .int .i64 m.vr, .int .i64 m.x.k, .int .i64 m.x.c, .int .i64 m.x.s, .string m.x.a, .string m.x.b, .string m.x.o, .string m.x.v, .int .i64 m.a.q, .int .i64 (m.a.d 0), .int .i64 (m.a.d 1), .int .i64 (m.a.d 2), .int .i64 (m.a.d 3), .int .i64 (m.a.d 4), .int .i64 (m.a.d 5), .int .i64 (m.a.d 6), .bool m.same]) (.agg #[.int .i64 m.r, .int .i64 m.st, .int .i64 m.pe, .int .i64 m.pr, .int .i64 m.ve, .int .i64 m.vr, .int .i64 m.x.k, .int .i64 m.x.c, .int .i64 m.x.s, .string m.x.a, .string m.x.b, .string m.x.o, .string m.x.v, .int .i64 m.a.q, .int .i64 (m.a.d 0), .int .i64 (m.a.d 1), .int .i64 (m.a.d 2), .int .i64 (m.a.d 3), .int .i64 (m.a.d 4), .int .i64 (m.a.d 5), .int .i64 (m.a.d 6), .bool m.same])).run Try.prog w = .ok (.bool false) w := by
  rw [run_neq_struct, show (10000 : Nat) = 9995 + 5 from rfl, eqSaid_self]
  rfl
end Go.Proofs.Ytmpefdepcbfcdaa
