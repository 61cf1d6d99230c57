/-
  The asks of chapter 14's laws: a list of them that comes in; light.
-/
import Derived.Test.YtleagecocffihaaIfRunW
import Derived.Test.YtleagecocffihaaFits
namespace Go.Proofs.Ytleagecocffihaa
open Go.RowKit Go.Maps
set_option linter.unusedVariables false
set_option linter.unusedSimpArgs false

theorem IsRows.spot {w : World} {a : Option Addr} {len n : Nat} {V : Nat → List Value} (h : IsRows w a len n V) (h0 : 0 < len) : ∃ b off, a = some ⟨b, off, none⟩ ∧ b < w.heap.size := by
  obtain ⟨b, off, ha, hlt, _⟩ := h.2.2 h0
  exact ⟨b, off, ha, hlt⟩
theorem IsRows.at {w W : World} {b off len n : Nat} {V : Nat → List Value} (h : IsRows w (some ⟨b, off, none⟩) len n V) (hbl : Below w.heap.size w W) {k : Nat} (hk : k < len) (j : Nat) (hj : j < n) : W.cell? ⟨b, off + k * n + j, none⟩ = (V k)[j]? := by
  obtain ⟨b', off', ha, hlt, hc⟩ := h.2.2 (by omega)
  simp only [Option.some.injEq, Addr.mk.injEq] at ha
  obtain ⟨rfl, rfl, _⟩ := ha
  rw [hbl.cell (p := ⟨b, _, none⟩) hlt]
  exact hc k hk j hj
theorem IsRows.range {w W : World} {b off len n : Nat} {V : Nat → List Value} (h : IsRows w (some ⟨b, off, none⟩) len n V) (hbl : Below w.heap.size w W) {k : Nat} (hk : k < len) : W.rangeAt b (off + k * n) (V k) := fun j v hv => by
  have hj : j < n := by have := (List.getElem?_eq_some_iff.1 hv).1; rw [h.2.1 k hk] at this; exact this
  rw [h.at hbl hk j hj]; exact hv
theorem IsRows.cong {w : World} {a : Option Addr} {len n : Nat} {V V' : Nat → List Value} (h : IsRows w a len n V) (hv : ∀ i, i < len → V i = V' i) : IsRows w a len n V' :=
  ⟨h.1, fun i hi => by rw [← hv i hi]; exact h.2.1 i hi, fun h0 => by obtain ⟨b, off, ha, hlt, hc⟩ := h.2.2 h0; exact ⟨b, off, ha, hlt, fun i hi j hj => by rw [← hv i hi]; exact hc i hi j hj⟩⟩
theorem IsRows.less {w : World} {a : Option Addr} {len n : Nat} {V : Nat → List Value} (h : IsRows w a len n V) {k : Nat} (hk : k ≤ len) : IsRows w a k n V :=
  ⟨Nat.le_trans hk h.1, fun i hi => h.2.1 i (by omega), fun h0 => by obtain ⟨b, off, ha, hlt, hc⟩ := h.2.2 (by omega); exact ⟨b, off, ha, hlt, fun i hi => hc i (by omega)⟩⟩

structure Ask where
  k : Int
  q : Int
  r : Int
  s : Int
  c : Cm
  u : Nat → Int
def Ask.cells (x : Ask) : List Value := [.int .i64 x.k, .int .i64 x.q, .int .i64 x.r, .int .i64 x.s, .int .i64 x.c.k, .int .i64 x.c.c, .int .i64 x.c.s, .string x.c.a, .string x.c.b, .string x.c.o, .string x.c.v, .int .i64 (x.u 0), .int .i64 (x.u 1), .int .i64 (x.u 2), .int .i64 (x.u 3), .int .i64 (x.u 4), .int .i64 (x.u 5), .int .i64 (x.u 6)]
def askLeaves : List Leaf := [.int .i64, .int .i64, .int .i64, .int .i64, .int .i64, .int .i64, .int .i64, .string, .string, .string, .string, .int .i64, .int .i64, .int .i64, .int .i64, .int .i64, .int .i64, .int .i64]
/-- A command's texts are no longer than a text can be. -/
def Cm.fits (c : Cm) : Prop := c.a.size ≤ reachBytes ∧ c.b.size ≤ reachBytes ∧ c.o.size ≤ reachBytes ∧ c.v.size ≤ reachBytes
structure Ask.Ok (x : Ask) : Prop where
  k : (Lit.int .i64 x.k).wf = true
  q : (Lit.int .i64 x.q).wf = true
  r : (Lit.int .i64 x.r).wf = true
  s : (Lit.int .i64 x.s).wf = true
  c : x.c.fits
theorem ask_of {l : List Value} (h : AllOk askLeaves l) (hf : Fit reachBytes l) : ∃ x : Ask, l = x.cells ∧ x.Ok := by
  unfold askLeaves at h
  obtain ⟨_, _, rfl, ⟨k, rfl, wk⟩, h0⟩ := h.cons
  obtain ⟨_, _, rfl, ⟨q, rfl, wq⟩, h1⟩ := h0.cons
  obtain ⟨_, _, rfl, ⟨r, rfl, wr⟩, h2⟩ := h1.cons
  obtain ⟨_, _, rfl, ⟨s, rfl, ws⟩, h3⟩ := h2.cons
  obtain ⟨_, _, rfl, ⟨ck, rfl, _⟩, h4⟩ := h3.cons
  obtain ⟨_, _, rfl, ⟨cc, rfl, _⟩, h5⟩ := h4.cons
  obtain ⟨_, _, rfl, ⟨cs, rfl, _⟩, h6⟩ := h5.cons
  obtain ⟨_, _, rfl, ⟨ca, rfl, za⟩, h7⟩ := h6.cons
  obtain ⟨_, _, rfl, ⟨cb, rfl, zb⟩, h8⟩ := h7.cons
  obtain ⟨_, _, rfl, ⟨co, rfl, zo⟩, h9⟩ := h8.cons
  obtain ⟨_, _, rfl, ⟨cv, rfl, zv⟩, h10⟩ := h9.cons
  obtain ⟨_, _, rfl, ⟨u0, rfl, _⟩, h11⟩ := h10.cons
  obtain ⟨_, _, rfl, ⟨u1, rfl, _⟩, h12⟩ := h11.cons
  obtain ⟨_, _, rfl, ⟨u2, rfl, _⟩, h13⟩ := h12.cons
  obtain ⟨_, _, rfl, ⟨u3, rfl, _⟩, h14⟩ := h13.cons
  obtain ⟨_, _, rfl, ⟨u4, rfl, _⟩, h15⟩ := h14.cons
  obtain ⟨_, _, rfl, ⟨u5, rfl, _⟩, h16⟩ := h15.cons
  obtain ⟨_, _, rfl, ⟨u6, rfl, _⟩, h17⟩ := h16.cons
  obtain rfl := h17.nil
  exact ⟨⟨k, q, r, s, ⟨ck, cc, cs, ca, cb, co, cv⟩, fun i => match i with | 0 => u0 | 1 => u1 | 2 => u2 | 3 => u3 | 4 => u4 | 5 => u5 | _ => u6⟩, rfl, ⟨wk, wq, wr, ws, ⟨hf.at (i := 7) rfl, hf.at (i := 8) rfl, hf.at (i := 9) rfl, hf.at (i := 10) rfl⟩⟩⟩
def askZero : Ask := ⟨0, 0, 0, 0, ⟨0, 0, 0, ⟨#[]⟩, ⟨#[]⟩, ⟨#[]⟩, ⟨#[]⟩⟩, fun _ => 0⟩
theorem askZero_ok : askZero.Ok := ⟨rfl, rfl, rfl, rfl, ⟨Nat.zero_le _, Nat.zero_le _, Nat.zero_le _, Nat.zero_le _⟩⟩
theorem asks_at {len : Nat} {V : Nat → List Value} (h : ∀ i, i < len → AllOk askLeaves (V i) ∧ Fit reachBytes (V i)) : ∃ R : Nat → Ask, (∀ i, i < len → V i = (R i).cells) ∧ ∀ i, (R i).Ok := by
  have hx : ∀ i, ∃ s : Ask, (i < len → V i = s.cells) ∧ s.Ok := fun i => by
    by_cases hi : i < len
    · obtain ⟨s, hs, ho⟩ := ask_of (h i hi).1 (h i hi).2; exact ⟨s, fun _ => hs, ho⟩
    · exact ⟨askZero, fun h => absurd h hi, askZero_ok⟩
  exact ⟨fun i => Classical.choose (hx i), fun i => (Classical.choose_spec (hx i)).1, fun i => (Classical.choose_spec (hx i)).2⟩
theorem wf_in {k : Int} (h : (Lit.int .i64 k).wf = true) : -9223372036854775808 ≤ k ∧ k < 9223372036854775808 := by
  simp [Lit.wf, IntKind.min, IntKind.max, IntKind.signed, IntKind.bits] at h
  omega
def lightB (x : Cm) : Bool := decide ((x.a.size : Int) + x.b.size + x.o.size + x.v.size < 500)
set_option maxRecDepth 4000 in
set_option maxHeartbeats 1000000 in
theorem light_any (x : Cm) (w : World) (h : x.fits) : Calls Try.prog 16 #[.agg #[.int .i64 x.k, .int .i64 x.c, .int .i64 x.s, .string x.a, .string x.b, .string x.o, .string x.v]] w fun e w' => e = .returned (.bool (lightB x)) ∧ Below w.heap.size w w' := by
  obtain ⟨h1, h2, h3, h4⟩ := h
  unfold reachBytes at h1 h2 h3 h4
  have e1 : IntKind.i64.wrap ((x.a.size : Int) + x.b.size) = (x.a.size : Int) + x.b.size := IntWalk.i64_in _ (by omega)
  have e2 : IntKind.i64.wrap ((x.a.size : Int) + x.b.size + x.o.size) = (x.a.size : Int) + x.b.size + x.o.size := IntWalk.i64_in _ (by omega)
  have e3 : IntKind.i64.wrap ((x.a.size : Int) + x.b.size + x.o.size + x.v.size) = (x.a.size : Int) + x.b.size + x.o.size + x.v.size := IntWalk.i64_in _ (by omega)
  go_enter Try.func16, Try.ntmps16
  go_wp2_with fail
  all_goals
    go_ret
    exact ⟨ret_bool (by unfold lightB; first | rfl | (simp; done) | (simp; omega)), by go_grown⟩
end Go.Proofs.Ytleagecocffihaa
