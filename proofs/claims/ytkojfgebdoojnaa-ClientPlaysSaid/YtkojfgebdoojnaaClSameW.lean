/-
  Both clients' functions as one machine's.
-/
import Derived.Test.YtkojfgebdoojnaaClMachW
namespace Go.Proofs.Ytkojfgebdoojnaa
open Go.RowKit
set_option linter.unusedVariables false

structure Cl where
  id : Int
  seq : Int
  y : Cm
  waits : Bool
  tg : Int
  ticks : Int
def Cl.cells (s : Cl) : List Value := clientCells s.id s.seq s.y s.waits s.tg s.ticks
def Cl.takes (s : Cl) (x : Cm) (tg : Int) : Bool := !s.waits && (rightB x.k x.a x.b x.o x.v && (decide (0 ≤ tg) && decide (tg < 7)))
def Cl.call (s : Cl) (x : Cm) : Cm := ⟨x.k, s.id, s.seq + 1, x.a, x.b, x.o, x.v⟩
def Cl.given (s : Cl) (x : Cm) (tg : Int) : Cm := if s.takes x tg = true then s.call x else Cm.zero
def Cl.begun (s : Cl) (x : Cm) (tg : Int) : Cl := if s.takes x tg = true then ⟨s.id, s.seq + 1, s.call x, true, tg, 0⟩ else s
def Cl.hears (s : Cl) (c q : Int) : Bool := s.waits && (c == s.id && q == s.seq)
def Cl.told (s : Cl) (c q : Int) : Cl := if s.hears c q = true then ⟨s.id, s.seq, s.y, false, s.tg, s.ticks⟩ else s
def Cl.asks (s : Cl) : Bool := s.waits && decide ((s.ticks + 1) % 20 = 0)
def Cl.asked (s : Cl) : Cm := if s.asks = true then s.y else Cm.zero
def Cl.whom (s : Cl) (n : Int) : Int := if s.asks = true then (s.tg + 1) % n else 0
def Cl.ticked (s : Cl) (n : Int) : Cl := if s.waits = true then ⟨s.id, s.seq, s.y, true, if s.asks = true then (s.tg + 1) % n else s.tg, s.ticks + 1⟩ else s
/-- Its numbers are within bounds. -/
structure Cl.Ok (s : Cl) (m t : Int) : Prop where
  id : 1 ≤ s.id ∧ s.id ≤ 8
  seq : 0 ≤ s.seq ∧ s.seq ≤ m
  tg : 0 ≤ s.tg ∧ s.tg ≤ 9223372036854775806
  ticks : 0 ≤ s.ticks ∧ s.ticks ≤ t
theorem Cl.Ok.begun {s : Cl} {m t : Int} (h : s.Ok m t) (x : Cm) (tg : Int) (ht : 0 ≤ t) : (s.begun x tg).Ok (m + 1) t := by
  obtain ⟨h1, h2, h3, h4⟩ := h
  unfold Cl.begun
  split
  · rename_i hb
    have h5 : 0 ≤ tg ∧ tg < 7 := by simp [Cl.takes] at hb; exact hb.2.2
    exact ⟨h1, by simp only; omega, by simp only; omega, by simp only; omega⟩
  · exact ⟨h1, by omega, h3, h4⟩
theorem Cl.Ok.told {s : Cl} {m t : Int} (h : s.Ok m t) (c q : Int) : (s.told c q).Ok m t := by
  obtain ⟨h1, h2, h3, h4⟩ := h
  unfold Cl.told
  split
  · exact ⟨h1, h2, h3, h4⟩
  · exact ⟨h1, h2, h3, h4⟩
theorem Cl.Ok.ticked {s : Cl} {m t n : Int} (h : s.Ok m t) (hn : 1 ≤ n ∧ n ≤ 9223372036854775807) : (s.ticked n).Ok m (t + 1) := by
  obtain ⟨h1, h2, h3, h4⟩ := h
  unfold Cl.ticked
  have e1 := Int.emod_nonneg (s.tg + 1) (show n ≠ 0 by omega)
  have e2 := Int.emod_lt_of_pos (s.tg + 1) (show 0 < n by omega)
  split
  · refine ⟨h1, h2, ?_, by simp only; omega⟩
    simp only
    split
    · omega
    · exact h3
  · exact ⟨h1, h2, h3, by omega⟩
theorem Cl.Ok.mono {s : Cl} {m t m' t' : Int} (h : s.Ok m t) (hm : m ≤ m') (ht : t ≤ t') : s.Ok m' t' := by
  obtain ⟨h1, h2, h3, h4⟩ := h
  exact ⟨h1, by omega, h3, by omega⟩
theorem rightB_pos {k : Int} {a b o v : ByteArray} (h : rightB k a b o v = true) : (k == 0) = false := by
  unfold rightB at h
  simp only [Bool.and_eq_true, decide_eq_true_eq] at h
  simp only [beq_eq_false_iff_ne]
  omega
set_option maxHeartbeats 1000000 in
theorem begin_fun (g : Nat) (s : Cl) (x : Cm) (tg : Int) (w : World) (h : Holds w g 54 s.cells) (ho : s.Ok 100 100000) :
    Calls Try.prog 8 #[.pointer (some ⟨g, 0, none⟩), .agg #[.int .i64 x.k, .int .i64 x.c, .int .i64 x.s, .string x.a, .string x.b, .string x.o, .string x.v], .int .i64 tg] w fun e w' =>
      e = .returned (.tuple #[.agg (s.given x tg).cells.toArray, .bool (s.takes x tg)]) ∧ Holds w' g 54 (s.begun x tg).cells ∧ Touch g w w' := by
  have h1 := ho.id
  have h2 := ho.seq
  have hr := fun W => right_fun x.k s.id (s.seq + 1) x.a x.b x.o x.v W h1 (by omega)
  unfold Cl.given Cl.begun
  cases ht : s.takes x tg
  · rw [if_neg (by simp), if_neg (by simp)]
    cases hw : s.waits
    · have h0 : CAt w g s.id s.seq s.y false s.tg s.ticks := by rw [← hw]; exact h
      have hn : rightB x.k x.a x.b x.o x.v = false ∨ (rightB x.k x.a x.b x.o x.v = true ∧ (x.k == 0) = false ∧ tg < 0) ∨ (rightB x.k x.a x.b x.o x.v = true ∧ (x.k == 0) = false ∧ ¬ tg < 0 ∧ 7 ≤ tg) := by
        cases hrb : rightB x.k x.a x.b x.o x.v
        · exact .inl rfl
        · have hk := rightB_pos hrb
          simp [Cl.takes, hw, hrb] at ht
          by_cases h5 : tg < 0
          · exact .inr (.inl ⟨rfl, hk, h5⟩)
          · exact .inr (.inr ⟨rfl, hk, h5, ht (by omega)⟩)
      refine (begin_not g s.id s.seq s.y x s.tg s.ticks tg w h0 (by omega) _ hr hn).mono ?_
      rintro e w' ⟨rfl, hb⟩
      exact ⟨rfl, h.below hb h.lt, .of_below hb⟩
    · have h0 : CAt w g s.id s.seq s.y true s.tg s.ticks := by rw [← hw]; exact h
      refine (begin_waits g s.id s.seq s.y x s.tg s.ticks tg w h0 (by omega)).mono ?_
      rintro e w' ⟨rfl, hb⟩
      exact ⟨rfl, h.below hb h.lt, .of_below hb⟩
  · rw [if_pos rfl, if_pos rfl]
    simp [Cl.takes] at ht
    obtain ⟨hw, hrb, h5, h6⟩ := ht
    have h0 : CAt w g s.id s.seq s.y false s.tg s.ticks := by rw [← hw]; exact h
    rw [hrb] at hr
    have hk := rightB_pos hrb
    refine (begin_yes g s.id s.seq s.y x s.tg s.ticks tg w h0 (by omega) (by simpa using hk) ⟨h5, h6⟩ hr).mono ?_
    rintro e w' ⟨rfl, hc, ht⟩
    exact ⟨rfl, hc, ht⟩
theorem tell_fun (g : Nat) (s : Cl) (c q : Int) (r0 r1 r2 r3 r4 : Value) (w : World) (h : Holds w g 54 s.cells) :
    Calls Try.prog 10 #[.pointer (some ⟨g, 0, none⟩), .agg #[.int .i64 c, .int .i64 q, r0, r1, r2, r3, r4]] w fun e w' => e = .returned (.bool (s.hears c q)) ∧ Holds w' g 54 (s.told c q).cells ∧ Touch g w w' := by
  unfold Cl.told
  cases ht : s.hears c q
  · rw [if_neg (by simp)]
    have hn : s.waits = false ∨ c ≠ s.id ∨ q ≠ s.seq := by
      cases hw : s.waits
      · exact .inl rfl
      · simp [Cl.hears, hw] at ht
        by_cases h5 : c = s.id
        · exact .inr (.inr (ht h5))
        · exact .inr (.inl h5)
    refine (tell_no g s.id s.seq s.y s.waits s.tg s.ticks c q r0 r1 r2 r3 r4 w h hn).mono ?_
    rintro e w' ⟨rfl, hb⟩
    exact ⟨rfl, h.below hb h.lt, .of_below hb⟩
  · rw [if_pos rfl]
    simp [Cl.hears] at ht
    obtain ⟨hw, rfl, rfl⟩ := ht
    have h0 : CAt w g s.id s.seq s.y true s.tg s.ticks := by rw [← hw]; exact h
    refine (tell_yes g s.id s.seq s.y s.tg s.ticks r0 r1 r2 r3 r4 w h0).mono ?_
    rintro e w' ⟨rfl, hc, ht⟩
    exact ⟨rfl, hc, ht⟩
theorem tick_fun (g : Nat) (s : Cl) (n : Int) (w : World) (h : Holds w g 54 s.cells) (ho : s.Ok 100 100000) (hn : 1 ≤ n ∧ n ≤ 9223372036854775807) :
    Calls Try.prog 9 #[.pointer (some ⟨g, 0, none⟩), .int .i64 n] w fun e w' => e = .returned (.tuple #[.agg s.asked.cells.toArray, .int .i64 (s.whom n), .bool s.asks]) ∧ Holds w' g 54 (s.ticked n).cells ∧ Touch g w w' := by
  have h3 := ho.tg
  have h4 := ho.ticks
  unfold Cl.ticked Cl.asked Cl.whom
  cases hw : s.waits
  · have ha : s.asks = false := by simp [Cl.asks, hw]
    rw [ha, if_neg (by simp), if_neg (by simp), if_neg (by simp)]
    have h0 : CAt w g s.id s.seq s.y false s.tg s.ticks := by rw [← hw]; exact h
    refine (tick_no g s.id s.seq s.y false s.tg s.ticks n w h0 (.inl rfl)).mono ?_
    rintro e w' ⟨rfl, hb⟩
    exact ⟨rfl, h.below hb h.lt, .of_below hb⟩
  · have h0 : CAt w g s.id s.seq s.y true s.tg s.ticks := by rw [← hw]; exact h
    by_cases h20 : (s.ticks + 1) % 20 = 0
    · have ha : s.asks = true := by simp [Cl.asks, hw, h20]
      rw [ha, if_pos rfl, if_pos rfl, if_pos rfl, if_pos rfl]
      refine (tick_ask2 g s.id s.seq s.y s.tg s.ticks n w h0 hn.1 hn.2 h3 (by omega) h20).mono ?_
      rintro e w' ⟨rfl, hc, ht⟩
      exact ⟨rfl, hc, ht⟩
    · have ha : s.asks = false := by simp [Cl.asks, hw, h20]
      rw [ha, if_neg (by simp), if_neg (by simp), if_pos rfl, if_neg (by simp)]
      refine (tick_idle g s.id s.seq s.y s.tg s.ticks n w h0 hn.1 (by omega) h20).mono ?_
      rintro e w' ⟨rfl, hc, ht⟩
      exact ⟨rfl, hc, ht⟩
set_option maxHeartbeats 1000000 in
theorem dbegin_fun (g : Nat) (s : Cl) (x : Cm) (tg : Int) (w : World) (h : Holds w g 41 s.cells) (ho : s.Ok 100 100000) :
    Calls Try.prog 11 #[.pointer (some ⟨g, 0, none⟩), .agg #[.int .i64 x.k, .int .i64 x.c, .int .i64 x.s, .string x.a, .string x.b, .string x.o, .string x.v], .int .i64 tg] w fun e w' =>
      e = .returned (.tuple #[.agg (s.given x tg).cells.toArray, .bool (s.takes x tg)]) ∧ Holds w' g 41 (s.begun x tg).cells ∧ Touch g w w' := by
  have h1 := ho.id
  have h2 := ho.seq
  have hr := fun W => dright_fun x.k s.id (s.seq + 1) x.a x.b x.o x.v W h1 (by omega)
  unfold Cl.given Cl.begun
  cases ht : s.takes x tg
  · rw [if_neg (by simp), if_neg (by simp)]
    cases hw : s.waits
    · have h0 : DAt w g s.id s.seq s.y false s.tg s.ticks := by rw [← hw]; exact h
      have hn : rightB x.k x.a x.b x.o x.v = false ∨ (rightB x.k x.a x.b x.o x.v = true ∧ (x.k == 0) = false ∧ tg < 0) ∨ (rightB x.k x.a x.b x.o x.v = true ∧ (x.k == 0) = false ∧ ¬ tg < 0 ∧ 7 ≤ tg) := by
        cases hrb : rightB x.k x.a x.b x.o x.v
        · exact .inl rfl
        · have hk := rightB_pos hrb
          simp [Cl.takes, hw, hrb] at ht
          by_cases h5 : tg < 0
          · exact .inr (.inl ⟨rfl, hk, h5⟩)
          · exact .inr (.inr ⟨rfl, hk, h5, ht (by omega)⟩)
      refine (dbegin_not g s.id s.seq s.y x s.tg s.ticks tg w h0 (by omega) _ hr hn).mono ?_
      rintro e w' ⟨rfl, hb⟩
      exact ⟨rfl, h.below hb h.lt, .of_below hb⟩
    · have h0 : DAt w g s.id s.seq s.y true s.tg s.ticks := by rw [← hw]; exact h
      refine (dbegin_waits g s.id s.seq s.y x s.tg s.ticks tg w h0 (by omega)).mono ?_
      rintro e w' ⟨rfl, hb⟩
      exact ⟨rfl, h.below hb h.lt, .of_below hb⟩
  · rw [if_pos rfl, if_pos rfl]
    simp [Cl.takes] at ht
    obtain ⟨hw, hrb, h5, h6⟩ := ht
    have h0 : DAt w g s.id s.seq s.y false s.tg s.ticks := by rw [← hw]; exact h
    rw [hrb] at hr
    have hk := rightB_pos hrb
    refine (dbegin_yes g s.id s.seq s.y x s.tg s.ticks tg w h0 (by omega) (by simpa using hk) ⟨h5, h6⟩ hr).mono ?_
    rintro e w' ⟨rfl, hc, ht⟩
    exact ⟨rfl, hc, ht⟩
theorem dtell_fun (g : Nat) (s : Cl) (c q : Int) (r0 r1 r2 r3 r4 : Value) (w : World) (h : Holds w g 41 s.cells) :
    Calls Try.prog 12 #[.pointer (some ⟨g, 0, none⟩), .agg #[.int .i64 c, .int .i64 q, r0, r1, r2, r3, r4]] w fun e w' => e = .returned (.bool (s.hears c q)) ∧ Holds w' g 41 (s.told c q).cells ∧ Touch g w w' := by
  unfold Cl.told
  cases ht : s.hears c q
  · rw [if_neg (by simp)]
    have hn : s.waits = false ∨ c ≠ s.id ∨ q ≠ s.seq := by
      cases hw : s.waits
      · exact .inl rfl
      · simp [Cl.hears, hw] at ht
        by_cases h5 : c = s.id
        · exact .inr (.inr (ht h5))
        · exact .inr (.inl h5)
    refine (dtell_no g s.id s.seq s.y s.waits s.tg s.ticks c q r0 r1 r2 r3 r4 w h hn).mono ?_
    rintro e w' ⟨rfl, hb⟩
    exact ⟨rfl, h.below hb h.lt, .of_below hb⟩
  · rw [if_pos rfl]
    simp [Cl.hears] at ht
    obtain ⟨hw, rfl, rfl⟩ := ht
    have h0 : DAt w g s.id s.seq s.y true s.tg s.ticks := by rw [← hw]; exact h
    refine (dtell_yes g s.id s.seq s.y s.tg s.ticks r0 r1 r2 r3 r4 w h0).mono ?_
    rintro e w' ⟨rfl, hc, ht⟩
    exact ⟨rfl, hc, ht⟩
theorem dtick_fun (g : Nat) (s : Cl) (n : Int) (w : World) (h : Holds w g 41 s.cells) (ho : s.Ok 100 100000) (hn : 1 ≤ n ∧ n ≤ 9223372036854775807) :
    Calls Try.prog 14 #[.pointer (some ⟨g, 0, none⟩), .int .i64 n] w fun e w' => e = .returned (.tuple #[.agg s.asked.cells.toArray, .int .i64 (s.whom n), .bool s.asks]) ∧ Holds w' g 41 (s.ticked n).cells ∧ Touch g w w' := by
  have h3 := ho.tg
  have h4 := ho.ticks
  unfold Cl.ticked Cl.asked Cl.whom
  cases hw : s.waits
  · have ha : s.asks = false := by simp [Cl.asks, hw]
    rw [ha, if_neg (by simp), if_neg (by simp), if_neg (by simp)]
    have h0 : DAt w g s.id s.seq s.y false s.tg s.ticks := by rw [← hw]; exact h
    refine (dtick_no g s.id s.seq s.y false s.tg s.ticks n w h0 rfl).mono ?_
    rintro e w' ⟨rfl, hb⟩
    exact ⟨rfl, h.below hb h.lt, .of_below hb⟩
  · have h0 : DAt w g s.id s.seq s.y true s.tg s.ticks := by rw [← hw]; exact h
    by_cases h20 : (s.ticks + 1) % 20 = 0
    · have ha : s.asks = true := by simp [Cl.asks, hw, h20]
      rw [ha, if_pos rfl, if_pos rfl, if_pos rfl, if_pos rfl]
      refine (dtick_ask2 g s.id s.seq s.y s.tg s.ticks n w h0 hn.1 hn.2 h3 (by omega) h20).mono ?_
      rintro e w' ⟨rfl, hc, ht⟩
      exact ⟨rfl, hc, ht⟩
    · have ha : s.asks = false := by simp [Cl.asks, hw, h20]
      rw [ha, if_neg (by simp), if_neg (by simp), if_pos rfl, if_neg (by simp)]
      refine (dtick_idle g s.id s.seq s.y s.tg s.ticks n w h0 hn.1 (by omega) h20).mono ?_
      rintro e w' ⟨rfl, hc, ht⟩
      exact ⟨rfl, hc, ht⟩
end Go.Proofs.Ytkojfgebdoojnaa
