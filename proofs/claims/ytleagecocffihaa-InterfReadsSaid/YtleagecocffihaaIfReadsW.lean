/-
  The walk of InterfReads.
-/
import Derived.Test.YtleagecocffihaaIfAskW
import Derived.Test.YtleagecocffihaaIfSameP
namespace Go.Proofs.Ytleagecocffihaa
open Go.RowKit Go.Maps
set_option linter.unusedVariables false
set_option linter.unusedSimpArgs false

/-- What the readers of client 2 left: n of them, in row 0, one behind the other. -/
structure RdL (n : Nat) (l : List Ent) : Prop where
  all : ∀ e ∈ l, e.r = 0 ∧ 1 ≤ e.s ∧ e.s ≤ n ∧ e.q = 0 ∧ e.c.k = 1 ∧ e.c.c = 2
  last : 0 < n → ∃ e ∈ l, e.s = n
def getC (n : Int) (a : ByteArray) : Cm := ⟨1, 2, n, a, ⟨#[]⟩, ⟨#[]⟩, ⟨#[]⟩⟩
def rngC : Cm := ⟨5, 1, 1, ⟨#[]⟩, ⟨#[]⟩, ⟨#[]⟩, ⟨#[]⟩⟩
theorem RdL.nil : RdL 0 [] := ⟨fun e he => (by cases he), fun h => (by omega)⟩
theorem RdL.put {n : Nat} {l : List Ent} (h : RdL n l) (a : ByteArray) : RdL (n + 1) (putE l ⟨0, (n : Int) + 1, getC ((n : Int) + 1) a, 0⟩) := by
  have hn : l.any (fun x => x.r == (0 : Int) && x.s == (n : Int) + 1) = false := by
    rw [List.any_eq_false]
    intro x hx
    have := (h.all x hx).2.2.1
    simp only [Bool.and_eq_true, beq_iff_eq, not_and]
    intro _ h2
    omega
  unfold putE
  simp only [hn, Bool.false_eq_true, if_false]
  refine ⟨fun e he => ?_, fun _ => ⟨_, List.mem_append_right _ (List.mem_singleton.2 rfl), by simp⟩⟩
  rcases List.mem_append.1 he with he | he
  · obtain ⟨h1, h2, h3, h4, h5, h6⟩ := h.all e he
    exact ⟨h1, h2, by omega, h4, h5, h6⟩
  · rw [List.mem_singleton.1 he]
    exact ⟨rfl, by simp only; omega, by simp, rfl, rfl, rfl⟩
theorem noteB_rd (n : Int) (a : ByteArray) (h1 : 1 ≤ n) (h2 : n ≤ 1000) (ha : a.toList ≠ []) (hl : a.size ≤ 16) : noteB (fun _ => 0) 0 n (getC n a) 0 = true := by
  have e1 : rightI 0 n = true := by unfold rightI; simp; omega
  have e2 : rightA 1 2 n a ⟨#[]⟩ ⟨#[]⟩ ⟨#[]⟩ = true := by
    unfold rightA eqC longB bareE bareO bareV
    have h0 : (⟨#[]⟩ : ByteArray).size = 0 := rfl
    simp [ha, h0]
    omega
  unfold noteB getC
  simp only [e1, e2]
  simp
  omega
theorem takes_rng (r s : Int) (e : Ent) (h5 : e.c.k = 1) (h6 : e.c.c = 2) : takes r s rngC e = false := by
  have : clashC e.c rngC = false := by
    unfold clashC writesC rngC
    simp only [h5, h6]
    simp
  unfold takes
  rw [this, Bool.and_false]
theorem takes_get (r s n : Int) (a : ByteArray) (hr : r ≠ 0) (e : Ent) (h1 : e.r = 0) (h5 : e.c.k = 1) (h6 : e.c.c = 2) : takes r s (getC n a) e = true := by
  have hk : ∀ x : Cm, x.k = 1 → (keysC x).2.2 = true := fun x hx => by unfold keysC; rw [if_pos (.inl hx)]
  have : clashC e.c (getC n a) = true := by
    unfold clashC
    rw [hk _ h5, hk (getC n a) rfl, h6]
    simp [getC]
  have hne : (e.r == r) = false := by rw [h1]; simp; omega
  unfold takes
  rw [this, hne]
  rfl
theorem rd_a {n : Nat} {l : List Ent} (h : RdL n l) (r s : Int) (hr : r ≠ 0) : attrQ l r s rngC = 0 ∧ attrD l (fun _ => 0) r s rngC 0 = 0 := by
  have hf := fun (e : Ent) (he : e ∈ l) => takes_rng r s e (h.all e he).2.2.2.2.1 (h.all e he).2.2.2.2.2
  refine ⟨fold_max_none _ l _ hf, ?_⟩
  unfold attrD depOf
  rw [if_neg (show ¬ ((0 : Nat) : Int) = r by simp; omega), fold_max_none _ l _ (fun e he => by rw [hf e he]; rfl)]
  rfl
theorem rd_b {n : Nat} {l : List Ent} (h : RdL n l) (r s m : Int) (a : ByteArray) (hr : r ≠ 0) : attrQ l r s (getC m a) = (if 0 < n then 1 else 0) ∧ attrD l (fun _ => 0) r s (getC m a) 0 = n := by
  have hf := fun (e : Ent) (he : e ∈ l) => takes_get r s m a hr e (h.all e he).1 (h.all e he).2.2.2.2.1 (h.all e he).2.2.2.2.2
  have hb := h.all
  have h0 := fold_max_nonneg (fun e => e.q + 1) l (takes r s (getC m a))
  have h1 := fold_max_nonneg (fun e => e.s) l (fun e => takes r s (getC m a) e && e.r == ((0 : Nat) : Int))
  have h2 := fold_max_le (fun e => e.q + 1) (if 0 < n then 1 else 0) (by split <;> omega) l (takes r s (getC m a)) (fun e he => by
    obtain ⟨_, b1, b2, b3, _, _⟩ := hb e he
    simp only [b3]
    rw [if_pos (by omega)]
    omega)
  have h3 := fold_max_le (fun e => e.s) (n : Int) (by omega) l (fun e => takes r s (getC m a) e && e.r == ((0 : Nat) : Int)) (fun e he => (hb e he).2.2.1)
  unfold attrQ attrD seqOf depOf
  rw [if_neg (show ¬ ((0 : Nat) : Int) = r by simp; omega)]
  dsimp only
  by_cases hn : 0 < n
  · obtain ⟨e, he, hes⟩ := h.last hn
    have h4 := fold_max_ge (fun e => e.q + 1) (takes r s (getC m a)) l e he (hf e he)
    have h5 := fold_max_ge (fun e => e.s) (fun e => takes r s (getC m a) e && e.r == ((0 : Nat) : Int)) l e he (by rw [hf e he, (hb e he).1]; rfl)
    have h6 := (hb e he).2.2.2.1
    rw [hes] at h5
    rw [if_pos hn] at h2 ⊢
    exact ⟨by omega, by omega⟩
  · rw [if_neg hn] at h2 ⊢
    exact ⟨by omega, by omega⟩
/-- Under way in the loop. -/
structure Rds (w wr : World) (g b gi : Nat) (r s : Int) (k n : Nat) : Prop where
  bel : Below w.heap.size w wr
  ix : ∃ l, IxAt wr g b k (fun _ => 0) l ∧ RdL n l
  box : Holds wr gi 26 [.int .i64 r, .int .i64 s]
  lo : w.heap.size ≤ b
  ne : gi ≠ b
theorem Rds.below {w wr w' : World} {g b gi : Nat} {r s : Int} {k n : Nat} (h : Rds w wr g b gi r s k n) (hb : Below wr.heap.size wr w') : Rds w w' g b gi r s k n := by
  obtain ⟨l, hx, hl⟩ := h.ix
  exact ⟨below_next h.bel hb, ⟨l, hx.below hb, hl⟩, h.box.bel hb, h.lo, h.ne⟩
theorem Rds.note {w wr : World} {g b gi : Nat} {r s : Int} {k n : Nat} (h : Rds w wr g b gi r s k n) (hk : k ≤ 20) (hn : n ≤ k) (a : ByteArray) (ha : a.toList ≠ []) (hl : a.size ≤ 16) :
    Calls Try.prog 9 #[.pointer (some ⟨g, 0, none⟩), .agg #[.int .i64 0, .int .i64 ((n : Int) + 1)], .agg #[.int .i64 1, .int .i64 2, .int .i64 ((n : Int) + 1), .string a, .string ⟨#[]⟩, .string ⟨#[]⟩, .string ⟨#[]⟩], .int .i64 0] wr fun e w' =>
      e = .returned (.bool true) ∧ Rds w w' g b gi r s (k + 1) (n + 1) := by
  obtain ⟨l, hx, hl2⟩ := h.ix
  have := note_any g b k (fun _ => 0) l 0 ((n : Int) + 1) (getC ((n : Int) + 1) a) 0 wr hx (by omega)
  rw [noteB_rd _ a (by omega) (by omega) ha hl, if_pos rfl] at this
  refine this.mono ?_
  rintro e w' ⟨rfl, hx', ht⟩
  exact ⟨rfl, h.bel.trans (ht.below h.lo h.bel.size), ⟨_, hx', hl2.put a⟩, h.box.touch ht h.ne, h.lo, h.ne⟩
theorem Rds.skip {w wr : World} {g b gi : Nat} {r s : Int} {k n : Nat} (h : Rds w wr g b gi r s k n) : Rds w wr g b gi r s (k + 1) n := by
  obtain ⟨l, hx, hl⟩ := h.ix
  exact ⟨h.bel, ⟨l, hx.mono, hl⟩, h.box, h.lo, h.ne⟩
theorem Rds.askA {w wr : World} {g b gi : Nat} {r s : Int} {k n : Nat} (h : Rds w wr g b gi r s k n) (hr : r ≠ 0) :
    Calls Try.prog 12 #[.pointer (some ⟨g, 0, none⟩), .agg #[.int .i64 r, .int .i64 s], .agg #[.int .i64 5, .int .i64 1, .int .i64 1, .string ⟨#[]⟩, .string ⟨#[]⟩, .string ⟨#[]⟩, .string ⟨#[]⟩]] wr fun e w' =>
      ∃ d1 d2 d3 d4 d5 d6 : Int, e = .returned (.agg #[.int .i64 0, .int .i64 0, .int .i64 d1, .int .i64 d2, .int .i64 d3, .int .i64 d4, .int .i64 d5, .int .i64 d6]) ∧ Below wr.heap.size wr w' := by
  obtain ⟨l, hx, hl⟩ := h.ix
  obtain ⟨e1, e2⟩ := rd_a hl r s hr
  have := attr_any g b k (fun _ => 0) l r s rngC wr hx (by decide)
  refine this.mono ?_
  rintro e w' ⟨rfl, hb⟩
  refine ⟨_, _, _, _, _, _, (?_ : _ = Ending.returned (.agg #[.int .i64 0, .int .i64 0, .int .i64 (attrD l (fun _ => 0) r s rngC 1), .int .i64 (attrD l (fun _ => 0) r s rngC 2), .int .i64 (attrD l (fun _ => 0) r s rngC 3), .int .i64 (attrD l (fun _ => 0) r s rngC 4), .int .i64 (attrD l (fun _ => 0) r s rngC 5), .int .i64 (attrD l (fun _ => 0) r s rngC 6)])), hb⟩
  rw [e1]
  unfold attL cutL
  rw [e2]
theorem Rds.askB {w wr : World} {g b gi : Nat} {r s : Int} {k n : Nat} (h : Rds w wr g b gi r s k n) (hr : r ≠ 0) (m : Int) :
    Calls Try.prog 12 #[.pointer (some ⟨g, 0, none⟩), .agg #[.int .i64 r, .int .i64 s], .agg #[.int .i64 1, .int .i64 2, .int .i64 m, .string ⟨#[122]⟩, .string ⟨#[]⟩, .string ⟨#[]⟩, .string ⟨#[]⟩]] wr fun e w' =>
      ∃ d1 d2 d3 d4 d5 d6 : Int, e = .returned (.agg #[.int .i64 (if 0 < n then 1 else 0), .int .i64 n, .int .i64 d1, .int .i64 d2, .int .i64 d3, .int .i64 d4, .int .i64 d5, .int .i64 d6]) ∧ Below wr.heap.size wr w' := by
  obtain ⟨l, hx, hl⟩ := h.ix
  obtain ⟨e1, e2⟩ := rd_b hl r s m ⟨#[122]⟩ hr
  have := attr_any g b k (fun _ => 0) l r s (getC m ⟨#[122]⟩) wr hx (by show (1 : Nat) ≤ 1000000; decide)
  refine this.mono ?_
  rintro e w' ⟨rfl, hb⟩
  refine ⟨_, _, _, _, _, _, (?_ : _ = Ending.returned (.agg #[.int .i64 (if 0 < n then 1 else 0), .int .i64 n, .int .i64 (attrD l (fun _ => 0) r s (getC m ⟨#[122]⟩) 1), .int .i64 (attrD l (fun _ => 0) r s (getC m ⟨#[122]⟩) 2), .int .i64 (attrD l (fun _ => 0) r s (getC m ⟨#[122]⟩) 3), .int .i64 (attrD l (fun _ => 0) r s (getC m ⟨#[122]⟩) 4), .int .i64 (attrD l (fun _ => 0) r s (getC m ⟨#[122]⟩) 5), .int .i64 (attrD l (fun _ => 0) r s (getC m ⟨#[122]⟩) 6)])), hb⟩
  rw [e1]
  unfold attL cutL
  rw [e2]
set_option maxRecDepth 4000 in
set_option maxHeartbeats 8000000 in
theorem interfReads_any (a : Option Addr) (len cap : Nat) (R : Nat → Ask) (r s : Int) (w : World) (hV : IsRows w a len 18 fun i => (R i).cells) (hlc : len ≤ cap) (hcm : cap ≤ maxLen) :
    Calls Try.prog 5 #[.slice a len cap, .agg #[.int .i64 r, .int .i64 s]] w fun e w' => e = .returned (.bool true) ∧ Below w.heap.size w w' := by
  have HV := Lib.hid hV; clear hV
  have K1 := Lib.hid (fun W => right_inst r s W)
  have K2 := Lib.hid (fun W => interfRuns_any W)
  unfold maxLen at hcm
  have hcase : (rightI r s = false) ∨ (rightI r s = true ∧ r = 0) ∨ (rightI r s = true ∧ (r == 0) = false) := by
    cases rightI r s
    · exact .inl rfl
    · by_cases h : r = 0
      · exact .inr (.inl ⟨rfl, h⟩)
      · exact .inr (.inr ⟨rfl, by simp [h]⟩)
  generalize rightI r s = B at hcase K1
  go_enter Try.func5, Try.ntmps5
  go_wp2_with fail
  refine (new_any _).mono ?_
  rintro e w1 ⟨rfl, hx, hb⟩
  have hbox : Holds w1 w.heap.size 26 [.int .i64 r, .int .i64 s] := (holds_alloc w 26 [.int .i64 r, .int .i64 s]).below hb (by simp)
  have hB : Below w.heap.size w w1 := below_next ((Below.refl _ _).alloc (Nat.le_refl _) _) hb
  rw [World.size_alloc] at hx ⊢
  have HR := Lib.hid (show Rds w w1 (w.heap.size + 1 + 1) (w.heap.size + 1) w.heap.size r s 0 0 from ⟨hB, ⟨_, hx, RdL.nil⟩, hbox, by omega, by omega⟩)
  clear hx hb hbox hB
  generalize w.heap.size + 1 + 1 = g at HR ⊢
  generalize w.heap.size + 1 = b at HR
  generalize hgi : w.heap.size = gi at HR ⊢
  have i0 := HR.out.box.cell 0
  have i1 := HR.out.box.cell 1
  simp only [List.getElem?_cons_zero, List.getElem?_cons_succ] at i0 i1
  rcases hcase with rfl | ⟨rfl, rfl⟩ | ⟨rfl, hr0⟩
  · go_wp2_with fail
    refine (K1.out _).mono ?_
    rintro e w2 ⟨rfl, hb2⟩
    have HB := Lib.hid (below_next HR.out.bel hb2)
    clear hb2 i0 i1
    go_wp2_with fail
    refine (K2.out _).mono ?_
    rintro e w3 ⟨rfl, hb3⟩
    have HB := Lib.hid (below_next HB.out hb3)
    clear hb3
    go_wp2_with fail
    go_ret
    exact ⟨rfl, HB.out⟩
  · go_wp2_with fail
    refine (K1.out _).mono ?_
    rintro e w2 ⟨rfl, hb2⟩
    have HR := Lib.hid (HR.out.below hb2)
    clear hb2 i0 i1
    have i0 := HR.out.box.cell 0
    simp only [List.getElem?_cons_zero] at i0
    go_wp2_with fail
    refine (K2.out _).mono ?_
    rintro e w3 ⟨rfl, hb3⟩
    have HB := Lib.hid (below_next HR.out.bel hb3)
    clear hb3
    go_wp2_with fail
    go_ret
    exact ⟨rfl, HB.out⟩
  · go_wp2_with fail
    refine (K1.out _).mono ?_
    rintro e w2 ⟨rfl, hb2⟩
    have HR := Lib.hid (HR.out.below hb2)
    clear hb2 i0 i1
    have i0 := HR.out.box.cell 0
    simp only [List.getElem?_cons_zero] at i0
    go_wp2_with fail
    clear i0
    have hr : r ≠ 0 := by simpa using hr0
    have HNE := Lib.hid hr; clear hr hr0
    go_loopw [6, 7] (fun vn vk wr => ∃ k n : Nat, k ≤ len ∧ k ≤ 20 ∧ n ≤ k ∧ vn = .int .i64 n ∧ vk = .int .i64 k ∧ Rds w wr g b gi r s k n) (fun _ vk _ => 20 - (intOf vk).toNat)
    case atStart => exact ⟨0, 0, by omega, by omega, by omega, rfl, rfl, HR.out⟩
    case round =>
      clear HR
      obtain ⟨k, n, hk, hk20, hnk, rfl, rfl, hr⟩ := hrel
      have HR := Lib.hid hr; clear hr
      by_cases h12 : k < len ∧ k < 20
      · obtain ⟨h1, h2⟩ := h12
        · have hv := HV.out
          obtain ⟨va, voff, rfl, hlt⟩ := hv.spot (by omega)
          have hc := hv.at HR.out.bel h1 7 (by omega)
          simp only [Ask.cells, List.getElem?_cons_zero, List.getElem?_cons_succ] at hc
          generalize (R k).c.a = x at hc
          clear hv
          by_cases hx0 : x.toList = []
          · go_wp2_with fail
            go_roundw
            case rel => exact ⟨k + 1, n, by omega, by omega, by omega, rfl, by go_num, HR.out.skip⟩
            case measure => simp [intOf]; omega
          · by_cases hx1 : 16 < x.size
            · go_wp2_with fail
              go_roundw
              case rel => exact ⟨k + 1, n, by omega, by omega, by omega, rfl, by go_num, HR.out.skip⟩
              case measure => simp [intOf]; omega
            · have HX := Lib.hid hx0
              have hxe : x.toList.isEmpty = false := by simp [hx0]
              have hx2 : ¬ (16 : Int) < x.size := by omega
              have HX1 := Lib.hid hx1
              clear hx0 hx1
              go_wp2_with fail
              refine (HR.out.note (by omega) hnk x HX.out (by have := HX1.out; omega)).mono ?_
              rintro e w4 ⟨rfl, hr4⟩
              have HR := Lib.hid hr4; clear hr4
              clear hc
              go_wp2_with fail
              go_roundw
              case rel => exact ⟨k + 1, n + 1, by omega, by omega, by omega, by go_num, by go_num, HR.out⟩
              case measure => simp [intOf]; omega
      · have hend : (¬ k < len) ∨ (k < len ∧ ¬ k < 20) := by omega
        clear h12
        rcases hend with h1 | ⟨h1, h2⟩
        all_goals
          have i0 := HR.out.box.cell 0
          have i1 := HR.out.box.cell 1
          simp only [List.getElem?_cons_zero, List.getElem?_cons_succ] at i0 i1
          go_wp2_with fail
          refine (HR.out.askA HNE.out).mono ?_
          rintro e w5 ⟨d1, d2, d3, d4, d5, d6, rfl, hb5⟩
          have HR := Lib.hid (HR.out.below hb5)
          clear hb5 i0 i1
          have i0 := HR.out.box.cell 0
          have i1 := HR.out.box.cell 1
          have hgl := HR.out.box.lt
          simp only [List.getElem?_cons_zero, List.getElem?_cons_succ] at i0 i1
          go_wp2_with fail
          have HR6 := Lib.hid (HR.out.below (show Below w5.heap.size w5 (w5.alloc (.cells #[.int .i64 0, .int .i64 0, .int .i64 d1, .int .i64 d2, .int .i64 d3, .int .i64 d4, .int .i64 d5, .int .i64 d6] 34)) by go_grown))
          refine (HR6.out.askB HNE.out _).mono ?_
          rintro e w6 ⟨f1, f2, f3, f4, f5, f6, rfl, hb6⟩
          have HA := Lib.hid ((holds_alloc w5 34 [.int .i64 0, .int .i64 0, .int .i64 d1, .int .i64 d2, .int .i64 d3, .int .i64 d4, .int .i64 d5, .int .i64 d6]).bel hb6)
          have HR := Lib.hid (HR6.out.below hb6)
          clear hb6 HR6 i0 i1
          generalize w5.heap.size = ga at HA ⊢
          have hal := HA.out.lt
          have a0 := HA.out.cell 0
          have a1 := HA.out.cell 1
          simp only [List.getElem?_cons_zero, List.getElem?_cons_succ] at a0 a1
          go_wp2_with fail
          all_goals
            have HR7 := Lib.hid (HR.out.below (show Below w6.heap.size w6 (w6.alloc (.cells #[.int .i64 0, .int .i64 n, .int .i64 f1, .int .i64 f2, .int .i64 f3, .int .i64 f4, .int .i64 f5, .int .i64 f6] 34)) by go_grown))
            have HR8 := Lib.hid (HR.out.below (show Below w6.heap.size w6 (w6.alloc (.cells #[.int .i64 1, .int .i64 n, .int .i64 f1, .int .i64 f2, .int .i64 f3, .int .i64 f4, .int .i64 f5, .int .i64 f6] 34)) by go_grown))
            refine (K2.out _).mono ?_
            rintro e w7 ⟨rfl, hb7⟩
            have HB := Lib.hid (show Below w.heap.size w w7 by first | exact below_next HR7.out.bel hb7 | exact below_next HR8.out.bel hb7)
            clear hb7 HR7 HR8 a0 a1 hal hgl
            go_wp2_with fail
            go_ret
            exact ⟨rfl, HB.out⟩
theorem interfReads_rows (a : Option Addr) (len cap : Nat) (V : Nat → List Value) (r s : Int) (w : World) (hV : IsRows w a len 18 V) (hA : ∀ i, i < len → AllOk askLeaves (V i) ∧ Fit reachBytes (V i)) (hlc : len ≤ cap) (hcm : cap ≤ maxLen)
    (_ : (Lit.int .i64 r).wf = true) (_ : (Lit.int .i64 s).wf = true) :
    Calls Try.prog 5 #[.slice a len cap, .agg #[.int .i64 r, .int .i64 s]] w fun e w' => e = .returned (.bool true) ∧ Below w.heap.size w w' := by
  obtain ⟨R, hR, _⟩ := asks_at hA
  exact interfReads_any a len cap R r s w (hV.cong hR) hlc hcm
end Go.Proofs.Ytleagecocffihaa
