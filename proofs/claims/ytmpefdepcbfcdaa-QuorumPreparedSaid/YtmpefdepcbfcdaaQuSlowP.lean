/-
  What more than half have accepted is what any slow quorum comes to: plain laws. No program in sight.
-/
import Derived.Test.YtmpefdepcbfcdaaQuLstW
namespace Go.Proofs.Ytmpefdepcbfcdaa
open Go.RowKit
set_option linter.unusedVariables false
set_option linter.unusedSimpArgs false

/-- A cell's cells: what was said, without who said it. -/
def celL (s : Sd) : List Value := [.int .i64 s.st, .int .i64 s.pe, .int .i64 s.pr, .int .i64 s.ve, .int .i64 s.vr, .int .i64 s.x.k, .int .i64 s.x.c, .int .i64 s.x.s, .string s.x.a, .string s.x.b, .string s.x.o, .string s.x.v, .int .i64 s.a.q, .int .i64 (s.a.d 0), .int .i64 (s.a.d 1), .int .i64 (s.a.d 2), .int .i64 (s.a.d 3), .int .i64 (s.a.d 4), .int .i64 (s.a.d 5), .int .i64 (s.a.d 6), .bool s.same]
theorem sd_cel (s : Sd) : s.cells = .int .i64 s.r :: celL s := rfl
theorem celL_all (s : Sd) : (celL s).toArray.all (·.oneCell') = true := by simp [celL, Value.oneCell']
theorem celL_mem (s : Sd) : ∀ v ∈ celL s, v.oneCell' = true := by simp [celL, Value.oneCell']
def zeroSd (r : Int) : Sd := ⟨r, 0, 0, 0, 0, 0, Cm.zero, At.of 0, false⟩
def slowD (who : Nat → Bool) (be br : Int) (c : Cm) (a : At) (C : Nat → Sd) (i : Nat) : Sd :=
  if who i = true then ⟨i, 2, be, br, be, br, c, a, false⟩
  else if (C i).st = 3 ∨ below (C i).ve (C i).vr be br = false then zeroSd i
  else { C i with r := i }
def cntTo (who : Nat → Bool) : Nat → Nat
  | 0 => 0
  | k + 1 => cntTo who k + if who k = true then 1 else 0
theorem cntTo_le (who : Nat → Bool) (k : Nat) : cntTo who k ≤ k := by
  induction k with
  | zero => exact Nat.le_refl _
  | succ k ih => unfold cntTo; split <;> omega
/-- So many of k places from o on, turned, are marked that one is. -/
theorem window (who : Nat → Bool) (k m o : Nat) (hm : k < cntTo who k + m) (hmk : m ≤ k) (hk : 0 < k) : ∃ i, i < m ∧ who ((o + i) % k) = true := by
  -- if none is, each marked place is met by none of m
  have key : ∀ m, m ≤ k → (∀ i, i < m → who ((o + i) % k) = false) → cntTo who k + m ≤ k := by
    intro m hmk hn
    -- the places 0 .. k-1 that are met
    have hc : ∀ n, n ≤ k → cntTo who n + (((List.range m).map fun i => (o + i) % k).filter (· < n)).length ≤ n := by
      intro n hnk
      induction n with
      | zero => simp [cntTo]
      | succ n ih =>
        have ih := ih (by omega)
        have hsplit : (((List.range m).map fun i => (o + i) % k).filter (· < n + 1)).length = (((List.range m).map fun i => (o + i) % k).filter (· < n)).length + (((List.range m).map fun i => (o + i) % k).filter (· == n)).length := by
          generalize ((List.range m).map fun i => (o + i) % k) = l
          induction l with
          | nil => rfl
          | cons x l ihl =>
            simp only [List.filter_cons]
            by_cases h1 : x < n
            · have h2 : x < n + 1 := by omega
              have h3 : ¬ x = n := by omega
              simp [h1, h2, h3, ihl]; omega
            · by_cases h3 : x = n
              · have h2 : x < n + 1 := by omega
                simp [h1, h2, h3, ihl]; omega
              · have h2 : ¬ x < n + 1 := by omega
                simp [h1, h2, h3, ihl]
        have hone : (((List.range m).map fun i => (o + i) % k).filter (· == n)).length ≤ 1 := by
          have hnd : ((List.range m).map fun i => (o + i) % k).Nodup := by
            unfold List.Nodup
            rw [List.pairwise_map]
            refine List.Pairwise.imp_of_mem ?_ List.pairwise_lt_range
            intro i j hi hj hij he
            rw [List.mem_range] at hi hj
            have h1 : (o + j - (o + i)) % k = 0 := Nat.sub_mod_eq_zero_of_mod_eq he.symm
            rw [show o + j - (o + i) = j - i by omega, Nat.mod_eq_of_lt (by omega)] at h1
            omega
          have hle : ∀ l : List Nat, l.Nodup → (l.filter (· == n)).length ≤ 1 := by
            intro l hl
            induction l with
            | nil => simp
            | cons x l ihl =>
              rw [List.nodup_cons] at hl
              by_cases hx : x = n
              · have : l.filter (· == n) = [] := by
                  rw [List.filter_eq_nil_iff]
                  intro y hy
                  simp only [beq_iff_eq]
                  intro he
                  exact hl.1 (by rw [hx, ← he]; exact hy)
                simp [List.filter_cons, hx, this]
              · simp only [List.filter_cons, beq_iff_eq, hx, if_false]
                exact ihl hl.2
          exact hle _ hnd
        rw [hsplit]
        unfold cntTo
        by_cases hw : who n = true
        · have hz : (((List.range m).map fun i => (o + i) % k).filter (· == n)).length = 0 := by
            rw [List.length_eq_zero_iff, List.filter_eq_nil_iff]
            intro y hy
            simp only [List.mem_map, List.mem_range] at hy
            obtain ⟨i, hi, rfl⟩ := hy
            simp only [beq_iff_eq]
            intro he
            have := hn i hi
            rw [he, hw] at this
            cases this
          rw [if_pos hw, hz]; omega
        · rw [if_neg hw]; omega
    have := hc k (Nat.le_refl _)
    have hall : (((List.range m).map fun i => (o + i) % k).filter (· < k)).length = m := by
      rw [List.filter_eq_self.2]
      · simp
      · intro y hy
        simp only [List.mem_map, List.mem_range] at hy
        obtain ⟨i, _, rfl⟩ := hy
        simp [Nat.mod_lt _ hk]
    omega
  have hck := cntTo_le who k
  by_cases hex : ∃ i, i < m ∧ who ((o + i) % k) = true
  · exact hex
  · have hn : ∀ i, i < m → who ((o + i) % k) = false := fun i hi => by
      cases h : who ((o + i) % k)
      · rfl
      · exact absurd ⟨i, hi, h⟩ hex
    have := key m hmk hn
    omega
theorem below_irr (e r : Int) : below e r e r = false := by simp [below]
theorem below_asym (a b c d : Int) (h : below a b c d = true) : below c d a b = false := by
  simp only [below, Bool.or_eq_true, decide_eq_true_eq, Bool.and_eq_true, beq_iff_eq, Bool.or_eq_false_iff, decide_eq_false_iff_not, Bool.and_eq_false_iff, beq_eq_false_iff_ne, ne_eq] at *
  omega
/-- The best of those that have accepted: once one at the ballot has been met it stays so. -/
theorem best_slow (S : Nat → Sd) (be br : Int) (k : Nat) (h : ∀ i, i < k → (S i).st = 2 → ((S i).ve = be ∧ (S i).vr = br) ∨ below (S i).ve (S i).vr be br = true) :
    (∃ i, i < k ∧ (S i).st = 2 ∧ (S i).ve = be ∧ (S i).vr = br) → ∃ j : Nat, j < k ∧ bestTo S 2 k = j ∧ (S j).st = 2 ∧ (S j).ve = be ∧ (S j).vr = br := by
  induction k with
  | zero => rintro ⟨i, hi, _⟩; omega
  | succ k ih =>
    rintro ⟨i, hi, hs, h1, h2⟩
    have ih := ih (fun i hi => h i (by omega))
    rw [bestTo_succ]
    by_cases hk : (S k).st = 2 ∧ (S k).ve = be ∧ (S k).vr = br
    · obtain ⟨k1, k2, k3⟩ := hk
      rcases bestTo_some S 2 k with ⟨hb, _⟩ | ⟨j, hj, hb, hjs⟩
      · rw [hb]
        have : takes S 2 (-1) k = true := by simp [takes, k1]
        rw [if_pos this]
        exact ⟨k, by omega, rfl, k1, k2, k3⟩
      · rw [hb]
        rcases h j (by omega) hjs with ⟨j1, j2⟩ | hbl
        · have : takes S 2 (j : Int) k = false := by
            simp only [takes, Int.toNat_natCast, j1, j2, k2, k3, below_irr, Bool.or_false]
            simp <;> omega
          rw [this]
          exact ⟨j, by omega, rfl, hjs, j1, j2⟩
        · have : takes S 2 (j : Int) k = true := by
            simp only [takes, Int.toNat_natCast, k2, k3, hbl, Bool.or_true, k1]
            simp
          rw [if_pos this]
          exact ⟨k, by omega, rfl, k1, k2, k3⟩
    · have hik : i < k := by
        rcases Nat.lt_or_ge i k with h' | h'
        · exact h'
        · exfalso; apply hk; have : i = k := by omega
          subst this; exact ⟨hs, h1, h2⟩
      obtain ⟨j, hj, hb, hjs, j1, j2⟩ := ih ⟨i, hik, hs, h1, h2⟩
      rw [hb]
      have : takes S 2 (j : Int) k = false := by
        by_cases hks : (S k).st = 2
        · rcases h k (by omega) hks with ⟨k1, k2⟩ | hbl
          · exact absurd ⟨hks, k1, k2⟩ hk
          · simp only [takes, Int.toNat_natCast, j1, j2, below_asym _ _ _ _ hbl, Bool.or_false]
            simp <;> omega
        · simp [takes, hks]
      rw [this]
      exact ⟨j, by omega, rfl, hjs, j1, j2⟩
theorem slow_law (K o m : Nat) (who : Nat → Bool) (be br : Int) (c : Cm) (a : At) (C : Nat → Sd) (hm : m = K / 2 + 1) (hK : 0 < K) (hcnt : m ≤ cntTo who K) (q : Int) :
    prepared K q (fun i => { slowD who be br c a C ((o + i) % K) with r := (((o + i) % K : Nat) : Int) }) m = (2, c, a) := by
  generalize hS : (fun i => ({ slowD who be br c a C ((o + i) % K) with r := (((o + i) % K : Nat) : Int) } : Sd)) = S
  have hSi : ∀ i, S i = { slowD who be br c a C ((o + i) % K) with r := (((o + i) % K : Nat) : Int) } := fun i => by rw [← hS]
  have hst : ∀ i, (who ((o + i) % K) = true ∧ (S i).st = 2 ∧ (S i).ve = be ∧ (S i).vr = br ∧ (S i).x = c ∧ (S i).a = a) ∨ (S i).st = 0 ∨ ((S i).st ≠ 3 ∧ below (S i).ve (S i).vr be br = true) := fun i => by
    rw [hSi i]
    generalize (o + i) % K = r
    unfold slowD
    by_cases hw : who r = true
    · rw [if_pos hw]; exact .inl ⟨hw, rfl, rfl, rfl, rfl, rfl⟩
    · rw [if_neg hw]
      by_cases hc : (C r).st = 3 ∨ below (C r).ve (C r).vr be br = false
      · rw [if_pos hc]; exact .inr (.inl rfl)
      · rw [if_neg hc]
        refine .inr (.inr ⟨fun h => hc (.inl h), ?_⟩)
        cases hb : below (C r).ve (C r).vr be br
        · exact absurd (.inr hb) hc
        · rfl
  have hcom : comTo S m = none := comTo_none S m fun i _ => by
    rcases hst i with ⟨_, h, _⟩ | h | ⟨h, _⟩
    · omega
    · omega
    · exact h
  obtain ⟨i, hi, hwi⟩ := window who K m o (by omega) (by omega) hK
  have hbest := best_slow S be br m (fun i _ hs => by
    rcases hst i with ⟨_, _, h1, h2, _⟩ | h | ⟨_, h⟩
    · exact .inl ⟨h1, h2⟩
    · omega
    · exact .inr h) ⟨i, hi, by
    rw [hSi i]; unfold slowD; rw [if_pos hwi]; exact ⟨rfl, rfl, rfl⟩⟩
  obtain ⟨j, hj, hb, hjs, j1, j2⟩ := hbest
  have hja : (S j).x = c ∧ (S j).a = a := by
    rcases hst j with ⟨_, _, _, _, h1, h2⟩ | h | ⟨_, h⟩
    · exact ⟨h1, h2⟩
    · omega
    · rw [j1, j2, below_irr] at h; cases h
  unfold prepared
  rw [if_neg (by omega), hcom, hb]
  simp only [Int.toNat_natCast]
  rw [if_pos (by omega), hja.1, hja.2]
end Go.Proofs.Ytmpefdepcbfcdaa
