/-
  Lists of what was said that grow by append; what a Prepare comes to at lists of a known shape.
-/
import Derived.Test.YtmpefdepcbfcdaaQuFewW
import Derived.Deep.RegionLaw
namespace Go.Proofs.Ytmpefdepcbfcdaa
open Go.RowKit
set_option linter.unusedVariables false
set_option linter.unusedSimpArgs false

theorem owns_below {w w' : World} {base size n : Nat} {e : TypeId} {v : Value} {xs : List Value} (h : w.ownsRow base e size v n xs) (hb : Below w.heap.size w w') : w'.ownsRow base e size v n xs := by
  obtain ⟨h1, h2⟩ := h
  refine ⟨h1, ?_⟩
  rcases h2 with h2 | ⟨g, cap, cur, hv, hg, hh, hr⟩
  · exact .inl h2
  · have : g < w.heap.size := (Array.getElem?_eq_some_iff.1 hh).1
    exact .inr ⟨g, cap, cur, hv, hg, by rw [hb.block g this]; exact hh, hr⟩
/-- Two lists of rows, one behind the other. -/
theorem flat_append {s m n : Nat} {V W X : Nat → List Value} (hs : 0 < s) (hv : ∀ i, i < m → (V i).length = s) (hw : ∀ i, i < n → (W i).length = s) (hx1 : ∀ i, i < m → X i = V i) (hx2 : ∀ i, i < n → X (m + i) = W i) : flat s m V ++ flat s n W = flat s (m + n) X := by
  apply List.ext_getElem?
  intro t
  have hm := Nat.mod_lt t hs
  have e : t / s * s + t % s = t := by rw [Nat.mul_comm]; exact Nat.div_add_mod t s
  have hmn : (m + n) * s = m * s + n * s := Nat.add_mul m n s
  by_cases ht : t < m * s
  · have hk : t / s < m := Nat.div_lt_of_lt_mul (by rwa [Nat.mul_comm] at ht)
    rw [List.getElem?_append_left (by rw [flat_len]; exact ht)]
    have h1 := flat_at s m V (t / s) (t % s) hk hm (hv _ hk)
    have h2 := flat_at s (m + n) X (t / s) (t % s) (by omega) hm (by rw [hx1 _ hk]; exact hv _ hk)
    rw [e] at h1 h2
    rw [h1, h2, hx1 _ hk]
  · by_cases ht2 : t < (m + n) * s
    · rw [List.getElem?_append_right (by rw [flat_len]; omega), flat_len]
      have hk : t / s < m + n := Nat.div_lt_of_lt_mul (by rwa [Nat.mul_comm] at ht2)
      have hk2 : m ≤ t / s := (Nat.le_div_iff_mul_le hs).2 (by omega)
      have hkn : t / s - m < n := by omega
      have h1 := flat_at s n W (t / s - m) (t % s) hkn hm (hw _ hkn)
      have h2 := flat_at s (m + n) X (t / s) (t % s) hk hm (by rw [show t / s = m + (t / s - m) by omega, hx2 _ hkn]; exact hw _ hkn)
      rw [e] at h2
      rw [show (t / s - m) * s + t % s = t - m * s by rw [Nat.sub_mul]; have : m * s ≤ t / s * s := Nat.mul_le_mul_right s hk2; omega] at h1
      rw [h1, h2]
      have h3 := hx2 _ hkn
      rw [show m + (t / s - m) = t / s by omega] at h3
      rw [h3]
    · rw [List.getElem?_eq_none (by rw [List.length_append, flat_len, flat_len]; omega), List.getElem?_eq_none (by rw [flat_len]; omega)]
theorem flat_of_one {s : Nat} {V : Nat → List Value} (hv : (V 0).length = s) : flat s 1 V = V 0 := by
  apply List.ext_getElem?
  intro t
  by_cases ht : t < s
  · have := flat_at s 1 V 0 t (by omega) ht hv
    rwa [Nat.zero_mul, Nat.zero_add] at this
  · rw [List.getElem?_eq_none (by rw [flat_len]; omega), List.getElem?_eq_none (by omega)]
theorem flat_snoc {s m : Nat} {V : Nat → List Value} (hs : 0 < s) (hv : ∀ i, i < m + 1 → (V i).length = s) : flat s m V ++ V m = flat s (m + 1) V := by
  have h1 : flat s 1 (fun i => V (m + i)) = V m := flat_of_one (V := fun i => V (m + i)) (hv m (by omega))
  rw [← h1]
  exact flat_append hs (fun i hi => hv i (by omega)) (fun i hi => hv _ (by omega)) (fun _ _ => rfl) (fun _ _ => rfl)
theorem flat_zero (s : Nat) (V : Nat → List Value) : flat s 0 V = [] := by simp [flat]
/-- A part of rows: l[i:]. -/
theorem IsRows.drop {w : World} {b off len n : Nat} {V : Nat → List Value} (h : IsRows w (some ⟨b, off, none⟩) len n V) (k : Nat) (hk : k ≤ len) : IsRows w (some ⟨b, off + k * n, none⟩) (len - k) n fun i => V (k + i) := by
  obtain ⟨h1, h2, h3⟩ := h
  refine ⟨by omega, fun i hi => h2 _ (by omega), fun h0 => ?_⟩
  obtain ⟨b', off', ha, hlt, hc⟩ := h3 (by omega)
  simp only [Option.some.injEq, Addr.mk.injEq] at ha
  obtain ⟨rfl, rfl, _⟩ := ha
  refine ⟨b, _, rfl, hlt, fun i hi j hj => ?_⟩
  rw [← hc (k + i) (by omega) j hj]
  congr 3
  rw [Nat.add_mul]; omega

/-- append of rows onto an owned list, as one step of a region that draws. -/
theorem step_append_rows {P : Program} {ops : Array Oper} {o : Oper} {a : Act} {w : World} {K : Act → World → Prop} {Q : Exit → Act → World → Prop} {E : Prop}
    (hg : o.guard = none) (s x : Operand) (t : TypeId) (hop : o.op = Op.call { callee := Callee.builtin Builtin.append, args := #[s, x], argTypes := #[t, t] })
    (base : Nat) (e : TypeId) (z : Value) (size bytes : Nat) (ht : P.underlying t = some (.slice e)) (hi : (P.info? e).map (fun i => (i.zero, i.size, i.bytes)) = some (some z, size, bytes)) (hzs : z.cells.size = size) (hsz : 0 < size)
    (v : Value) (n : Nat) (xs : List Value) (hs : a.eval s = v) (hown : w.ownsRow base e size v n xs)
    (b off m c : Nat) (V : Nat → List Value) (hx : a.eval x = .slice (some ⟨b, off, none⟩) m c) (hsrc : IsRows w (some ⟨b, off, none⟩) m size V) (h1 : ∀ i, i < m → ∀ u ∈ V i, u.oneCell' = true)
    (h63 : n + m ≤ maxLen) (hbytes : (n + m) * bytes ≤ 140737488355328) (hbase : base ≤ w.heap.size)
    (hK : ∀ v' w', w'.ownsRow base e size v' (n + m) (xs ++ flat size m V) → Below base w w' → K (a.put o.dst v') w') :
    if Region.wanted o (yielded ops a.tmps) = true then Oper.wp P o a w K Q else E := by
  have hw : Region.wanted o (yielded ops a.tmps) = true := by simp [Region.wanted, hg]
  rw [if_pos hw]
  obtain ⟨i, hi0, hz, hsize, hby⟩ := info_parts hi
  have hnews : ∀ j u, (flat size m V)[j]? = some u → w.cell? ((⟨b, off, none⟩ : Addr).add j) = some u := by
    intro j u hu
    have hj : j < m * size := by have := (List.getElem?_eq_some_iff.1 hu).1; rwa [flat_len] at this
    have h0 : 0 < (flat size m V).length := by rw [flat_len]; omega
    obtain ⟨b', off', hb, _, hc⟩ := hsrc.reads (Below.refl _ _) hsz h0
    simp only [Option.some.injEq, Addr.mk.injEq] at hb
    obtain ⟨rfl, rfl, _⟩ := hb
    rw [add_at]; exact hc j u hu
  have h1c := flat_one size m V hsrc.2.1 h1
  obtain ⟨v', w', hrun, r1, r2, _⟩ := run_append_own (P := P) w base t o.type e i z size bytes ht hi0 hz hsize hby hzs hsz v n xs hown ⟨b, off, none⟩ m c (flat size m V) (flat_len _ _ _) hnews h1c h63 hbytes hbase
  unfold Oper.wp
  simp [execOp, hop, resolve, invoke, builtin, hs, hx, hrun, Result.andThen]
  exact hK v' w' r1 ((Below.refl _ _).grown r2 hbase fun k hk => (hown.lt k hk).1)

/-! ### What a Prepare comes to -/
theorem bestTo_none (S : Nat → Sd) (st : Int) (k : Nat) (h : ∀ i, i < k → (S i).st ≠ st) : bestTo S st k = -1 := by
  induction k with
  | zero => rfl
  | succ k ih =>
    rw [bestTo_succ, ih (fun i hi => h i (by omega))]
    have : takes S st (-1) k = false := by simp [takes, h k (by omega)]
    simp [this]
theorem bestTo_some (S : Nat → Sd) (st : Int) (k : Nat) : (bestTo S st k = -1 ∧ ∀ i, i < k → (S i).st ≠ st) ∨ ∃ j : Nat, j < k ∧ bestTo S st k = j ∧ (S j).st = st := by
  induction k with
  | zero => exact .inl ⟨rfl, fun i hi => by omega⟩
  | succ k ih =>
    rw [bestTo_succ]
    by_cases ht : takes S st (bestTo S st k) k = true
    · rw [if_pos ht]
      refine .inr ⟨k, by omega, rfl, ?_⟩
      simp only [takes, Bool.and_eq_true, beq_iff_eq] at ht
      exact ht.1
    · rw [if_neg ht]
      rcases ih with ⟨h1, h2⟩ | ⟨j, h1, h2, h3⟩
      · refine .inl ⟨h1, fun i hi => ?_⟩
        by_cases hik : i = k
        · subst hik
          intro hs
          exact ht (by simp [takes, hs, h1])
        · exact h2 i (by omega)
      · exact .inr ⟨j, by omega, h2, h3⟩
theorem comTo_none (S : Nat → Sd) (k : Nat) (h : ∀ i, i < k → (S i).st ≠ 3) : comTo S k = none := by
  induction k with
  | zero => rfl
  | succ k ih => exact comTo_next (ih fun i hi => h i (by omega)) (h k (by omega))
theorem thereTo_true (S : Nat → Sd) (o : Int) (k i : Nat) (hi : i < k) (h : (S i).r = o) : thereTo S o k = true := by
  induction k with
  | zero => omega
  | succ k ih =>
    unfold thereTo
    by_cases hik : i = k
    · subst hik; simp [h]
    · rw [ih (by omega)]; rfl
/-- The owner is there, nobody has accepted. -/
theorem prepared_there (K : Nat) (o : Int) (S : Nat → Sd) (m : Nat) (c : Cm) (a : At) (hm : K / 2 + 1 ≤ m) (h : ∀ i, i < m → ((S i).st = 1 ∧ (S i).x = c ∧ (S i).a = a) ∨ (S i).st = 0) (ho : ∃ i, i < m ∧ (S i).r = o) :
    ((∀ i, i < m → (S i).st = 0) → prepared K o S m = (4, Cm.zero, At.of 0)) ∧ ((∃ i, i < m ∧ (S i).st = 1) → prepared K o S m = (3, c, a)) := by
  have hc : comTo S m = none := comTo_none S m fun i hi => by rcases h i hi with ⟨h, _⟩ | h <;> omega
  have h2 : bestTo S 2 m = -1 := bestTo_none S 2 m fun i hi => by rcases h i hi with ⟨h, _⟩ | h <;> omega
  obtain ⟨i0, hi0, hio⟩ := ho
  have ht := thereTo_true S o m i0 hi0 hio
  unfold prepared
  rw [if_neg (by omega), hc, h2, ht]
  refine ⟨fun h0 => ?_, fun ⟨i, hi, h1⟩ => ?_⟩
  · rw [bestTo_none S 1 m fun i hi => by have := h0 i hi; omega]
    simp
  · rcases bestTo_some S 1 m with ⟨_, hn⟩ | ⟨j, hj, hb, hs⟩
    · exact absurd h1 (hn i hi)
    · rw [hb]
      rcases h j hj with ⟨_, hx, ha⟩ | h0
      · simp only [Int.toNat_natCast]
        rw [if_neg (by omega), if_neg (by omega), if_neg (by simp), hx, ha]
      · omega
end Go.Proofs.Ytmpefdepcbfcdaa
