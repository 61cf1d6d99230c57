/-
  Lists of rows that grow by append; reading them; deps.Covers where it holds.
-/
import Derived.Test.YtleagecocffihaaIfAskW
import Derived.Test.YtleagecocffihaaOwn
import Derived.Deep.MidRow
import Derived.Deep.WholeRow
import Derived.Deep.RegionLaw
namespace Go.Proofs.Ytleagecocffihaa
open Go.RowKit
set_option linter.unusedVariables false
set_option linter.unusedSimpArgs false

theorem rows_of_owns {w : World} {base n s : Nat} {e : TypeId} {v : Value} {xs : List Value} (h : w.ownsRow base e s v n xs) (h0 : 0 < n) :
    ∃ g c, v = .slice (some ⟨g, 0, none⟩) n c ∧ base ≤ g ∧ n ≤ c ∧ c ≤ maxLen ∧ ∀ V : Nat → List Value, (∀ i, i < n → (V i).length = s) → (∀ i, i < n → ∀ j, j < s → xs[i * s + j]? = (V i)[j]?) → IsRows w (some ⟨g, 0, none⟩) n s V := by
  obtain ⟨h1, h2⟩ := h
  rcases h2 with ⟨_, h2⟩ | ⟨g, cap, cur, rfl, hg, hh, hc, hm, hs, ht⟩
  · omega
  · refine ⟨g, cap, rfl, hg, hc, hm, fun V hl hx => ⟨by omega, hl, fun _ => ⟨g, 0, rfl, (Array.getElem?_eq_some_iff.1 hh).1, fun i hi j hj => ?_⟩⟩⟩
    rw [← hx i hi j hj, ← ht]
    have hij : i * s + j < n * s := by
      have h3 : (i + 1) * s ≤ n * s := Nat.mul_le_mul_right s (by omega)
      rw [Nat.add_mul, Nat.one_mul] at h3
      omega
    rw [List.getElem?_take_of_lt hij, Array.getElem?_toList, Nat.zero_add]
    simp [World.cell?, hh]
def flat (s len : Nat) (V : Nat → List Value) : List Value := (List.range (len * s)).map fun t => (V (t / s)).getD (t % s) undef
theorem flat_len (s len : Nat) (V : Nat → List Value) : (flat s len V).length = len * s := by simp [flat]
theorem flat_at (s len : Nat) (V : Nat → List Value) (i j : Nat) (hi : i < len) (hj : j < s) (hl : (V i).length = s) : (flat s len V)[i * s + j]? = (V i)[j]? := by
  have hij : i * s + j < len * s := by
    have h3 : (i + 1) * s ≤ len * s := Nat.mul_le_mul_right s (by omega)
    rw [Nat.add_mul, Nat.one_mul] at h3
    omega
  unfold flat
  rw [List.getElem?_map, List.getElem?_range hij]
  have e1 : (i * s + j) / s = i := by rw [Nat.mul_comm, Nat.mul_add_div (by omega), Nat.div_eq_of_lt hj, Nat.add_zero]
  have e2 : (i * s + j) % s = j := by rw [Nat.mul_comm, Nat.mul_add_mod, Nat.mod_eq_of_lt hj]
  rw [Option.map_some, e1, e2, List.getD_eq_getElem?_getD, List.getElem?_eq_getElem (by omega), Option.getD_some]
theorem IsRows.reads {w W : World} {a : Option Addr} {len s : Nat} {V : Nat → List Value} (h : IsRows w a len s V) (hbl : Below w.heap.size w W) (hs : 0 < s) : Reads W a (flat s len V) := by
  intro h0
  rw [flat_len] at h0
  have hl : 0 < len := Nat.pos_of_mul_pos_right h0
  obtain ⟨b, off, rfl, hlt⟩ := h.spot hl
  refine ⟨b, off, rfl, Nat.lt_of_lt_of_le hlt hbl.size, fun j v hv => ?_⟩
  have hj : j < len * s := by have := (List.getElem?_eq_some_iff.1 hv).1; rwa [flat_len] at this
  have hd := Nat.div_add_mod j s
  have hm := Nat.mod_lt j hs
  have hk : j / s < len := Nat.div_lt_of_lt_mul (by rwa [Nat.mul_comm] at hj)
  have h1 := h.at hbl hk (j % s) hm
  have h2 := flat_at s len V (j / s) (j % s) hk hm (h.2.1 _ hk)
  rw [show j / s * s + j % s = j by rw [Nat.mul_comm]; exact hd] at h2
  rw [h2, ← h1] at hv
  rw [show off + j = off + j / s * s + j % s by rw [Nat.add_assoc, Nat.mul_comm]; omega]
  exact hv
theorem flat_one (s len : Nat) (V : Nat → List Value) (hl : ∀ i, i < len → (V i).length = s) (h : ∀ i, i < len → ∀ v ∈ V i, v.oneCell' = true) : ∀ u ∈ flat s len V, u.oneCell' = true := by
  intro u hu
  obtain ⟨k, hk⟩ := List.mem_iff_getElem?.1 hu
  have hk2 : k < len * s := by have := (List.getElem?_eq_some_iff.1 hk).1; rwa [flat_len] at this
  have hs : 0 < s := Nat.pos_of_mul_pos_left (Nat.lt_of_le_of_lt (Nat.zero_le _) hk2)
  have hi : k / s < len := Nat.div_lt_of_lt_mul (by rwa [Nat.mul_comm] at hk2)
  have hj := Nat.mod_lt k hs
  have h2 := flat_at s len V (k / s) (k % s) hi hj (hl _ hi)
  rw [show k / s * s + k % s = k by rw [Nat.mul_comm]; exact Nat.div_add_mod k s, hk] at h2
  exact h _ hi u (List.mem_of_getElem? h2.symm)
theorem owns_below {w w' : World} {base size n : Nat} {e : TypeId} {v : Value} {xs : List Value} (h : w.ownsRow base e size v n xs) (hb : Below w.heap.size w w') : w'.ownsRow base e size v n xs := by
  obtain ⟨h1, h2⟩ := h
  refine ⟨h1, ?_⟩
  rcases h2 with h2 | ⟨g, cap, cur, hv, hg, hh, hr⟩
  · exact .inl h2
  · have : g < w.heap.size := (Array.getElem?_eq_some_iff.1 hh).1
    exact .inr ⟨g, cap, cur, hv, hg, by rw [hb.block g this]; exact hh, hr⟩
theorem flat_append {s m n : Nat} {V W X : Nat → List Value} (hs : 0 < s) (hv : ∀ i, i < m → (V i).length = s) (hw : ∀ i, i < n → (W i).length = s) (hx1 : ∀ i, i < m → X i = V i) (hx2 : ∀ i, i < n → X (m + i) = W i) : flat s m V ++ flat s n W = flat s (m + n) X := by
  apply List.ext_getElem?
  intro t
  have hm := Nat.mod_lt t hs
  have e : t / s * s + t % s = t := by rw [Nat.mul_comm]; exact Nat.div_add_mod t s
  have hmn : (m + n) * s = m * s + n * s := Nat.add_mul m n s
  by_cases ht : t < m * s
  · have hk : t / s < m := Nat.div_lt_of_lt_mul (by rwa [Nat.mul_comm] at ht)
    rw [List.getElem?_append_left (by rw [flat_len]; exact ht)]
    have h1 := flat_at s m V (t / s) (t % s) hk hm (hv _ hk)
    have h2 := flat_at s (m + n) X (t / s) (t % s) (by omega) hm (by rw [hx1 _ hk]; exact hv _ hk)
    rw [e] at h1 h2
    rw [h1, h2, hx1 _ hk]
  · by_cases ht2 : t < (m + n) * s
    · rw [List.getElem?_append_right (by rw [flat_len]; omega), flat_len]
      have hk : t / s < m + n := Nat.div_lt_of_lt_mul (by rwa [Nat.mul_comm] at ht2)
      have hk2 : m ≤ t / s := (Nat.le_div_iff_mul_le hs).2 (by omega)
      have hkn : t / s - m < n := by omega
      have h1 := flat_at s n W (t / s - m) (t % s) hkn hm (hw _ hkn)
      have h2 := flat_at s (m + n) X (t / s) (t % s) hk hm (by rw [show t / s = m + (t / s - m) by omega, hx2 _ hkn]; exact hw _ hkn)
      rw [e] at h2
      rw [show (t / s - m) * s + t % s = t - m * s by rw [Nat.sub_mul]; have : m * s ≤ t / s * s := Nat.mul_le_mul_right s hk2; omega] at h1
      rw [h1, h2]
      have h3 := hx2 _ hkn
      rw [show m + (t / s - m) = t / s by omega] at h3
      rw [h3]
    · rw [List.getElem?_eq_none (by rw [List.length_append, flat_len, flat_len]; omega), List.getElem?_eq_none (by rw [flat_len]; omega)]
theorem flat_of_one {s : Nat} {V : Nat → List Value} (hv : (V 0).length = s) : flat s 1 V = V 0 := by
  apply List.ext_getElem?
  intro t
  by_cases ht : t < s
  · have := flat_at s 1 V 0 t (by omega) ht hv
    rwa [Nat.zero_mul, Nat.zero_add] at this
  · rw [List.getElem?_eq_none (by rw [flat_len]; omega), List.getElem?_eq_none (by omega)]
theorem flat_snoc {s m : Nat} {V : Nat → List Value} (hs : 0 < s) (hv : ∀ i, i < m + 1 → (V i).length = s) : flat s m V ++ V m = flat s (m + 1) V := by
  have h1 : flat s 1 (fun i => V (m + i)) = V m := flat_of_one (V := fun i => V (m + i)) (hv m (by omega))
  rw [← h1]
  exact flat_append hs (fun i hi => hv i (by omega)) (fun i hi => hv _ (by omega)) (fun _ _ => rfl) (fun _ _ => rfl)
theorem flat_zero (s : Nat) (V : Nat → List Value) : flat s 0 V = [] := by simp [flat]
theorem IsRows.drop {w : World} {b off len n : Nat} {V : Nat → List Value} (h : IsRows w (some ⟨b, off, none⟩) len n V) (k : Nat) (hk : k ≤ len) : IsRows w (some ⟨b, off + k * n, none⟩) (len - k) n fun i => V (k + i) := by
  obtain ⟨h1, h2, h3⟩ := h
  refine ⟨by omega, fun i hi => h2 _ (by omega), fun h0 => ?_⟩
  obtain ⟨b', off', ha, hlt, hc⟩ := h3 (by omega)
  simp only [Option.some.injEq, Addr.mk.injEq] at ha
  obtain ⟨rfl, rfl, _⟩ := ha
  refine ⟨b, _, rfl, hlt, fun i hi j hj => ?_⟩
  rw [← hc (k + i) (by omega) j hj]
  congr 3
  rw [Nat.add_mul]; omega
theorem step_append_rows {P : Program} {ops : Array Oper} {o : Oper} {a : Act} {w : World} {K : Act → World → Prop} {Q : Exit → Act → World → Prop} {E : Prop}
    (hg : o.guard = none) (s x : Operand) (t : TypeId) (hop : o.op = Op.call { callee := Callee.builtin Builtin.append, args := #[s, x], argTypes := #[t, t] })
    (base : Nat) (e : TypeId) (z : Value) (size bytes : Nat) (ht : P.underlying t = some (.slice e)) (hi : (P.info? e).map (fun i => (i.zero, i.size, i.bytes)) = some (some z, size, bytes)) (hzs : z.cells.size = size) (hsz : 0 < size)
    (v : Value) (n : Nat) (xs : List Value) (hs : a.eval s = v) (hown : w.ownsRow base e size v n xs)
    (b off m c : Nat) (V : Nat → List Value) (hx : a.eval x = .slice (some ⟨b, off, none⟩) m c) (hsrc : IsRows w (some ⟨b, off, none⟩) m size V) (h1 : ∀ i, i < m → ∀ u ∈ V i, u.oneCell' = true)
    (h63 : n + m ≤ maxLen) (hbytes : (n + m) * bytes ≤ 140737488355328) (hbase : base ≤ w.heap.size)
    (hK : ∀ v' w', w'.ownsRow base e size v' (n + m) (xs ++ flat size m V) → Below base w w' → K (a.put o.dst v') w') :
    if Region.wanted o (yielded ops a.tmps) = true then Oper.wp P o a w K Q else E := by
  have hw : Region.wanted o (yielded ops a.tmps) = true := by simp [Region.wanted, hg]
  rw [if_pos hw]
  obtain ⟨i, hi0, hz, hsize, hby⟩ := info_parts hi
  have hnews : ∀ j u, (flat size m V)[j]? = some u → w.cell? ((⟨b, off, none⟩ : Addr).add j) = some u := by
    intro j u hu
    have hj : j < m * size := by have := (List.getElem?_eq_some_iff.1 hu).1; rwa [flat_len] at this
    have h0 : 0 < (flat size m V).length := by rw [flat_len]; omega
    obtain ⟨b', off', hb, _, hc⟩ := hsrc.reads (Below.refl _ _) hsz h0
    simp only [Option.some.injEq, Addr.mk.injEq] at hb
    obtain ⟨rfl, rfl, _⟩ := hb
    rw [add_at]; exact hc j u hu
  have h1c := flat_one size m V hsrc.2.1 h1
  obtain ⟨v', w', hrun, r1, r2, _⟩ := run_append_own (P := P) w base t o.type e i z size bytes ht hi0 hz hsize hby hzs hsz v n xs hown ⟨b, off, none⟩ m c (flat size m V) (flat_len _ _ _) hnews h1c h63 hbytes hbase
  unfold Oper.wp
  simp [execOp, hop, resolve, invoke, builtin, hs, hx, hrun, Result.andThen]
  exact hK v' w' r1 ((Below.refl _ _).grown r2 hbase fun k hk => (hown.lt k hk).1)

/-! ### What a Prepare comes to -/
theorem Touch.then {g : Nat} {w w1 w2 : World} (h : Touch g w w1) (h2 : Below w.heap.size w1 w2) : Touch g w w2 :=
  ⟨h2.os.trans h.os, h2.tape.trans h.tape, h2.output.trans h.output, Nat.le_trans h.size h2.size, fun k hk hne => (h2.block k hk).trans (h.block k hk hne)⟩
theorem wpList_store_new {P : Program} {ops : Array Oper} {rest : List Oper} {op : Oper} {a : Act} {Q : Exit → Act → World → Prop} (hgd : op.guard = none) (ty : TypeId) (x y : Operand) (ho : op.op = .store ty x y) (hd : op.dst = none)
    (w : World) (c cells : Array Value) (hx : a.eval x = .pointer (some ⟨w.heap.size, 0, none⟩)) (hy : a.eval y = .agg cells)
    (hi : (P.info? ty).map (·.size) = some cells.size) (hc : c.size = cells.size) (h1 : cells.all (·.oneCell') = true)
    (h : wpList P ops Q rest a (w.alloc (.cells cells ty))) : wpList P ops Q (op :: rest) a (w.alloc (.cells c ty)) :=
  wpList_plain hgd fun _ hK => by
    unfold Oper.wp execOp
    simp only [ho, hx, hy, Instr.storeAt, Instr.sureAddr, Sem.run_bind, Sem.run_pure, Result.andThen_ok, run_storeVar_new w ty c cells hi hc h1]
    refine hK _ _ ?_
    rw [hd]
    exact h
theorem wpList_store_at {P : Program} {ops : Array Oper} {rest : List Oper} {op : Oper} {a : Act} {Q : Exit → Act → World → Prop} (hgd : op.guard = none) (ty : TypeId) (x y : Operand) (ho : op.op = .store ty x y) (hd : op.dst = none)
    (w : World) (c cells : Array Value) (g : Nat) (hg : w.heap.size = g) (hx : a.eval x = .pointer (some ⟨g, 0, none⟩)) (hy : a.eval y = .agg cells)
    (hi : (P.info? ty).map (·.size) = some cells.size) (hc : c.size = cells.size) (h1 : cells.all (·.oneCell') = true)
    (h : wpList P ops Q rest a (w.alloc (.cells cells ty))) : wpList P ops Q (op :: rest) a (w.alloc (.cells c ty)) :=
  wpList_store_new hgd ty x y ho hd w c cells (by rw [hg]; exact hx) hy hi hc h1 h
theorem IsRows.grown {w : World} {b off len n : Nat} {V : Nat → List Value} (h : IsRows w (some ⟨b, off, none⟩) len n V) (d : Nat) (os : Array Obj) {k : Nat} (hk : k < len) (j : Nat) (hj : j < n) : (Sort.grow (redrawn w d) os).cell? ⟨b, off + k * n + j, none⟩ = (V k)[j]? :=
  h.at (below_regrown w d os) hk j hj
theorem open_rows_nil {H : Type} {enc : TypeId × Value → H} {P : Program} {W : World} {t e : TypeId} {a : Option Addr} {len cap : Nat} {d : DataW H} {pl : List MemPlace}
    (ht : P.underlying t = some (.slice e)) (h : DataW.Trod enc P W 0 (fun _ => true) true t (.slice a len cap) d pl) : a = none → cap = 0 := by
  obtain ⟨fuel, hf⟩ := h
  rcases Deep.open_slice ht hf with ⟨hcs, _⟩ | ⟨x, l, c, m, k, D, Pl, hcs, _⟩
  · simp [Value.cells] at hcs
    obtain ⟨rfl, rfl, rfl⟩ := hcs
    exact fun _ => rfl
  · simp [Value.cells] at hcs
    obtain ⟨rfl, rfl, rfl⟩ := hcs
    intro h; cases h
def depL (d : Nat → Int) : List Value := [.int .i64 (d 0), .int .i64 (d 1), .int .i64 (d 2), .int .i64 (d 3), .int .i64 (d 4), .int .i64 (d 5), .int .i64 (d 6)]
theorem depL_get (d : Nat → Int) (k : Nat) (hk : k < 7) : (depL d)[k]? = some (.int .i64 (d k)) := by
  rcases (show k = 0 ∨ k = 1 ∨ k = 2 ∨ k = 3 ∨ k = 4 ∨ k = 5 ∨ k = 6 by omega) with rfl | rfl | rfl | rfl | rfl | rfl | rfl <;> rfl
theorem covers_yes (a b : Nat → Int) (w : World) (h : ∀ i, i < 7 → b i ≤ a i) :
    Calls Try.prog 26 #[.agg #[.int .i64 (a 0), .int .i64 (a 1), .int .i64 (a 2), .int .i64 (a 3), .int .i64 (a 4), .int .i64 (a 5), .int .i64 (a 6)], .agg #[.int .i64 (b 0), .int .i64 (b 1), .int .i64 (b 2), .int .i64 (b 3), .int .i64 (b 4), .int .i64 (b 5), .int .i64 (b 6)]] w fun e w' => e = .returned (.bool true) ∧ Below w.heap.size w w' := by
  have H := Lib.hid h; clear h
  have hidx := fun q hq W => idx_deps b q hq W
  have hha : Holds ((w.alloc (.cells #[.int .i64 (a 0), .int .i64 (a 1), .int .i64 (a 2), .int .i64 (a 3), .int .i64 (a 4), .int .i64 (a 5), .int .i64 (a 6)] 32)).alloc (.cells #[.int .i64 (b 0), .int .i64 (b 1), .int .i64 (b 2), .int .i64 (b 3), .int .i64 (b 4), .int .i64 (b 5), .int .i64 (b 6)] 32)) w.heap.size 32 (depL a) := holds_past (holds_alloc w _ _) _
  have hb0 : Below w.heap.size w ((w.alloc (.cells #[.int .i64 (a 0), .int .i64 (a 1), .int .i64 (a 2), .int .i64 (a 3), .int .i64 (a 4), .int .i64 (a 5), .int .i64 (a 6)] 32)).alloc (.cells #[.int .i64 (b 0), .int .i64 (b 1), .int .i64 (b 2), .int .i64 (b 3), .int .i64 (b 4), .int .i64 (b 5), .int .i64 (b 6)] 32)) := by go_grown
  have HA := Lib.hid (And.intro hha hb0); clear hha hb0
  have HI := Lib.hid hidx; clear hidx
  go_enter Try.func26, Try.ntmps26
  go_wp2_with fail
  go_loopw [8] (fun i wr => ∃ q : Nat, q ≤ 7 ∧ i = .int .i64 q ∧ Holds wr w.heap.size 32 (depL a) ∧ Below w.heap.size w wr) (fun i _ => 7 - (intOf i).toNat)
  case atStart => exact ⟨0, by omega, rfl, HA.out⟩
  case round =>
    clear HA
    obtain ⟨q, hq, rfl, hha, hb⟩ := hrel
    have HB := Lib.hid hb; clear hb
    by_cases h1 : q < 7
    · have hix := HI.out q h1
      have hle := H.out q h1
      have hcell := hha.cell q
      rw [depL_get a q h1] at hcell
      have HA := Lib.hid hha; clear hha
      go_wp2_with fail
      go_roundw
      case rel => exact ⟨q + 1, by omega, by go_num, HA.out, HB.out⟩
      case measure => simp [intOf]; omega
    · have hq7 : q = 7 := by omega
      subst hq7
      clear hha
      go_wp2_with fail
      go_ret
      exact ⟨rfl, HB.out⟩
theorem eq_deps (a0 a1 a2 a3 a4 a5 a6 b0 b1 b2 b3 b4 b5 b6 : Int) (w : World) : (Op.equalIn 9999 32 (.agg #[.int .i64 a0, .int .i64 a1, .int .i64 a2, .int .i64 a3, .int .i64 a4, .int .i64 a5, .int .i64 a6]) (.agg #[.int .i64 b0, .int .i64 b1, .int .i64 b2, .int .i64 b3, .int .i64 b4, .int .i64 b5, .int .i64 b6])).run Try.prog w = .ok (a0 == b0 && (a1 == b1 && (a2 == b2 && (a3 == b3 && (a4 == b4 && (a5 == b5 && a6 == b6)))))) w := by
  have u3 := Try.underlying3
  have g3 := Try.isAgg3
  have z3 := Try.sizeOf3
  rw [show (9999 : Nat) = 9998 + 1 from rfl, Op.equalIn]
  simp only [Sem.run_bind, run_underlying Try.underlying32, Result.andThen_ok]
  simp only [Std.Legacy.Range.forIn_eq_forIn_range', Std.Legacy.Range.size, Nat.sub_zero, Nat.add_sub_cancel, Nat.div_one, List.range'_succ, List.range'_zero, List.forIn_cons, List.forIn_nil]
  go_simp
  by_cases h0 : a0 = b0
  · by_cases h1 : a1 = b1
    · by_cases h2 : a2 = b2
      · by_cases h3 : a3 = b3
        · by_cases h4 : a4 = b4
          · by_cases h5 : a5 = b5
            · by_cases h6 : a6 = b6 <;> simp [h0, h1, h2, h3, h4, h5, h6]
            · simp [h0, h1, h2, h3, h4, h5]
          · simp [h0, h1, h2, h3, h4]
        · simp [h0, h1, h2, h3]
      · simp [h0, h1, h2]
    · simp [h0, h1]
  · simp [h0]
theorem eq_att_self (q : Int) (d : Nat → Int) (w : World) : (binOp .eql 34 (.agg #[.int .i64 q, .int .i64 (d 0), .int .i64 (d 1), .int .i64 (d 2), .int .i64 (d 3), .int .i64 (d 4), .int .i64 (d 5), .int .i64 (d 6)]) (.agg #[.int .i64 q, .int .i64 (d 0), .int .i64 (d 1), .int .i64 (d 2), .int .i64 (d 3), .int .i64 (d 4), .int .i64 (d 5), .int .i64 (d 6)])).run Try.prog w = .ok (.bool true) w := by
  have hd := fun w => eq_deps (d 0) (d 1) (d 2) (d 3) (d 4) (d 5) (d 6) (d 0) (d 1) (d 2) (d 3) (d 4) (d 5) (d 6) w
  simp only [beq_self_eq_true, Bool.and_self] at hd
  rw [run_eql_struct, show (10000 : Nat) = 9999 + 1 from rfl, run_equalIn_struct w 9999 34 _ _ (by kernel_rfl) (by kernel_rfl)]
  go_simp
theorem neq_inst (r s r' s' : Int) (w : World) : (binOp .neq 26 (.agg #[.int .i64 r, .int .i64 s]) (.agg #[.int .i64 r', .int .i64 s'])).run Try.prog w = .ok (.bool (!(r == r' && s == s'))) w := by
  by_cases h1 : r = r' <;> by_cases h2 : s = s' <;> go_simp <;> simp [h1, h2]
theorem owns_touch {w w' : World} {base size n b : Nat} {e : TypeId} {v : Value} {xs : List Value} (h : w.ownsRow base e size v n xs) (ht : Touch b w w') (hb : b < base) : w'.ownsRow base e size v n xs := by
  obtain ⟨h1, h2⟩ := h
  refine ⟨h1, ?_⟩
  rcases h2 with h2 | ⟨g, cap, cur, hv, hg, hh, hr⟩
  · exact .inl h2
  · have : g < w.heap.size := (Array.getElem?_eq_some_iff.1 hh).1
    exact .inr ⟨g, cap, cur, hv, hg, by rw [ht.block g this (by omega)]; exact hh, hr⟩
theorem own_open {w : World} {B : Nat} {v : Value} {m : Nat} {O : Nat → Ask} (h : w.ownsRow B 43 18 v m (flat 18 m fun i => (O i).cells)) : ∃ p c, v = .slice p m c ∧ IsRows w p m 18 (fun i => (O i).cells) ∧ m ≤ c ∧ c ≤ maxLen := by
  by_cases h0 : 0 < m
  · obtain ⟨g, c, hv, hg, hc, hm, hr⟩ := rows_of_owns h h0
    exact ⟨_, c, hv, hr _ (fun i _ => rfl) (fun i hi k hk => flat_at 18 m _ i k hi hk rfl), hc, hm⟩
  · have hm : m = 0 := by omega
    subst hm
    obtain ⟨_, h2⟩ := h
    rcases h2 with ⟨hv, _⟩ | ⟨g, cap, cur, hv, _, _, hc, hm, _⟩
    · exact ⟨none, 0, hv, ⟨by unfold maxLen; omega, fun i hi => by omega, fun h => by omega⟩, Nat.le_refl _, by unfold maxLen; omega⟩
    · exact ⟨_, cap, hv, ⟨by unfold maxLen; omega, fun i hi => by omega, fun h => by omega⟩, hc, hm⟩
theorem own_rows {w : World} {B : Nat} {p : Option Addr} {m c : Nat} {O : Nat → Ask} (h : w.ownsRow B 43 18 (.slice p m c) m (flat 18 m fun i => (O i).cells)) : IsRows w p m 18 (fun i => (O i).cells) := by
  obtain ⟨p', c', hv, hr, _⟩ := own_open h
  injection hv with h1 h2 h3
  rw [h1]; exact hr
theorem Ask.cells_one (x : Ask) : ∀ u ∈ x.cells, u.oneCell' = true := by
  have : x.cells.toArray.all (·.oneCell') = true := by simp [Ask.cells, Value.oneCell']
  rw [List.all_toArray] at this
  exact fun u hu => List.all_eq_true.1 this u hu
theorem append_ask {w : World} {ops : Array Oper} {rest : List Oper} {o : Oper} {a : Act} {Q : Exit → Act → World → Prop} (hgd : o.guard = none) (s x : Operand)
    (ho : o.op = .call { callee := .builtin .append, args := #[s, x], argTypes := #[40, 40] })
    (B m : Nat) (v : Value) (O : Nat → Ask) (y : Ask) (hs : a.eval s = v) (hown : w.ownsRow B 43 18 v m (flat 18 m fun i => (O i).cells)) (gx : Nat) (hx : a.eval x = .slice (some ⟨gx, 0, none⟩) 1 1) (hh : Holds w gx 43 y.cells)
    (hm : m ≤ 1000) (hB : B ≤ w.heap.size)
    (h : ∀ v' w', w'.ownsRow B 43 18 v' (m + 1) (flat 18 (m + 1) fun i => (if i < m then O i else y).cells) → Below B w w' → wpList Try.prog ops Q rest (a.put o.dst v') w') : wpList Try.prog ops Q (o :: rest) a w := by
  refine wpList_append_cells hgd s x 40 ho B 43 (.agg #[.int .i64 0, .int .i64 0, .int .i64 0, .int .i64 0, .int .i64 0, .int .i64 0, .int .i64 0, .string ⟨#[]⟩, .string ⟨#[]⟩, .string ⟨#[]⟩, .string ⟨#[]⟩, .int .i64 0, .int .i64 0, .int .i64 0, .int .i64 0, .int .i64 0, .int .i64 0, .int .i64 0]) 18 176 rfl (by kernel_rfl) rfl (by decide) v m _ hs hown _ 1 1 y.cells hx rfl (hh.reads 0 _ (fun k v hk => by rw [Nat.zero_add]; exact hk)) (by intro h; cases h) y.cells_one (by unfold maxLen; omega) (by omega) hB ?_
  intro v' w' ho' hb' _
  refine h v' w' ?_ hb'
  have e1 : flat 18 m (fun i => (O i).cells) = flat 18 m (fun i => (if i < m then O i else y).cells) := by
    apply List.ext_getElem?
    intro t
    by_cases ht : t < m * 18
    · have hk : t / 18 < m := Nat.div_lt_of_lt_mul (by omega)
      have e : t / 18 * 18 + t % 18 = t := by omega
      have h1 := flat_at 18 m (fun i => (O i).cells) (t / 18) (t % 18) hk (Nat.mod_lt _ (by decide)) rfl
      have h2 := flat_at 18 m (fun i => (if i < m then O i else y).cells) (t / 18) (t % 18) hk (Nat.mod_lt _ (by decide)) rfl
      rw [e] at h1 h2
      rw [h1, h2]
      simp only [if_pos hk]
    · rw [List.getElem?_eq_none (by rw [flat_len]; omega), List.getElem?_eq_none (by rw [flat_len]; omega)]
  have e2 := flat_snoc (s := 18) (m := m) (V := fun i => (if i < m then O i else y).cells) (by decide) (fun i _ => rfl)
  simp only [Nat.lt_irrefl, if_false] at e2
  rw [← e2, ← e1]
  exact ho'
end Go.Proofs.Ytleagecocffihaa
