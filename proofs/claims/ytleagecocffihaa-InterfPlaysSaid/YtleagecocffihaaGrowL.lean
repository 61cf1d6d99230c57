/-
  Several lists grow in one statement (`a, b, c = append(a, x), append(b, y), append(c, z)`): the orders in which the literals are built and the appends come are one law, not a tree; no program in sight.
-/
import Derived.Test.YtleagecocffihaaOrdersL
import Derived.Test.YtleagecocffihaaIfDocL
import Derived.Test.YtleagecocffihaaBoxes
namespace Go.Proofs.Ytleagecocffihaa
open Go.RowKit Go.Maps
set_option linter.unusedVariables false
set_option linter.unusedSimpArgs false

/-! ### A set of operations that come one by one in whatever order their edges allow: an invariant, for each step once -/
def markL (L0 : Array Bool) (s : List Nat) : Array Bool := s.foldl (fun L i => L.setIfInBounds i true) L0
theorem mark_snoc (L0 : Array Bool) (s : List Nat) (i : Nat) : (markL L0 s).setIfInBounds i true = markL L0 (s ++ [i]) := by
  unfold markL
  rw [List.foldl_append]
  rfl
theorem mark_size (s : List Nat) : ∀ (L0 : Array Bool), (markL L0 s).size = L0.size := by
  induction s with
  | nil => intro L0; rfl
  | cons x s ih => intro L0; exact (ih _).trans (by simp)
theorem mark_get (s : List Nat) : ∀ (L0 : Array Bool) (j : Nat), (markL L0 s)[j]? = if j ∈ s ∧ j < L0.size then some true else L0[j]? := by
  induction s with
  | nil => intro L0 j; simp [markL]
  | cons x s ih =>
    intro L0 j
    show (markL (L0.setIfInBounds x true) s)[j]? = _
    rw [ih, Array.size_setIfInBounds, Array.getElem?_setIfInBounds]
    by_cases h1 : j ∈ s
    · by_cases h2 : j < L0.size
      · simp [h1, h2]
      · have h3 : L0[j]? = none := Array.getElem?_eq_none (by omega)
        by_cases h4 : x = j
        · subst h4; simp [h2, h3]
        · simp [h1, h2, h3, h4]
    · by_cases h4 : x = j
      · subst h4
        by_cases h2 : x < L0.size
        · simp [h1, h2]
        · simp [h1, h2]
      · simp [h1, h4, Ne.symm h4]
theorem mark_ext {L0 : Array Bool} {s s' : List Nat} (h : ∀ j, j ∈ s ↔ j ∈ s') : markL L0 s = markL L0 s' := by
  apply Array.ext_getElem?
  intro j
  rw [mark_get, mark_get]
  simp only [h j]
def subs : List Nat → List (List Nat)
  | [] => [[]]
  | x :: l => subs l ++ (subs l).map (x :: ·)
theorem filter_subs (p : Nat → Bool) : ∀ l : List Nat, l.filter p ∈ subs l
  | [] => by simp [subs]
  | x :: l => by
    rw [List.filter_cons]
    unfold subs
    split
    · exact List.mem_append_right _ (List.mem_map.2 ⟨_, filter_subs p l, rfl⟩)
    · exact List.mem_append_left _ (filter_subs p l)
/-- What an operation of R waits for in R is in s. -/
def hasB (md : Region.Mode) (ops : Array Oper) (R s : List Nat) (i : Nat) : Bool :=
  match ops[i]? with
  | some o => o.after.all fun e => !Region.binds md e || (!R.contains e.on || s.contains e.on)
  | none => false
def closedB (md : Region.Mode) (ops : Array Oper) (L0 : Array Bool) (R : List Nat) : Bool :=
  (R.all fun i => !L0.getD i true) && (subs R).all fun s => !(s.all (hasB md ops R s)) || (R.all s.contains || (let rd := Region.ready md ops (markL L0 s); !rd.isEmpty && rd.all R.contains))
theorem filter_less (s : List Nat) (i : Nat) (hi : i ∉ s) : ∀ R : List Nat, R.Nodup → i ∈ R → (R.filter fun j => decide (j ∉ s ++ [i])).length + 1 = (R.filter fun j => decide (j ∉ s)).length
  | [], _, h => by cases h
  | x :: R, hn, h => by
    rw [List.nodup_cons] at hn
    by_cases hx : x = i
    · subst hx
      have h0 : R.filter (fun j => decide (j ∉ s ++ [x])) = R.filter (fun j => decide (j ∉ s)) := by
        apply List.filter_congr
        intro j hj
        have : j ≠ x := fun hc => hn.1 (hc ▸ hj)
        simp [this]
      rw [List.filter_cons_of_neg (by simp), List.filter_cons_of_pos (by simpa using hi), h0]
      rfl
    · have hR : i ∈ R := by rcases List.mem_cons.1 h with h | h; exact absurd h.symm hx; exact h
      have ih := filter_less s i hi R hn.2 hR
      by_cases hxs : x ∈ s
      · rw [List.filter_cons_of_neg (by simp [hxs]), List.filter_cons_of_neg (by simp [hxs])]
        exact ih
      · rw [List.filter_cons_of_pos (by simp [hxs, hx]), List.filter_cons_of_pos (by simpa using hxs)]
        simp only [List.length_cons]
        omega
section
variable {P : Program} {ops : Array Oper} {Q : Exit → Act → World → Prop} {md : Region.Mode} {S : World → Prop} {X0 : List Nat}
theorem wpAnyL_ideal {L0 : Array Bool} {R : List Nat} {f : Nat} (J : (Nat → Prop) → Act → World → Prop) (hR : R.Nodup) (hcl : closedB md ops L0 R = true)
    (hstep : ∀ (s : List Nat) a w, J (· ∈ s) a w → ∀ i ∈ R, i ∉ s → hasB md ops R s i = true → wpOp P ops Q i (fun a' w' => J (· ∈ s ++ [i]) a' w') a w)
    (hJS : ∀ D a w, J D a w → S w)
    (hend : ∀ a w, J (· ∈ R) a w → wpAnyL P md ops Q S X0 f (markL L0 R) a w) :
    ∀ (k : Nat) (s : List Nat) (a : Act) (w : World), (∀ i ∈ s, i ∈ R) → (∀ i ∈ s, hasB md ops R s i = true) → (R.filter fun j => decide (j ∉ s)).length = k → J (· ∈ s) a w → wpAnyL P md ops Q S X0 (k + f) (markL L0 s) a w := by
  simp only [closedB, Bool.and_eq_true, List.all_eq_true] at hcl
  obtain ⟨hfree, hsub⟩ := hcl
  intro k
  induction k with
  | zero =>
    intro s a w hs _ hk hJ
    have hall : ∀ j, j ∈ s ↔ j ∈ R := fun j => ⟨hs j, fun hj => by
      have := List.length_eq_zero_iff.1 hk
      rw [List.filter_eq_nil_iff] at this
      simpa using this j hj⟩
    rw [Nat.zero_add, mark_ext hall]
    refine hend a w ?_
    have : (fun j => j ∈ s) = (fun j => j ∈ R) := funext fun j => propext (hall j)
    exact this ▸ hJ
  | succ k ih =>
    intro s a w hs hid hk hJ
    have hc := hsub _ (filter_subs (fun j => decide (j ∈ s)) R)
    have hmem : ∀ j, j ∈ R.filter (fun j => decide (j ∈ s)) ↔ j ∈ s := fun j => by
      rw [List.mem_filter]
      simp only [decide_eq_true_eq]
      exact ⟨fun h => h.2, fun h => ⟨hs j h, h⟩⟩
    have hhas : ∀ i, hasB md ops R (R.filter fun j => decide (j ∈ s)) i = hasB md ops R s i := fun i => by
      unfold hasB
      split
      · congr 1
        funext e
        have : (R.filter fun j => decide (j ∈ s)).contains e.on = s.contains e.on := by
          rw [Bool.eq_iff_iff, List.contains_iff_mem, List.contains_iff_mem]
          exact hmem _
        rw [this]
      · rfl
    have h1 : ((R.filter fun j => decide (j ∈ s)).all (hasB md ops R (R.filter fun j => decide (j ∈ s)))) = true := by
      rw [List.all_eq_true]
      intro i hi
      rw [hhas]
      exact hid i ((hmem i).1 hi)
    rw [h1] at hc
    have h2 : (R.all (R.filter fun j => decide (j ∈ s)).contains) = false := by
      rw [Bool.eq_false_iff]
      intro hc2
      rw [List.all_eq_true] at hc2
      have : R.filter (fun j => decide (j ∉ s)) = [] := by
        rw [List.filter_eq_nil_iff]
        intro j hj
        have := (hmem j).1 (List.contains_iff_mem.1 (hc2 j hj))
        simpa using this
      rw [this] at hk
      cases hk
    rw [h2, mark_ext hmem] at hc
    simp only [Bool.not_true, Bool.false_or, Bool.and_eq_true, Bool.not_eq_true', List.all_eq_true, List.contains_iff_mem] at hc
    obtain ⟨hne, hin⟩ := hc
    rw [Nat.add_right_comm]
    refine ⟨fun h0 => (by rw [h0] at hne; cases hne), fun i hi => ?_⟩
    have hiR := hin i hi
    obtain ⟨hun, o, ho, hall⟩ := mem_ready.1 hi
    have hsz : i < L0.size := by
      have := hfree i hiR
      rcases Nat.lt_or_ge i L0.size with h | h
      · exact h
      · simp [Array.getElem?_eq_none h] at this
    have his : i ∉ s := fun hc => by
      rw [Array.getD_eq_getD_getElem?, mark_get, if_pos ⟨hc, hsz⟩] at hun
      cases hun
    have hhasi : hasB md ops R s i = true := by
      unfold hasB
      rw [ho]
      simp only []
      rw [Array.all_eq_true']
      intro e he
      cases hb : Region.binds md e
      · rfl
      · simp only [Bool.not_true, Bool.false_or]
        by_cases heR : e.on ∈ R
        · have h3 := hall e he hb
          rw [Array.getD_eq_getD_getElem?, mark_get] at h3
          by_cases hes : e.on ∈ s
          · simp [hes]
          · rw [if_neg (fun hc => hes hc.1)] at h3
            have h4 := hfree _ heR
            rw [Array.getD_eq_getD_getElem?] at h4
            cases hq : L0[e.on]? with
            | none => rw [hq] at h3; cases h3
            | some b => rw [hq] at h3 h4; simp at h3 h4; rw [h3] at h4; cases h4
        · simp [heR]
    refine wpOp_mono (fun a' w' hJ' => ⟨fun _ => hJS _ a' w' hJ', ?_⟩) (hstep s a w hJ i hiR his hhasi)
    rw [mark_snoc]
    refine ih (s ++ [i]) a' w' ?_ ?_ ?_ hJ'
    · intro j hj
      rcases List.mem_append.1 hj with h | h
      · exact hs j h
      · rw [List.mem_singleton.1 h]; exact hiR
    · intro j hj
      have hmono : hasB md ops R s j = true → hasB md ops R (s ++ [i]) j = true := by
        unfold hasB
        split
        · intro h
          rw [Array.all_eq_true'] at h ⊢
          intro e he
          have := h e he
          revert this
          cases Region.binds md e <;> cases R.contains e.on <;> simp
          intro h; exact .inl h
        · exact id
      rcases List.mem_append.1 hj with h | h
      · exact hmono (hid j h)
      · have hji := List.mem_singleton.1 h; subst hji; exact hmono hhasi
    · have := filter_less s i his R hR hiR
      omega
/-! ### Lists that grow -/
/-- One list: which operation builds the literal, which appends it; their slots; the slot of the list; the element's type, its cells; the list, what it holds, what is put behind it. -/
structure App where
  b : Nat
  a : Nat
  db : Tmp
  da : Tmp
  src : Tmp
  e : TypeId
  s : Nat
  v : Value
  n : Nat
  xs : List Value
  L : List Value
/-- An operation that yields one value in whatever world, and comes in between. -/
structure Mov where
  i : Nat
  d : Tmp
  v : Value
def AsWas (apps : List App) (mv : List Mov) (A0 a : Act) : Prop := a.tmps.size = A0.tmps.size ∧ a.defers = A0.defers ∧ ∀ t : Nat, (∀ x ∈ apps, x.db ≠ t ∧ x.da ≠ t) → (∀ y ∈ mv, y.d ≠ t) → a.tmps[t]? = A0.tmps[t]?
def layM (mv : List Mov) (A0 : Act) : Act := mv.foldl (fun a y => a.put (some y.d) y.v) A0
def layL (apps : List App) (β : Nat → Nat) (ρ : Nat → Value) (A0 : Act) : Act := apps.foldl (fun a x => (a.put (some x.db) (.slice (some ⟨β x.b, 0, none⟩) 1 1)).put (some x.da) (ρ x.a)) A0
structure AppsOk (P : Program) (md : Region.Mode) (ops : Array Oper) (Q : Exit → Act → World → Prop) (B : Nat) (A0 : Act) (apps : List App) (mv : List Mov) : Prop where
  build : ∀ x ∈ apps, ∃ o, ops[x.b]? = some o ∧ o.guard = none ∧ o.dst = some x.db ∧ ∀ a w K, AsWas apps mv A0 a → K (a.put (some x.db) (.slice (some ⟨w.heap.size, 0, none⟩) 1 1)) (w.alloc (.cells x.L.toArray x.e)) → o.wp P a w K Q
  grow : ∀ x ∈ apps, ∃ o t z bytes, ops[x.a]? = some o ∧ o.guard = none ∧ o.dst = some x.da ∧ o.op = Op.call { callee := Callee.builtin Builtin.append, args := #[.tmp x.src, .tmp x.db], argTypes := #[t, t] } ∧ P.underlying t = some (.slice x.e) ∧ (P.info? x.e).map (fun i => (i.zero, i.size, i.bytes)) = some (some z, x.s, bytes) ∧ z.cells.size = x.s ∧ (x.n + 1) * bytes ≤ 140737488355328 ∧ A0.tmps[x.src]? = some x.v
  fits : ∀ x ∈ apps, 0 < x.s ∧ x.L.length = x.s ∧ x.L.all (·.oneCell') = true ∧ x.n + 1 ≤ maxLen
  src : ∀ x ∈ apps, ∀ y ∈ apps, y.db ≠ x.src ∧ y.da ≠ x.src
  slots : ∀ x ∈ apps, x.db < A0.tmps.size ∧ x.da < A0.tmps.size
  slot : ∀ x ∈ apps, ∀ y ∈ apps, x.db ≠ y.da ∧ (x.db = y.db → x = y) ∧ (x.da = y.da → x = y)
  types : ∀ x ∈ apps, ∀ y ∈ apps, x.e = y.e → x = y
  num : ∀ x ∈ apps, ∀ y ∈ apps, x.b ≠ y.a ∧ (x.b = y.b → x = y) ∧ (x.a = y.a → x = y)
  moves : ∀ y ∈ mv, ∃ o, ops[y.i]? = some o ∧ o.guard = none ∧ o.dst = some y.d ∧ ∀ a w K, AsWas apps mv A0 a → K (a.put (some y.d) y.v) w → o.wp P a w K Q
  mfit : ∀ y ∈ mv, y.d < A0.tmps.size ∧ (∀ x ∈ apps, x.db ≠ y.d ∧ x.da ≠ y.d ∧ x.src ≠ y.d ∧ x.b ≠ y.i ∧ x.a ≠ y.i)
  mone : ∀ y ∈ mv, ∀ z ∈ mv, (y.d = z.d → y = z) ∧ (y.i = z.i → y = z)
  wait : ∀ x ∈ apps, ∃ o, ops[x.a]? = some o ∧ (o.after.any fun e => Region.binds md e && e.on == x.b) = true
/-- What holds while some have come. -/
structure Grown (Inv : World → Prop) (B : Nat) (A0 : Act) (apps : List App) (mv : List Mov) (D : Nat → Prop) (a : Act) (w : World) : Prop where
  le : B ≤ w.heap.size
  inv : Inv w
  was : AsWas apps mv A0 a
  mo : ∀ y ∈ mv, D y.i → a.tmps[y.d]? = some y.v
  st : ∃ (β : Nat → Nat) (ρ : Nat → Value), ∀ x ∈ apps, (D x.a → D x.b) ∧ (D x.b → a.tmps[x.db]? = some (.slice (some ⟨β x.b, 0, none⟩) 1 1)) ∧ (D x.a → a.tmps[x.da]? = some (ρ x.a) ∧ w.ownsRow B x.e x.s (ρ x.a) (x.n + 1) (x.xs ++ x.L)) ∧ (¬ D x.a → w.ownsRow B x.e x.s x.v x.n x.xs) ∧ (D x.b → ¬ D x.a → Holds w (β x.b) x.e x.L)
theorem lay_get (β : Nat → Nat) (ρ : Nat → Value) : ∀ (apps : List App) (A0 : Act), (layL apps β ρ A0).tmps.size = A0.tmps.size ∧ (layL apps β ρ A0).defers = A0.defers ∧ ∀ t : Nat, (∀ x ∈ apps, x.db ≠ t ∧ x.da ≠ t) → (layL apps β ρ A0).tmps[t]? = A0.tmps[t]?
  | [], _ => ⟨rfl, rfl, fun _ _ => rfl⟩
  | x :: apps, A0 => by
    obtain ⟨h1, h2, h3⟩ := lay_get β ρ apps ((A0.put (some x.db) (.slice (some ⟨β x.b, 0, none⟩) 1 1)).put (some x.da) (ρ x.a))
    refine ⟨h1.trans (by rw [put_size, put_size]), h2.trans rfl, fun t ht => ?_⟩
    refine (h3 t fun y hy => ht y (List.mem_cons_of_mem _ hy)).trans ?_
    obtain ⟨h4, h5⟩ := ht x List.mem_cons_self
    rw [put_other _ _ _ _ (fun hc => h5 (by injection hc)), put_other _ _ _ _ (fun hc => h4 (by injection hc))]
theorem lay_at (β : Nat → Nat) (ρ : Nat → Value) : ∀ (apps : List App) (A0 : Act), (∀ x ∈ apps, x.db < A0.tmps.size ∧ x.da < A0.tmps.size) → (∀ x ∈ apps, ∀ y ∈ apps, x.db ≠ y.da ∧ (x.db = y.db → x = y) ∧ (x.da = y.da → x = y)) → ∀ x ∈ apps, (layL apps β ρ A0).tmps[x.db]? = some (.slice (some ⟨β x.b, 0, none⟩) 1 1) ∧ (layL apps β ρ A0).tmps[x.da]? = some (ρ x.a)
  | [], _, _, _, x, hx => by cases hx
  | y :: apps, A0, hsz, hsl, x, hx => by
    show (layL apps β ρ _).tmps[x.db]? = _ ∧ (layL apps β ρ _).tmps[x.da]? = _
    by_cases hxa : x ∈ apps
    · exact lay_at β ρ apps _ (fun z hz => by rw [put_size, put_size]; exact hsz z (List.mem_cons_of_mem _ hz)) (fun z hz u hu => hsl z (List.mem_cons_of_mem _ hz) u (List.mem_cons_of_mem _ hu)) x hxa
    · have hxy : x = y := by rcases List.mem_cons.1 hx with h | h; exact h; exact absurd h hxa
      subst hxy
      obtain ⟨_, _, h3⟩ := lay_get β ρ apps ((A0.put (some x.db) (.slice (some ⟨β x.b, 0, none⟩) 1 1)).put (some x.da) (ρ x.a))
      have hne := (hsl x hx x hx).1
      have hs := hsz x hx
      constructor
      · rw [h3 x.db fun z hz => ⟨fun hc => hxa ((hsl x hx z (List.mem_cons_of_mem _ hz)).2.1 hc.symm ▸ hz), fun hc => (hsl x hx z (List.mem_cons_of_mem _ hz)).1 hc.symm⟩, put_other _ _ _ _ (fun hc => hne (by injection hc with hc; exact hc.symm)), put_get, if_pos ⟨rfl, hs.1⟩]
      · rw [h3 x.da fun z hz => ⟨fun hc => (hsl z (List.mem_cons_of_mem _ hz) x hx).1 hc, fun hc => hxa ((hsl x hx z (List.mem_cons_of_mem _ hz)).2.2 hc.symm ▸ hz)⟩, put_get, if_pos ⟨rfl, by rw [put_size]; exact hs.2⟩]
theorem layM_get : ∀ (mv : List Mov) (A0 : Act), (layM mv A0).tmps.size = A0.tmps.size ∧ (layM mv A0).defers = A0.defers ∧ ∀ t : Nat, (∀ y ∈ mv, y.d ≠ t) → (layM mv A0).tmps[t]? = A0.tmps[t]?
  | [], _ => ⟨rfl, rfl, fun _ _ => rfl⟩
  | y :: mv, A0 => by
    obtain ⟨h1, h2, h3⟩ := layM_get mv (A0.put (some y.d) y.v)
    refine ⟨h1.trans (put_size _ _ _), h2.trans rfl, fun t ht => ?_⟩
    refine (h3 t fun z hz => ht z (List.mem_cons_of_mem _ hz)).trans ?_
    rw [put_other _ _ _ _ (fun hc => ht y List.mem_cons_self (by injection hc))]
theorem layM_at : ∀ (mv : List Mov) (A0 : Act), (∀ y ∈ mv, y.d < A0.tmps.size) → (∀ y ∈ mv, ∀ z ∈ mv, y.d = z.d → y = z) → ∀ y ∈ mv, (layM mv A0).tmps[y.d]? = some y.v
  | [], _, _, _, y, hy => by cases hy
  | z :: mv, A0, hsz, hsl, y, hy => by
    show (layM mv _).tmps[y.d]? = _
    by_cases hym : y ∈ mv
    · exact layM_at mv _ (fun x hx => by rw [put_size]; exact hsz x (List.mem_cons_of_mem _ hx)) (fun x hx u hu => hsl x (List.mem_cons_of_mem _ hx) u (List.mem_cons_of_mem _ hu)) y hym
    · have hyz : y = z := by rcases List.mem_cons.1 hy with h | h; exact h; exact absurd h hym
      subst hyz
      obtain ⟨_, _, h3⟩ := layM_get mv (A0.put (some y.d) y.v)
      rw [h3 y.d fun x hx hc => hym (hsl y hy x (List.mem_cons_of_mem _ hx) hc.symm ▸ hx), put_get, if_pos ⟨rfl, hsz y hy⟩]
def nums (apps : List App) (mv : List Mov) : List Nat := (apps.flatMap fun x => [x.b, x.a]) ++ mv.map (·.i)
theorem mem_nums {apps : List App} {mv : List Mov} {i : Nat} (h : i ∈ nums apps mv) : (∃ x ∈ apps, i = x.b ∨ i = x.a) ∨ ∃ y ∈ mv, i = y.i := by
  rcases List.mem_append.1 h with h | h
  · obtain ⟨x, hx, hi⟩ := List.mem_flatMap.1 h
    exact .inl ⟨x, hx, by simpa using hi⟩
  · obtain ⟨y, hy, hi⟩ := List.mem_map.1 h
    exact .inr ⟨y, hy, hi.symm⟩
theorem nums_b {apps : List App} {mv : List Mov} {x : App} (h : x ∈ apps) : x.b ∈ nums apps mv := List.mem_append_left _ (List.mem_flatMap.2 ⟨x, h, by simp⟩)
theorem nums_a {apps : List App} {mv : List Mov} {x : App} (h : x ∈ apps) : x.a ∈ nums apps mv := List.mem_append_left _ (List.mem_flatMap.2 ⟨x, h, by simp⟩)
theorem nums_m {apps : List App} {mv : List Mov} {y : Mov} (h : y ∈ mv) : y.i ∈ nums apps mv := List.mem_append_right _ (List.mem_map.2 ⟨y, h, rfl⟩)
theorem asWas_put {apps : List App} {mv : List Mov} {A0 a : Act} {d : Tmp} {v : Value} (h : AsWas apps mv A0 a) (hd : (∃ x ∈ apps, x.db = d ∨ x.da = d) ∨ ∃ y ∈ mv, y.d = d) : AsWas apps mv A0 (a.put (some d) v) := by
  refine ⟨by rw [put_size]; exact h.1, by rw [put_defers]; exact h.2.1, fun t ht hm => ?_⟩
  rw [put_other _ _ _ _ (fun hc => ?_)]
  · exact h.2.2 t ht hm
  · injection hc with hc
    rcases hd with ⟨x, hx, h1⟩ | ⟨y, hy, h1⟩
    · obtain ⟨h2, h3⟩ := ht x hx
      rcases h1 with h1 | h1
      · exact h2 (h1.trans hc)
      · exact h3 (h1.trans hc)
    · exact hm y hy (h1.trans hc)
theorem wp_build_one {o : Oper} {a : Act} {w : World} {K : Act → World → Prop} {d q : Tmp} (t e : TypeId) (u : Value) (L : List Value) (ho : o.op = .buildSlice t 1 #[(0, .tmp q)]) (hd : o.dst = some d) (hu : a.eval (.tmp q) = u)
    (hrun : ∀ w, (Instr.buildSlice t 1 #[(0, u)]).run P w = .ok (.slice (some ⟨w.heap.size, 0, none⟩) 1 1) (w.alloc (.cells L.toArray e)))
    (hK : K (a.put (some d) (.slice (some ⟨w.heap.size, 0, none⟩) 1 1)) (w.alloc (.cells L.toArray e))) : o.wp P a w K Q := by
  unfold Oper.wp execOp
  simp only [ho, List.map_toArray, List.map_cons, List.map_nil, hu]
  rw [Sem.run_bind, hrun]
  rw [← hd] at hK
  exact hK
theorem wpAnyL_grow {B : Nat} {apps : List App} (mv : List Mov) {f F : Nat} (hF : F = (nums apps mv).length + f) {L0 : Array Bool} {A0 : Act} {W : World} (hok : AppsOk P md ops Q B A0 apps mv) (Inv : World → Prop) (hInvB : ∀ w w', Inv w → Below w.heap.size w w' → Inv w')
    (hInvG : ∀ w w' x, x ∈ apps → Inv w → w.grownBy w' x.v.ownBlock → Inv w') (hS : ∀ w, Inv w → S w) (hcl : closedB md ops L0 (nums apps mv) = true) (hnd : (nums apps mv).Nodup) (hle : B ≤ W.heap.size) (hInv : Inv W) (hown : ∀ x ∈ apps, W.ownsRow B x.e x.s x.v x.n x.xs)
    (hend : ∀ β ρ W', B ≤ W'.heap.size → Inv W' → (∀ x ∈ apps, W'.ownsRow B x.e x.s (ρ x.a) (x.n + 1) (x.xs ++ x.L)) → wpAnyL P md ops Q S X0 f (markL L0 (nums apps mv)) (layM mv (layL apps β ρ A0)) W') : wpAnyL P md ops Q S X0 F L0 A0 W := by
  subst hF
  refine wpAnyL_ideal (L0 := L0) (J := Grown Inv B A0 apps mv) hnd hcl ?_ (fun D a w hJ => hS w hJ.inv) ?_ _ [] A0 W (fun i hi => by cases hi) (fun i hi => by cases hi) ?_ ?_
  · intro s a w hJ i hi hns hhas
    obtain ⟨β, ρ, hst⟩ := hJ.st
    rcases mem_nums hi with ⟨x, hx, hxi⟩ | ⟨m, hm, rfl⟩
    case inr =>
      obtain ⟨o, ho, hg, hd, hw⟩ := hok.moves m hm
      have hwant : Region.wanted o (yielded ops a.tmps) = true := by simp [Region.wanted, hg]
      unfold wpOp
      rw [ho]
      simp only [hwant, if_true]
      refine .inl (hw a w _ hJ.was ?_)
      obtain ⟨hmsz, hmx⟩ := hok.mfit m hm
      rw [← hJ.was.1] at hmsz
      refine ⟨hJ.le, hJ.inv, asWas_put hJ.was (.inr ⟨m, hm, rfl⟩), fun y hy hD => ?_, β, ρ, fun y hy => ?_⟩
      · by_cases hym : y = m
        · rw [hym, put_get, if_pos ⟨rfl, hmsz⟩]
        · have h1 : y.i ∈ s := by
            rcases List.mem_append.1 hD with h | h
            · exact h
            · exact absurd ((hok.mone y hy m hm).2 (List.mem_singleton.1 h)) hym
          rw [put_other _ _ _ _ (fun hc => hym ((hok.mone y hy m hm).1 (by injection hc with hc; exact hc.symm)))]
          exact hJ.mo y hy h1
      · obtain ⟨h0, h1, h2, h4, h3⟩ := hst y hy
        obtain ⟨n1, n2, _, n3, n4⟩ := hmx y hy
        have e1 : y.b ∈ s ++ [m.i] ↔ y.b ∈ s := by
          rw [List.mem_append, List.mem_singleton]
          exact ⟨fun h => h.elim id fun hc => absurd hc n3, .inl⟩
        have e2 : y.a ∈ s ++ [m.i] ↔ y.a ∈ s := by
          rw [List.mem_append, List.mem_singleton]
          exact ⟨fun h => h.elim id fun hc => absurd hc n4, .inl⟩
        simp only [e1, e2]
        rw [put_other _ _ _ _ (fun hc => n1 (by injection hc with hc; exact hc.symm)), put_other _ _ _ _ (fun hc => n2 (by injection hc with hc; exact hc.symm))]
        exact ⟨h0, h1, h2, h4, h3⟩
    have hmo : ∀ (j : Nat) (t : Tmp) (u : Value), (j = x.b ∨ j = x.a) → (t = x.db ∨ t = x.da) → ∀ y ∈ mv, y.i ∈ s ++ [j] → (a.put (some t) u).tmps[y.d]? = some y.v := fun j t u hj ht y hy hD => by
      obtain ⟨_, hmx⟩ := hok.mfit y hy
      obtain ⟨n1, n2, _, n3, n4⟩ := hmx x hx
      have h1 : y.i ∈ s := by
        rcases List.mem_append.1 hD with h | h
        · exact h
        · have h := List.mem_singleton.1 h
          rcases hj with rfl | rfl
          · exact absurd h.symm n3
          · exact absurd h.symm n4
      rw [put_other _ _ _ _ (fun hc => by injection hc with hc; rcases ht with rfl | rfl; exact n1 hc; exact n2 hc)]
      exact hJ.mo y hy h1
    have hsz := hok.slots x hx
    rw [← hJ.was.1] at hsz
    rcases hxi with rfl | rfl
    · obtain ⟨o, ho, hg, hd, hw⟩ := hok.build x hx
      have hwant : Region.wanted o (yielded ops a.tmps) = true := by simp [Region.wanted, hg]
      unfold wpOp
      rw [ho]
      simp only [hwant, if_true]
      refine .inl (hw a w _ hJ.was ?_)
      have hxa : x.a ∉ s := fun hc => hns ((hst x hx).1 hc)
      have hb := (Below.refl w.heap.size w).alloc (Nat.le_refl _) (.cells x.L.toArray x.e)
      refine ⟨Nat.le_trans hJ.le hb.size, hInvB _ _ hJ.inv hb, asWas_put hJ.was (.inl ⟨x, hx, .inl rfl⟩), hmo _ _ _ (.inl rfl) (.inl rfl), fun j => if j = x.b then w.heap.size else β j, ρ, fun y hy => ?_⟩
      obtain ⟨h0, h1, h2, h4, h3⟩ := hst y hy
      by_cases hyx : y = x
      · subst hyx
        have e1 : y.b ∈ s ++ [y.b] := by simp
        have e2 : y.a ∉ s ++ [y.b] := by
          rw [List.mem_append, List.mem_singleton]
          exact fun hc => hc.elim hxa fun hc => (hok.num y hx y hx).1 hc.symm
        refine ⟨fun _ => e1, fun _ => ?_, fun hc => absurd hc e2, fun _ => owns_below (h4 hxa) hb, fun _ _ => ?_⟩
        · show _ = some (Value.slice (some ⟨if y.b = y.b then w.heap.size else β y.b, 0, none⟩) 1 1)
          rw [if_pos rfl, put_get, if_pos ⟨rfl, hsz.1⟩]
        · show Holds _ (if y.b = y.b then w.heap.size else β y.b) _ _
          rw [if_pos rfl]
          exact holds_alloc w _ _
      · have e1 : y.b ∈ s ++ [x.b] ↔ y.b ∈ s := by
          rw [List.mem_append, List.mem_singleton]
          exact ⟨fun h => h.elim id fun hc => absurd ((hok.num y hy x hx).2.1 hc) hyx, .inl⟩
        have e2 : y.a ∈ s ++ [x.b] ↔ y.a ∈ s := by
          rw [List.mem_append, List.mem_singleton]
          exact ⟨fun h => h.elim id fun hc => absurd hc.symm (hok.num x hx y hy).1, .inl⟩
        have e3 : y.b ≠ x.b := fun hc => hyx ((hok.num y hy x hx).2.1 hc)
        simp only [e1, e2, if_neg e3]
        rw [put_other _ _ _ _ (fun hc => hyx ((hok.slot y hy x hx).2.1 (by injection hc with hc; exact hc.symm))), put_other _ _ _ _ (fun hc => (hok.slot x hx y hy).1 (by injection hc))]
        exact ⟨h0, h1, fun hc => ⟨(h2 hc).1, owns_below (h2 hc).2 hb⟩, fun hc => owns_below (h4 hc) hb, fun hp hq => (h3 hp hq).bel hb⟩
    · obtain ⟨o, t, z, bytes, ho, hg, hd, hop, ht, hi, hzs, hby, hsrc⟩ := hok.grow x hx
      obtain ⟨hs0, hL, h1c, h63⟩ := hok.fits x hx
      obtain ⟨h0, h1, _, h2, h3⟩ := hst x hx
      have hbs : x.b ∈ s := by
        obtain ⟨o', ho', haft⟩ := hok.wait x hx
        unfold hasB at hhas
        rw [ho'] at hhas
        simp only [] at hhas
        rw [Array.any_eq_true'] at haft
        obtain ⟨e, he, hb⟩ := haft
        simp only [Bool.and_eq_true, beq_iff_eq] at hb
        rw [Array.all_eq_true'] at hhas
        have := hhas e he
        rw [hb.1, hb.2, List.contains_iff_mem.2 (nums_b hx)] at this
        simpa using this
      have h1 := h1 hbs
      have h2 := h2 hns
      have hsv : a.eval (.tmp x.src) = x.v := by
        refine eval_known ?_
        rw [hJ.was.2.2 x.src (fun y hy => hok.src x hx y hy) fun y hy hc => ((hok.mfit y hy).2 x hx).2.2.1 hc.symm]
        exact hsrc
      refine wpOp_step ho fun K' hK => ?_
      refine step_append_grown hg (.tmp x.src) (.tmp x.db) t hop B x.e z x.s bytes ht hi hzs hs0 x.v x.n x.xs hsv h2 (β x.b) x.L (eval_known h1) (h3 hbs hns) hL (fun u hu => List.all_eq_true.1 h1c u hu) h63 hby hJ.le ?_
      intro v' w' hown' hbel hgr
      rw [hd]
      refine hK _ _ ?_
      refine ⟨Nat.le_trans hJ.le hgr.size, hInvG _ _ x hx hJ.inv hgr, asWas_put hJ.was (.inl ⟨x, hx, .inr rfl⟩), hmo _ _ _ (.inr rfl) (.inr rfl), β, fun j => if j = x.a then v' else ρ j, fun y hy => ?_⟩
      obtain ⟨g0, g1, g2, g4, g3⟩ := hst y hy
      by_cases hyx : y = x
      · subst hyx
        have e1 : y.b ∈ s ++ [y.a] := by simp [hbs]
        have e2 : y.a ∈ s ++ [y.a] := by simp
        refine ⟨fun _ => e1, fun _ => ?_, fun _ => ?_, fun hc => absurd e2 hc, fun _ hc => absurd e2 hc⟩
        · rw [put_other _ _ _ _ (fun hc => (hok.slot y hx y hx).1 (by injection hc with hc; exact hc.symm))]
          exact g1 hbs
        · show _ = some (if y.a = y.a then v' else ρ y.a) ∧ World.ownsRow _ _ _ _ (if y.a = y.a then v' else ρ y.a) _ _
          rw [if_pos rfl, put_get, if_pos ⟨rfl, hsz.2⟩]
          exact ⟨rfl, hown'⟩
      · have e1 : y.b ∈ s ++ [x.a] ↔ y.b ∈ s := by
          rw [List.mem_append, List.mem_singleton]
          exact ⟨fun h => h.elim id fun hc => absurd hc (hok.num y hy x hx).1, .inl⟩
        have e2 : y.a ∈ s ++ [x.a] ↔ y.a ∈ s := by
          rw [List.mem_append, List.mem_singleton]
          exact ⟨fun h => h.elim id fun hc => absurd ((hok.num y hy x hx).2.2 hc) hyx, .inl⟩
        have e3 : y.a ≠ x.a := fun hc => hyx ((hok.num y hy x hx).2.2 hc)
        have ht : x.e ≠ y.e := fun hc => hyx (hok.types x hx y hy hc).symm
        simp only [e1, e2, if_neg e3]
        rw [put_other _ _ _ _ (fun hc => (hok.slot y hy x hx).1 (by injection hc with hc; exact hc.symm)), put_other _ _ _ _ (fun hc => hyx ((hok.slot y hy x hx).2.2 (by injection hc with hc; exact hc.symm)))]
        exact ⟨g0, g1, fun hc => ⟨(g2 hc).1, (g2 hc).2.kept hgr (own_far h2 (g2 hc).2 ht)⟩, fun hc => (g4 hc).kept hgr (own_far h2 (g4 hc) ht), fun hp hq => holds_far h2 hgr (g3 hp hq) ht⟩
  · intro a w hJ
    obtain ⟨β, ρ, hst⟩ := hJ.st
    have he : a = layM mv (layL apps β ρ A0) := by
      obtain ⟨l1, l2, l3⟩ := lay_get β ρ apps A0
      obtain ⟨k1, k2, k3⟩ := layM_get mv (layL apps β ρ A0)
      refine act_ext (hJ.was.1.trans (k1.trans l1).symm) (fun t => ?_) (hJ.was.2.1.trans (k2.trans l2).symm)
      by_cases htm : ∃ y ∈ mv, y.d = t
      · obtain ⟨y, hy, rfl⟩ := htm
        rw [layM_at mv _ (fun z hz => by rw [l1]; exact (hok.mfit z hz).1) (fun z hz u hu => (hok.mone z hz u hu).1) y hy]
        exact hJ.mo y hy (nums_m hy)
      have hnm : ∀ y ∈ mv, y.d ≠ t := fun y hy hc => htm ⟨y, hy, hc⟩
      rw [k3 t hnm]
      by_cases ht : ∃ x ∈ apps, x.db = t ∨ x.da = t
      · obtain ⟨x, hx, hxt⟩ := ht
        obtain ⟨m1, m2⟩ := lay_at β ρ apps A0 hok.slots hok.slot x hx
        obtain ⟨_, h1, h2, _⟩ := hst x hx
        rcases hxt with rfl | rfl
        · rw [h1 (nums_b hx), m1]
        · rw [(h2 (nums_a hx)).1, m2]
      · have : ∀ x ∈ apps, x.db ≠ t ∧ x.da ≠ t := fun x hx => ⟨fun hc => ht ⟨x, hx, .inl hc⟩, fun hc => ht ⟨x, hx, .inr hc⟩⟩
        rw [l3 t this, hJ.was.2.2 t this hnm]
    rw [he]
    refine hend β ρ w hJ.le hJ.inv fun x hx => ?_
    obtain ⟨_, _, h2, _⟩ := hst x hx
    exact (h2 (nums_a hx)).2
  · simp
  · refine ⟨hle, hInv, ⟨rfl, rfl, fun _ _ _ => rfl⟩, fun y _ hc => (by cases hc), fun _ => 0, fun _ => undef, fun x hx => ?_⟩
    have e1 : x.b ∉ ([] : List Nat) := by simp
    have e2 : x.a ∉ ([] : List Nat) := by simp
    exact ⟨fun h => absurd h e2, fun h => absurd h e1, fun h => absurd h e2, fun _ => hown x hx, fun h => absurd h e1⟩
end
end Go.Proofs.Ytleagecocffihaa
