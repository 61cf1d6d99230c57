/-
  A region that draws its order, whose operations are quiet but for the last, which waits for all others: walked once; the last one is left to be carried out, behind whatever order.
-/
import Derived.Test.YtleagecocffihaaBoxes
namespace Go.Proofs.Ytleagecocffihaa
open Go.RowKit
set_option linter.unusedVariables false
set_option linter.unusedSimpArgs false

def hushLast (o : Oper) : Oper := { o with op := .move (.const undef) }
/-- Each edge that binds points back; the last operation has no slot, no guard, and waits for all others. -/
def lastB (l : List Oper) (o : Oper) : Bool :=
  o.guard.isNone && (o.dst == none && ((l ++ [o]).zipIdx.all (fun y => y.1.after.toList.all fun e => !Region.binds .any e || decide (e.on < y.2)) && (List.range l.length).all fun i => o.after.toList.any fun e => Region.binds .any e && e.on == i))
theorem wpQuiet_then {P : Program} {ops : Array Oper} {C : World → Prop} {Q Q' : Act → Prop} {l2 : List Oper} (h2 : ∀ a, Q a → wpQuiet P ops C Q' l2 a) : ∀ {l : List Oper} {a : Act}, wpQuiet P ops C Q l a → wpQuiet P ops C Q' (l ++ l2) a
  | [], a, h => h2 a h
  | o :: l, a, h => by
    rw [List.cons_append]
    unfold wpQuiet at h ⊢
    split
    · rename_i hw
      rw [if_pos hw] at h
      exact Oper.quiet_mono (fun a' ha' => wpQuiet_then h2 ha') h
    · rename_i hw
      rw [if_neg hw] at h
      exact wpQuiet_then h2 h
theorem wp_region_last {P : Program} {id : Nat} {Q : Exit → Act → World → Prop} {a : Act} {w : World} {l : List Oper} {o : Oper} (hm : P.follows .mixedOrders = true) (hB : Region.lexB .any (l ++ [hushLast o]).toArray = true) (hl : lastB l o = true)
    (h : wpQuiet P (l ++ [hushLast o]).toArray (fun w' => ∃ p : Regrown, w' = Sort.grow (redrawn w p.d) p.os) (fun a' => ∀ w', (∃ p : Regrown, w' = Sort.grow (redrawn w p.d) p.os) → o.wp P a' w' (fun a2 w2 => Q .normal a2 w2) Q) l a) : (Code.region id (l ++ [o]).toArray true).wp P Q a w := by
  simp only [lastB, Bool.and_eq_true, Option.isNone_iff_eq_none, beq_iff_eq] at hl
  obtain ⟨hg, hd, hc, hall⟩ := hl
  obtain ⟨ops, hops⟩ : ∃ ops, ops = (l ++ [o]).toArray := ⟨_, rfl⟩
  obtain ⟨ops', hops'⟩ : ∃ ops', ops' = (l ++ [hushLast o]).toArray := ⟨_, rfl⟩
  have hsz : ops.size = l.length + 1 := by rw [hops]; simp
  have hsz' : ops'.size = l.length + 1 := by rw [hops']; simp
  have hn : ops[l.length]? = some o := by rw [hops]; simp
  have hn' : ops'[l.length]? = some (hushLast o) := by rw [hops']; simp
  have hlt : ∀ i, i < l.length → ops'[i]? = ops[i]? := fun i hi => by rw [hops, hops', List.getElem?_toArray, List.getElem?_toArray, List.getElem?_append_left hi, List.getElem?_append_left hi]
  have hafter : ∀ (i : Nat), (ops'[i]?).map (·.after) = (ops[i]?).map (·.after) := fun i => by
    by_cases hi : i < l.length
    · rw [hlt i hi]
    · by_cases hi2 : i = l.length
      · subst hi2; rw [hn, hn']; rfl
      · rw [Array.getElem?_eq_none (by omega), Array.getElem?_eq_none (by omega)]
  have hdst : ∀ (i : Nat), (ops'[i]?).bind (·.dst) = (ops[i]?).bind (·.dst) := fun i => by
    by_cases hi : i < l.length
    · rw [hlt i hi]
    · by_cases hi2 : i = l.length
      · subst hi2; rw [hn, hn']; rfl
      · rw [Array.getElem?_eq_none (by omega), Array.getElem?_eq_none (by omega)]
  have hyield : ∀ (t : Array Value), yielded ops' t = yielded ops t := fun t => by
    funext j
    unfold yielded
    rw [hdst j]
  have hready : ∀ L, Region.ready .any ops' L = Region.ready .any ops L := fun L => by
    unfold Region.ready
    rw [hsz, hsz']
    apply List.filter_congr
    intro i _
    have := hafter i
    cases h1 : ops'[i]? with
    | none =>
      rw [h1] at this
      cases h2 : ops[i]? with
      | none => rfl
      | some o2 => rw [h2] at this; cases this
    | some o1 =>
      rw [h1] at this
      cases h2 : ops[i]? with
      | none => rw [h2] at this; cases this
      | some o2 =>
        rw [h2] at this
        simp only [Option.map_some, Option.some.injEq] at this
        simp only [Option.map_some, this]
  have hcyc : ∀ (i : Nat) o2, ops[i]? = some o2 → ∀ e ∈ o2.after, Region.binds .any e = true → e.on < i := fun i o2 ho2 e he hbd => by
    have h1 := List.all_eq_true.1 hc _ (mem_zip (by rw [← hops]; exact ho2))
    have h2 := List.all_eq_true.1 h1 e (by simpa using he)
    rw [hbd] at h2
    simpa using h2
  have hw8 : ∀ i, i < l.length → ∃ e ∈ o.after, Region.binds .any e = true ∧ e.on = i := fun i hi => by
    have h1 := List.all_eq_true.1 hall i (List.mem_range.2 hi)
    simp only [List.any_eq_true, Bool.and_eq_true, beq_iff_eq] at h1
    obtain ⟨e, he, h2, h3⟩ := h1
    exact ⟨e, by simpa using he, h2, h3⟩
  have sim : ∀ (fuel : Nat) (L : Array Bool) (a : Act) (w1 : World), L.size = ops.size → Cls w w1 → L.getD l.length false = false →
      wpAnyQ P .any ops' (Cls w) (fun a' => ∀ w', Cls w w' → o.wp P a' w' (fun a2 w2 => Q .normal a2 w2) Q) fuel L a → wpAny P .any ops Q fuel L a w1 := by
    have hno : ∀ L : Array Bool, L.size = ops.size → L.getD l.length false = false → Region.ready .any ops L ≠ [] := fun L hL hun hr => by
      have := all_listed hcyc L hL hr l.length (by omega)
      rw [hun] at this; cases this
    intro fuel
    induction fuel with
    | zero =>
      intro L a w1 hL hC hun hq
      exact absurd (by rw [← hready]; exact hq.1) (hno L hL hun)
    | succ fuel ih =>
      intro L a w1 hL hC hun hq
      refine ⟨fun hr => absurd hr (hno L hL hun), fun i hi => ?_⟩
      obtain ⟨hui, oi, hoi, hai⟩ := mem_ready.1 hi
      have hq2 := hq.2 i (by rw [hready]; exact hi)
      have hilt : i < l.length + 1 := by rw [← hsz]; exact (Array.getElem?_eq_some_iff.1 hoi).1
      by_cases hil : i < l.length
      · have hoi' : ops'[i]? = some oi := by rw [hlt i hil]; exact hoi
        unfold qOp at hq2
        unfold wpOp
        simp only [hoi'] at hq2
        simp only [hoi]
        rw [hyield] at hq2
        have hL2 : (L.setIfInBounds i true).size = ops.size := by rw [Array.size_setIfInBounds]; exact hL
        have hun2 : (L.setIfInBounds i true).getD l.length false = false := by rw [getD_ne _ (by omega)]; exact hun
        split at hq2
        · rename_i hw
          rw [if_pos hw]
          exact .inl (Oper.wp_of_quiet hC (fun a' w' hw' hk => ih _ a' w' hL2 hw' hun2 hk) hq2)
        · rename_i hw
          rw [if_neg hw]
          exact ih _ _ _ hL2 hC hun2 hq2
      · have hin : i = l.length := by omega
        subst hin
        rw [hn] at hoi
        cases hoi
        have hall2 : ∀ j, j < ops.size → (L.setIfInBounds l.length true).getD j false = true := fun j hj => by
          by_cases hjl : j = l.length
          · subst hjl; exact getD_own (by rw [hL]; exact hj) _
          · obtain ⟨e, he, hb, heo⟩ := hw8 j (by omega)
            refine getD_set_true ?_
            rw [← heo]; exact hai e he hb
        have hr2 : Region.ready .any ops (L.setIfInBounds l.length true) = [] := by
          apply List.eq_nil_iff_forall_not_mem.2
          intro j hj
          obtain ⟨huj, oj, hoj, _⟩ := mem_ready.1 hj
          have h1 := hall2 j (Array.getElem?_eq_some_iff.1 hoj).1
          rw [(getD_free huj).2] at h1; cases h1
        have hfin : ∀ (f : Nat) (a2 : Act) (w2 : World), Q .normal a2 w2 → wpAny P .any ops Q f (L.setIfInBounds l.length true) a2 w2 := fun f a2 w2 hQ => by
          cases f with
          | zero => exact ⟨hr2, hQ⟩
          | succ f => exact ⟨fun _ => hQ, fun i hi => by rw [hr2] at hi; cases hi⟩
        have hq0 : ∀ w', Cls w w' → o.wp P a w' (fun a2 w2 => Q .normal a2 w2) Q := by
          unfold qOp at hq2
          simp only [hn'] at hq2
          rw [if_pos (by simp [Region.wanted, hushLast, hg])] at hq2
          obtain ⟨v, _, hnx⟩ := hq2
          have he : a.put (hushLast o).dst v = a := by show a.put o.dst v = a; rw [hd]; rfl
          rw [he] at hnx
          cases fuel with
          | zero => exact hnx.2
          | succ f => exact hnx.1 (by rw [hready]; exact hr2)
        unfold wpOp
        simp only [hn]
        rw [if_pos (by simp [Region.wanted, hg])]
        exact .inl (Oper.wp_mono (fun a2 w2 hQ => hfin fuel a2 w2 hQ) (hq0 w1 hC))
  rw [← hops]
  refine wp_region_any hm (sim _ _ a _ (by simp) ⟨⟨w.drawn + 1, #[]⟩, by rw [Sort.grow_empty]; rfl⟩ ?_ ?_)
  · rw [Array.getD_eq_getD_getElem?, Array.getElem?_replicate]
    split <;> rfl
  · simp only [Region.lexB, Bool.and_eq_true] at hB
    have hq : wpQuiet P ops' (Cls w) (fun a' => ∀ w', Cls w w' → o.wp P a' w' (fun a2 w2 => Q .normal a2 w2) Q) (l ++ [hushLast o]) a := by
      rw [hops']
      refine wpQuiet_then ?_ h
      intro a' ha'
      unfold wpQuiet
      rw [if_pos (by simp [Region.wanted, hushLast, hg])]
      refine ⟨undef, fun w' _ => ?_, ?_⟩
      · unfold Oper.quietAt execOp hushLast
        simp only [Sem.run_pure, Sem.run_bind, Result.andThen_ok, Oper.quietUpon, Act.eval]
        exact ⟨trivial, trivial⟩
      · show (fun a' => ∀ w', Cls w w' → o.wp P a' w' (fun a2 w2 => Q .normal a2 w2) Q) (a'.put o.dst undef)
        rw [hd]
        exact ha'
    have := wpAnyQ_lex (P := P) (ops := ops') (md := .any) (C := Cls w) (by rw [hops']; exact hB.1) (l ++ [hushLast o]) 0 (Array.replicate ops'.size false) a (fun j => by rw [hops']; simp) (by rw [hops']; simpa using hB.2) hq
    rw [hsz]
    rw [hsz'] at this
    simpa using this
end Go.Proofs.Ytleagecocffihaa
