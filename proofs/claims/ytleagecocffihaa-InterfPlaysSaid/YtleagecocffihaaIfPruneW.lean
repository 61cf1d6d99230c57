/-
  The walk of Prune.
-/
import Derived.Test.YtleagecocffihaaIfPruneP
namespace Go.Proofs.Ytleagecocffihaa
open Go.RowKit Go.Maps
set_option linter.unusedVariables false
set_option linter.unusedSimpArgs false

def newCut (d u : Nat → Int) (t : Nat) : Int := max (d t) (min (max (u t) 0) 1073741824)
/-- Two blocks may have been written. -/
structure Touch2 (g b : Nat) (w w' : World) : Prop where
  os : w'.os = w.os
  tape : w'.tape = w.tape
  output : w'.output = w.output
  size : w.heap.size ≤ w'.heap.size
  block : ∀ k, k < w.heap.size → k ≠ g → k ≠ b → w'.heap[k]? = w.heap[k]?
theorem Touch2.refl (g b : Nat) (w : World) : Touch2 g b w w := ⟨rfl, rfl, rfl, Nat.le_refl _, fun _ _ _ _ => rfl⟩
theorem Touch2.left {g b : Nat} {w w1 w2 : World} (h : Touch2 g b w w1) (k : Touch g w1 w2) : Touch2 g b w w2 :=
  ⟨k.os.trans h.os, k.tape.trans h.tape, k.output.trans h.output, Nat.le_trans h.size k.size, fun i hi h1 h2 => (k.block i (Nat.lt_of_lt_of_le hi h.size) h1).trans (h.block i hi h1 h2)⟩
theorem Touch2.right {g b : Nat} {w w1 w2 : World} (h : Touch2 g b w w1) (k : Touch b w1 w2) : Touch2 g b w w2 :=
  ⟨k.os.trans h.os, k.tape.trans h.tape, k.output.trans h.output, Nat.le_trans h.size k.size, fun i hi h1 h2 => (k.block i (Nat.lt_of_lt_of_le hi h.size) h2).trans (h.block i hi h1 h2)⟩
/-- A block that is new is written. -/
theorem Touch2.fresh {g b R : Nat} {w w1 w2 : World} (h : Touch2 g b w w1) (k : Touch R w1 w2) (hR : w.heap.size ≤ R) : Touch2 g b w w2 :=
  ⟨k.os.trans h.os, k.tape.trans h.tape, k.output.trans h.output, Nat.le_trans h.size k.size, fun i hi h1 h2 => (k.block i (Nat.lt_of_lt_of_le hi h.size) (by omega)).trans (h.block i hi h1 h2)⟩
theorem Touch2.below {g b : Nat} {w w1 w2 : World} (h : Touch2 g b w w1) (k : Below w1.heap.size w1 w2) : Touch2 g b w w2 := h.left (.of_below k)
theorem cut_set (m : Value) (d : Nat → Int) (k : Nat) (hk : k < 7) (v : Int) : (m :: cutL d).set (1 + k) (.int .i64 v) = m :: cutL fun j => if j = k then v else d j := by
  have : k = 0 ∨ k = 1 ∨ k = 2 ∨ k = 3 ∨ k = 4 ∨ k = 5 ∨ k = 6 := by omega
  rcases this with rfl | rfl | rfl | rfl | rfl | rfl | rfl <;> rfl
theorem IxAt.cutTo {w w' : World} {g b n : Nat} {d d' : Nat → Int} {l : List Ent} (h : IxAt w g b n d l) (ht : Touch g w w') (hc : Holds w' g 62 (.map (some b) :: cutL d')) : IxAt w' g b n d' l := by
  obtain ⟨D, hm, hl⟩ := h.map
  exact ⟨hc, ⟨D, hm.kept (row := some g) ⟨ht.os, ht.tape, ht.output, ht.size, fun k hk hne => ht.block k hk (fun e => hne (by rw [e]))⟩ (by simpa using h.ne.symm), hl⟩, h.good⟩
theorem oper_delete {H : Type} {P : Program} {w : World} {o : Oper} {a : Act} {K : Act → World → Prop} {Q : Exit → Act → World → Prop}
    (m x : Operand) (t k : TypeId) (hop : o.op = Op.call { callee := Callee.builtin Builtin.delete, args := #[m, x], argTypes := #[t, k] })
    (e : TypeId) (Kd : Keyed P k) (ht : P.underlying t = some (.map k e)) (R : Value → Option (DataW H × List MemPlace)) (b r n : Nat) (D : DataW H) (left : Lit → Bool) (cnt : Nat)
    (hm : a.eval m = .map (some b)) (h : w.ranges P k R b r n D left cnt) (key : Value) (kl : Lit) (hx : a.eval x = key) (hkey : keyOf P k key = some kl)
    (hK : ∀ w' cnt', w'.ranges P k R b r n (D.del kl) (fun z => left z && !z.sameKey kl) cnt' → cnt' ≤ cnt → w.mapTurned w' b → K (a.put o.dst (.tuple #[])) w') : o.wp P a w K Q := by
  obtain ⟨w', cnt', hrun, r1, r2, r3⟩ := h.drop Kd ht hkey o.type
  unfold Oper.wp
  simp [execOp, hop, resolve, invoke, builtin, hm, hx, hrun, Result.andThen]
  exact hK w' cnt' r1 r2 r3
theorem idx_deps (d : Nat → Int) (k : Nat) (hk : k < 7) (w : World) :
    (Instr.index 32 (.agg #[.int .i64 (d 0), .int .i64 (d 1), .int .i64 (d 2), .int .i64 (d 3), .int .i64 (d 4), .int .i64 (d 5), .int .i64 (d 6)]) (.int .i64 k)).run Try.prog w = .ok (.int .i64 (d k)) w := by
  rcases (show k = 0 ∨ k = 1 ∨ k = 2 ∨ k = 3 ∨ k = 4 ∨ k = 5 ∨ k = 6 by omega) with rfl | rfl | rfl | rfl | rfl | rfl | rfl <;> kernel_rfl
/-- What a pruning leaves. -/
def pruned (l : List Ent) (d : Nat → Int) : List Ent := l.filter fun e => decide (d e.r.toNat < e.s)
set_option maxRecDepth 4000 in
set_option maxHeartbeats 4000000 in
theorem prune_any (g b n : Nat) (d u : Nat → Int) (l : List Ent) (w : World) (h : IxAt w g b n d l) :
    Calls Try.prog 13 #[.pointer (some ⟨g, 0, none⟩), .agg (cutL u).toArray] w fun e w' =>
      e = .returned (.tuple #[]) ∧ IxAt w' g b n (newCut d u) (pruned l (newCut d u)) ∧ Touch2 g b w w' := by
  have HI := Lib.hid h; clear h
  unfold cutL
  go_enter Try.func13, Try.ntmps13
  have hi1 := HI.out.below (show Below w.heap.size w (w.alloc (.cells #[.int .i64 (u 0), .int .i64 (u 1), .int .i64 (u 2), .int .i64 (u 3), .int .i64 (u 4), .int .i64 (u 5), .int .i64 (u 6)] 32)) by go_grown)
  have ht1 := (Touch2.refl g b w).below (show Below w.heap.size w (w.alloc (.cells #[.int .i64 (u 0), .int .i64 (u 1), .int .i64 (u 2), .int .i64 (u 3), .int .i64 (u 4), .int .i64 (u 5), .int .i64 (u 6)] 32)) by go_grown)
  have HI1 := Lib.hid hi1; have HT1 := Lib.hid ht1; clear hi1 ht1 HI
  go_wp2_with fail
  go_loopw [8] (fun i wr => ∃ j : Nat, j ≤ 7 ∧ i = .int .i64 j ∧ IxAt wr g b n (fun t => if t < j then newCut d u t else d t) l ∧ Touch2 g b w wr) (fun i _ => 7 - (intOf i).toNat)
  case atStart => exact ⟨0, by omega, rfl, HI1.out, HT1.out⟩
  case round =>
    clear HI1 HT1
    obtain ⟨j, hj, rfl, hi, ht⟩ := hrel
    have HI := Lib.hid hi; have HT := Lib.hid ht; clear hi ht
    by_cases hj7 : j < 7
    · have cj := HI.out.ix.cell (1 + j)
      rw [cut_get _ _ _ hj7, if_neg (Nat.lt_irrefl j)] at cj
      have cf := HI.out.ix.free (1 + j)
      have hS := HI.out.ix.set (1 + j) (.int .i64 (newCut d u j))
      rw [cut_set _ _ _ hj7] at hS
      have hfn : (fun t => if t = j then newCut d u j else if t < j then newCut d u t else d t) = fun t => if t < j + 1 then newCut d u t else d t := by
        funext t
        by_cases h1 : t = j
        · rw [if_pos h1, if_pos (by omega), h1]
        · rw [if_neg h1]
          by_cases h2 : t < j
          · rw [if_pos h2, if_pos (by omega)]
          · rw [if_neg h2, if_neg (by omega)]
      rw [hfn] at hS
      have HS := Lib.hid hS; clear hS hfn
      have hix := fun W => idx_deps u j hj7 W
      go_upto_region 4 with (fail)
      clear hix
      go_region
      go_wp2_with fail
      go_roundw
      case rel => exact ⟨j + 1, by omega, by go_num, HI.out.cutTo ((Touch.refl g wr).setCell (1 + j) _).drew HS.out, HT.out.left ((Touch.refl g wr).setCell (1 + j) _).drew⟩
      case measure => simp [intOf]; omega
    · have hj77 : j = 7 := by omega
      subst hj77
      have hfn : cutL (fun t => if t < 7 then newCut d u t else d t) = cutL (newCut d u) := by simp [cutL]
      have hi7 : IxAt wr g b n (newCut d u) l := ⟨by rw [← hfn]; exact HI.out.ix, HI.out.map, HI.out.good⟩
      clear HI hfn hj hj7
      generalize hee : newCut d u = e at hi7
      have HEE := Lib.hid hee; clear hee
      have m0 := hi7.ix.cell 0
      simp only [List.getElem?_cons_zero] at m0
      obtain ⟨D0, hown, hl0⟩ := hi7.map
      have hne0 := hi7.ne
      have hgd := hi7.good
      go_wp2_with (first
        | (at_range; refine wpList_range_own _ rfl _ 60 rfl 26 64 keyLaw Try.underlying60 readN b n D0 rfl hown ?_; intro w0 hrg0 hg0 hs0)
        | fail)
      go_frame
      have hB0 : Below wr.heap.size wr w0 := ⟨hg0.os, hg0.tape, hg0.output, hg0.size, fun k hk => hg0.block k hk (by simp)⟩
      have HX := Lib.hid (hi7.ix.below hB0 hi7.ix.lt)
      have HT0 := Lib.hid (HT.out.below hB0)
      have HSZ := Lib.hid (show w.heap.size ≤ wr.heap.size from HT.out.size)
      have HGR := Lib.hid (show g ≠ wr.heap.size by have := hi7.lt.1; omega)
      have HF0 := Lib.hid (show l.filter (keepB e (Maps.has D0)) = l by
        rw [List.filter_eq_self]
        intro x hx
        unfold keepB
        rw [Maps.has_true_of_atKey (hl0.at_ x hx)]
        rfl)
      have HRG := Lib.hid hrg0
      have HL := Lib.hid hl0; have HGD := Lib.hid hgd; have HN := Lib.hid hne0
      clear hi7 hown hl0 hrg0 hg0 hs0 hB0 m0 hgd hne0 HT
      generalize wr.heap.size = R at HSZ HGR HRG ⊢
      go_loopw [6] (fun _ wx => ∃ (left : Lit → Bool) (cnt : Nat) (D : DataW Value), wx.ranges Try.prog 26 readN b R n D left cnt ∧ Lists D (l.filter (keepB e left)) ∧ Holds wx g 62 (.map (some b) :: cutL e) ∧ Touch2 g b w wx) (fun _ wx => wx.rangeLeft b R)
      case atStart => exact ⟨_, _, D0, HRG.out, by rw [HF0.out]; exact HL.out, HX.out, HT0.out⟩
      case round =>
        clear HRG HX HT0 HF0
        obtain ⟨left, cnt, D, hrg, hli, hx, ht⟩ := hrel
        go_wp2_with (first
          | (at_next; refine wpList_next_ranges _ rfl _ rfl 26 keyLaw readN (fun p : Int × Int => instV p.1 p.2) (fun v : Value => v) (fun key kl hk => by obtain ⟨r, s, rfl, _⟩ := key_inv hk; exact ⟨(r, s), rfl⟩) (fun v y _ => ⟨v, rfl⟩) b R n D _ _ rfl hrg ?_ ?_)
          | fail)
        · intro hc0 hl0
          have hfe : l.filter (keepB e left) = pruned l e := List.filter_congr fun x hx => by unfold keepB; rw [hl0]; rfl
          rw [hfe] at hli
          have HE := Lib.hid (show IxAt wr g b n e (pruned l e) from ⟨hx, ⟨D, hrg.owns, hli⟩, fun y hy => HGD.out y (List.mem_filter.1 hy).1⟩)
          have HT := Lib.hid ht
          clear hx hrg hli ht hfe hl0 hc0
          go_wp2_with fail
          go_end0
          exact ⟨rfl, by rw [HEE.out]; exact HE.out, HT.out⟩
        · intro pr ps cv kl yd yp w1 cnt1 hkey hlk hR hat hrg1 hlt hg1 hs1 hen
          have hy : yd = .held cv := by
            unfold readN at hR
            injection hR with hR
            injection hR with hR _
            exact hR.symm
          rw [hy] at hat
          have hgf : GoodE (l.filter (keepB e left)) := fun y hy => HGD.out y (List.mem_filter.1 hy).1
          obtain ⟨x, hxm, hek, hcv⟩ := hli.find hgf.wf hat
          have hxl := (List.mem_filter.1 hxm).1
          have hgx := HGD.out x hxl
          have hw := HGD.out.wf x hxl
          obtain ⟨k, hkr⟩ : ∃ k : Nat, x.r = k := ⟨x.r.toNat, by have := hgx.1; omega⟩
          have hk7 : k < 7 := by have := hgx.1; omega
          have hpe : pr = x.r ∧ ps = x.s := by
            rw [← hek] at hkey
            have := keyLaw.inj hkey (key_inst x.r x.s hw.1 hw.2)
            simp only [instV, Value.agg.injEq, Array.mk.injEq, List.cons.injEq, Value.int.injEq, true_and, and_true] at this
            exact this
          obtain ⟨h1, h2⟩ := hpe
          rw [hkr] at h1
          subst h1; subst h2; subst hcv; subst hek
          have hT1 := touch_of_grownBy hg1
          have HX1 := Lib.hid (hx.touch hT1 HGR.out)
          have HT1 := Lib.hid (ht.fresh hT1 HSZ.out)
          have HR1 := Lib.hid hrg1
          have HL0 := Lib.hid hrg.left_eq
          have HLT := Lib.hid hlt
          have HLI := Lib.hid hli
          have HXL := Lib.hid hxl
          have HKR := Lib.hid hkr
          have HW := Lib.hid hw
          have HGF := Lib.hid hgf
          clear hrg1 hrg hlt hg1 hs1 hR hy hat hkey hlk hx ht hli hT1 hxl hkr hw hgx hgf hxm
          unfold Ent.val notedV instV at hen
          simp only [instV, Ent.val, notedV] at hen ⊢
          go_upto_region 9 with (fail)
          go_name_world W hW
          have hkb : Holds W w1.heap.size 26 [.int .i64 k, .int .i64 x.s] := by rw [← hW]; exact holds_alloc w1 _ _
          have hB : Below w1.heap.size w1 W := by rw [← hW]; go_grown
          clear hW
          have HX2 := Lib.hid (HX1.out.below hB HX1.out.lt)
          have HT2 := Lib.hid (HT1.out.below hB)
          have HR2 := Lib.hid (HR1.out.kept (row := none) ⟨hB.os, hB.tape, hB.output, hB.size, fun i hi _ => hB.block i hi⟩ (by simp) (by simp))
          clear hB
          generalize w1.heap.size = gk at hkb ⊢
          have k0 := hkb.cell 0
          have k1 := hkb.cell 1
          have ck := HX2.out.cell (1 + k)
          rw [cut_get _ _ _ hk7] at ck
          simp only [List.getElem?_cons_zero, List.getElem?_cons_succ] at k0 k1
          have HKB := Lib.hid hkb; clear hkb
          by_cases hle : x.s ≤ e k
          · have HLE := Lib.hid (show ¬ e x.r.toNat < x.s by rw [HKR.out, Int.toNat_natCast]; omega)
            go_region
            go_upto_region 10 with (fail)
            go_name_world W3 hW3
            have hB3 : Below W.heap.size W W3 := by rw [← hW3]; go_grown
            clear hW3
            have hkb := HKB.out.below hB3 HKB.out.lt
            have HX3 := Lib.hid (HX2.out.below hB3 HX2.out.lt)
            have HT3 := Lib.hid (HT2.out.below hB3)
            have HR3 := Lib.hid (HR2.out.kept (row := none) ⟨hB3.os, hB3.tape, hB3.output, hB3.size, fun i hi _ => hB3.block i hi⟩ (by simp) (by simp))
            clear hB3 k0 k1 ck hle
            have k0 := hkb.cell 0
            have k1 := hkb.cell 1
            have m0 := HX3.out.cell 0
            simp only [List.getElem?_cons_zero, List.getElem?_cons_succ] at k0 k1 m0
            have hkey := key_inst x.r x.s HW.out.1 HW.out.2
            rw [HKR.out] at hkey
            obtain ⟨w5, cnt5, hdel, hr5, hle5, hturn⟩ := (HR3.out.kept (row := none) (w' := W3.drew) ⟨rfl, rfl, rfl, Nat.le_refl _, fun _ _ _ => rfl⟩ (by simp) (by simp)).drop keyLaw Try.underlying60 hkey 0
            unfold instV at hdel
            have hT5 := touch_of_grownBy hturn.grown
            have ht4 := HT3.out.below (w2 := W3.drew) ⟨rfl, rfl, rfl, Nat.le_refl _, fun _ _ => rfl⟩
            have hx4 := HX3.out.drewN 1
            have HR5' := Lib.hid hr5
            have HH := Lib.hid hle5
            clear hr5 hle5 hturn hkb
            go_region
            have hr5 := HR5'.out
            have hle5 := HH.out
            clear hdel k0 k1 m0
            have hkx : x.key = keyL k x.s := by unfold Ent.key; rw [HKR.out]
            have hl5 := HLI.out.del HGF.out.wf x.r x.s HW.out.1 HW.out.2
            have hfs := filter_gone_step HL.out HGD.out.wf HXL.out e (left := left) HLE.out
            have hl6 : Lists (D.del x.key) (l.filter (keepB e fun z => left z && !z.sameKey x.key)) := by
              rw [hfs]
              exact hl5
            rw [hkx, strike_twice, ← hkx] at hr5
            have HR5 := Lib.hid hr5
            have HL6 := Lib.hid hl6
            have HX5 := Lib.hid (hx4.touch hT5 HN.out)
            have HT5 := Lib.hid (ht4.right hT5)
            clear hr5 hl6 hx4 hT5 ht4 hl5 hfs hkey HR5' HH
            go_wp2_with fail
            go_roundw
            case rel => exact ⟨_, _, _, HR5.out, HL6.out, HX5.out, HT5.out⟩
            case measure => rw [HR5.out.left_eq, HL0.out]; have := HLT.out; omega
          · have HLE := Lib.hid (show e x.r.toNat < x.s by rw [HKR.out, Int.toNat_natCast]; omega)
            go_region
            go_wp2_with fail
            go_roundw
            case rel =>
              refine ⟨_, _, _, HR2.out.kept (row := none) ⟨rfl, rfl, rfl, Nat.le_refl _, fun _ _ _ => rfl⟩ (by simp) (by simp), ?_, HX2.out.drewN 1, HT2.out.below ⟨rfl, rfl, rfl, Nat.le_refl _, fun _ _ => rfl⟩⟩
              rw [filter_keep_step HL.out HGD.out.wf HXL.out e (left := left) HLE.out]
              exact HLI.out
            case measure => rw [(HR2.out.kept (row := none) (w' := W.drew) ⟨rfl, rfl, rfl, Nat.le_refl _, fun _ _ _ => rfl⟩ (by simp) (by simp)).left_eq, HL0.out]; exact HLT.out
end Go.Proofs.Ytleagecocffihaa
