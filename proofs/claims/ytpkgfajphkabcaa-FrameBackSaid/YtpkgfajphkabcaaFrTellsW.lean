/-
  The walks of the statement's lists, of the document's own Frame, and of FrameTells.
-/
import Derived.Test.YtpkgfajphkabcaaFrScanLW
import Derived.Lib.QuietBelow
import Derived.ArgAppend
namespace Go.Proofs.Ytpkgfajphkabcaa
open Go.RowKit
set_option linter.unusedVariables false

set_option maxHeartbeats 1000000 in
theorem lists_any (a b : Option Addr) (n ca cb : Nat) (ps : List (List Nat)) (w : World) (ha : IsLists w a n ps) (hb : IsLists w b n ps) (hn : n ≤ 1073741824) :
    Calls Try.prog 17 #[.slice a n ca, .slice b n cb] w fun e w' => e = .returned (.bool true) ∧ Below w.heap.size w w' := by
  have HA := Lib.hid ha; clear ha
  have HB := Lib.hid hb; clear hb
  go_enter Try.func17, Try.ntmps17
  go_wp2_with fail
  go_loopw [5] (fun i wr => ∃ k : Nat, k ≤ n ∧ i = .int .i64 k ∧ Below w.heap.size w wr) (fun i _ => n - (intOf i).toNat)
  case atStart => exact ⟨0, by omega, rfl, Below.refl _ _⟩
  case round =>
    obtain ⟨k, hk, rfl, hbr⟩ := hrel
    by_cases hlt : k < n
    · obtain ⟨b1, o1, rfl, hl1, hc1⟩ := (HA.out.below hbr).2 (by omega)
      obtain ⟨b2, o2, rfl, hl2, hc2⟩ := (HB.out.below hbr).2 (by omega)
      obtain ⟨p1, c1, hx1, _, hi1⟩ := hc1 k hlt
      obtain ⟨p2, c2, hx2, _, hi2⟩ := hc2 k hlt
      clear hc1 hc2
      generalize ps.getD k [] = q at hx1 hx2 hi1 hi2
      have hs := fun W (hW : Below wr.heap.size wr W) => same_any p1 p2 q.length q.length c1 c2 q q W (hi1.below hW) (hi2.below hW)
      simp only [decide_true] at hs
      have HS := Lib.hid hs; clear hs hi1 hi2
      have HBR := Lib.hid hbr
      generalize q.length = m at *
      have g1 : ∀ d os, (Sort.grow (redrawn wr d) os).cell? ⟨b1, o1 + k, none⟩ = some (.slice p1 m c1) := fun d os => by
        rw [(below_of_regrown (w := wr) ⟨⟨d, os⟩, rfl⟩).cell (p := ⟨b1, o1 + k, none⟩) hl1]; exact hx1
      have g2 : ∀ d os, (Sort.grow (redrawn wr d) os).cell? ⟨b2, o2 + k, none⟩ = some (.slice p2 m c2) := fun d os => by
        rw [(below_of_regrown (w := wr) ⟨⟨d, os⟩, rfl⟩).cell (p := ⟨b2, o2 + k, none⟩) hl2]; exact hx2
      clear hbr hx1 hx2
      go_upto_region 6 with (fail)
      refine wp_region_quiet_below (by kernel_rfl) (by kernel_rfl) ?_
      repeat go_big_quiet_step (first | (go_at_call 15; with_reducible exact calls_regrown HS.out))
      refine wpQuiet_nil ?_
      intro w3 hw'
      have HB3 := Lib.hid (below_next HBR.out (below_of_regrown hw'))
      clear hw' g1 g2 HS
      go_wp2_with fail
      go_roundw
      case rel => exact ⟨k + 1, by omega, by go_num, HB3.out⟩
      case measure => simp [intOf]; omega
    · go_wp2_with fail
      go_ret
      exact ⟨rfl, hbr⟩
/-- An append to an owned slice; the block of what comes out is the old one or a new one. -/
theorem wpList_append_known {P : Program} {w : World} {ops : Array Oper} {rest : List Oper} {o : Oper} {a : Act} {Q : Exit → Act → World → Prop} (hgd : o.guard = none) (s x : Operand) (t : TypeId)
    (ho : o.op = .call { callee := .builtin .append, args := #[s, x], argTypes := #[t, t] })
    (base : Nat) (e : TypeId) (z : Value) (bytes : Nat) (ht : P.underlying t = some (.slice e)) (hi : (P.info? e).map (fun i => (i.zero, i.size, i.bytes)) = some (some z, 1, bytes)) (hzs : z.cells.size = 1)
    (v : Value) (n : Nat) (xs : List Value) (hs : a.eval s = v) (hown : w.ownsRow base e 1 v n xs)
    (sp : Option Addr) (m c : Nat) (news : List Value) (hx : a.eval x = .slice sp m c) (hl : news.length = m) (hsrc : Reads w sp news) (hnil : sp = none → c = 0) (hm0 : 0 < m) (h1 : ∀ u ∈ news, u.oneCell' = true)
    (h63 : n + m ≤ maxLen) (hbytes : (n + m) * bytes ≤ 140737488355328) (hbase : base ≤ w.heap.size)
    (h : ∀ v' w', w'.ownsRow base e 1 v' (n + m) (xs ++ news) → Below base w w' → w.grownBy w' v.ownBlock → (v'.ownBlock = v.ownBlock ∨ ∀ k, v'.ownBlock = some k → w.heap.size ≤ k) → wpList P ops Q rest (a.put o.dst v') w') : wpList P ops Q (o :: rest) a w := by
  obtain ⟨b, off, rfl, _, hc⟩ := hsrc (by omega)
  obtain ⟨i, hi0, hz, hsize, hby⟩ := info_parts hi
  have hsrc' : ∀ j u, news[j]? = some u → w.cell? (Addr.add ⟨b, off, none⟩ j) = some u := fun j u hu => by rw [add_at]; exact hc j u hu
  have hgrow : ∀ (ao : Option Addr) (cap : Nat), v = .slice ao n cap → (ao = none → n = 0 ∧ cap = 0) → (∀ b, ao = some b → ∀ j u, xs[j]? = some u → w.cell? (b.add j) = some u) → cap < n + m → wpList P ops Q (o :: rest) a w := by
    intro ao cap hv hnone hold hfull
    refine wpList_append_grows w hgd s x t ho e i z 1 bytes ht hi0 hz hsize hby hzs (by decide) ao n cap xs (by rw [hs, hv]) hnone hown.1 hold ⟨b, off, none⟩ m c news hx (by omega) hsrc' h1 hfull h63 hbytes ?_
    intro v' w' ho' hg
    refine h v' w' ⟨ho'.1, ?_⟩ ((Below.refl _ _).grown hg hbase fun k hk => by cases hk) ⟨hg.os, hg.tape, hg.output, hg.size, fun k hk _ => hg.block k hk (by intro h; cases h)⟩ (.inr fun k hk => (ho'.lt k hk).1)
    rcases ho'.2 with hn | ⟨g, cap', cur, hv', hb', rest'⟩
    · exact .inl hn
    · exact .inr ⟨g, cap', cur, hv', Nat.le_trans hbase hb', rest'⟩
  have hown0 := hown
  obtain ⟨hxl, hor⟩ := hown
  rcases hor with ⟨hv, hn⟩ | ⟨g, cap, cur, hv, hg, hh, hnc, hcm, hcs, htk⟩
  · subst hn
    exact hgrow none 0 hv (fun _ => ⟨rfl, rfl⟩) (fun b hb => by cases hb) (by omega)
  · by_cases hr : n + m ≤ cap
    · refine wpList_append_own_spare w hgd s x t ho base e i 1 ht hi0 hsize g n cap xs (by rw [hs, hv]) (by rw [← hv]; exact hown0) ⟨b, off, none⟩ m c news hx (by omega) hsrc' h1 hr ?_
      intro w' ho' hg'
      have hvo : v.ownBlock = some g := by rw [hv]; rfl
      exact h _ w' ho' ((Below.refl _ _).grown hg' hbase fun k hk => by
        simp only [Option.some.injEq] at hk
        omega) (by rw [hvo]; exact hg') (.inl (by rw [hvo]; rfl))
    · refine hgrow (some ⟨g, 0, none⟩) cap hv (fun h => by cases h) (fun b hb j u hu => ?_) (by omega)
      simp only [Option.some.injEq] at hb
      subst hb
      rw [add_at, Nat.zero_add]
      have hj : j < n := by have := (List.getElem?_eq_some_iff.1 hu).1; omega
      unfold World.cell?
      simp only [hh]
      rw [← htk, List.getElem?_take_of_lt (by omega), Array.getElem?_toList] at hu
      exact hu
set_option maxHeartbeats 2000000 in
theorem rframe_some (a p : Option Addr) (len cap plen pcap : Nat) (bs ps : List Nat) (w : World) (hb : IsBytes w a len bs) (hnil : a = none → cap = 0) (hl : len ≤ 1073741824) (hp : IsBytes w p plen ps) (hpnil : p = none → pcap = 0) (h1 : 1 ≤ plen) (h2 : plen ≤ 16384) :
    Calls Try.prog 16 #[.slice a len cap, .slice p plen pcap] w fun e w' => ∃ q c, e = .returned (.slice q (len + (plen + 6)) c) ∧ IsBytes w' q (len + (plen + 6)) (bs ++ (hd ps ++ putN 4 (SumP.on 0 (hd ps)))) ∧ Below w.heap.size w w' := by
  have hlen := hb.len
  have hplen := hp.len
  have HBS := Lib.hid hb; clear hb
  have HPS := Lib.hid hp; clear hp
  have HNIL := Lib.hid hnil; clear hnil
  have HPNIL := Lib.hid hpnil; clear hpnil
  have e0 : ((plen : Int) == 0) = false := by simp; omega
  have e1 : decide (16384 < (plen : Int)) = false := by simp; omega
  have HO1 := Lib.hid (lit_owns w 5 w.heap.size (Nat.le_refl _))
  go_enter Try.func16, Try.ntmps16
  go_wp2_with (at_builtin; refine wpList_append_cells rfl (.tmp 7) (.tmp 8) 22 rfl w.heap.size 5 (.int .u8 0) 1 1 rfl (by kernel_rfl) rfl (by decide) _ 0 [] rfl HO1.out a len cap (cells8 bs) rfl (by rw [length_cells8, hlen, Nat.mul_one]) (HBS.out.reads.below (by go_grown)) HNIL.out (cells8_one bs) (by unfold maxLen; omega) (by omega) (by simp) ?_; intro v2 w2 ho2 hb2 _; rw [Nat.zero_add, List.nil_append] at ho2; have HO2 := Lib.hid ho2; clear ho2)
  have hB2 : Below w.heap.size w w2 := (show Below w.heap.size w _ by go_grown).trans hb2
  have hs2 := hB2.size
  have hk := rput_any none 0 0 [] 2 plen w2 (IsBytes.nil _ _) (fun _ => rfl) (by omega) (by omega)
  rw [show cut8 2 = 2 from by decide, Nat.zero_add, List.nil_append] at hk
  refine hk.mono ?_
  rintro e w3 ⟨q2, c2, rfl, _, _, hh3, hn3, hb3, ho3⟩
  have HO3 := Lib.hid ho3
  have HH3 := Lib.hid hh3
  have HN3 := Lib.hid hn3
  have HB3 := Lib.hid (hB2.trans (hb3.mono hs2))
  have HO2 := Lib.hid (And.intro (owns_below HO2.out hb3) HO2.out)
  have hs3 := hb3.size
  clear ho3 hh3 hn3 hk hb2
  go_wp2_with (first
    | (at_builtin; refine wpList_append_known rfl (.tmp 23) (.tmp 24) 22 rfl w.heap.size 5 (.int .u8 0) 1 rfl (by kernel_rfl) rfl _ len (cells8 bs) rfl HO2.out.1 q2 2 c2 (cells8 (putN 2 plen)) rfl (by rw [length_cells8, putN_len]) HH3.out.reads HN3.out (by decide) (cells8_one _) (by unfold maxLen; omega) (by omega) (by omega) ?_; intro v4 w4 ho4 hb4 hg4 hv4; have HO4 := Lib.hid ho4; have HG4 := Lib.hid (And.intro hg4 hv4); have hs4 := hb4.size; clear ho4 hg4 hv4)
    | (at_builtin; refine wpList_append_known rfl (.tmp 25) (.tmp 26) 22 rfl w.heap.size 5 (.int .u8 0) 1 rfl (by kernel_rfl) rfl _ (len + 2) (cells8 bs ++ cells8 (putN 2 plen)) rfl HO4.out p plen pcap (cells8 ps) rfl (by rw [length_cells8, hplen]) (HPS.out.reads.below (HB3.out.trans hb4)) HPNIL.out (by omega) (cells8_one _) (by unfold maxLen; omega) (by omega) (by omega) ?_; intro v6 w6 ho6 hb6 hg6 _; have HO6 := Lib.hid ho6; have HG6 := Lib.hid hg6; clear ho6 hg6))
  have hg4 : w3.grownBy w4 v2.ownBlock := HG4.out.1
  have hv4 : v4.ownBlock = v2.ownBlock ∨ ∀ k, v4.ownBlock = some k → w3.heap.size ≤ k := HG4.out.2
  have hg6 : w4.grownBy w6 v4.ownBlock := HG6.out
  have ne1 : (Value.slice q2 2 c2).ownBlock = none ∨ (Value.slice q2 2 c2).ownBlock ≠ v2.ownBlock := by
    cases hq : (Value.slice q2 2 c2).ownBlock with
    | none => exact .inl rfl
    | some k =>
      right
      intro h
      have h1 := (HO3.out.lt k hq).1
      have h2 := (HO2.out.2.lt k h.symm).2
      omega
  have ne2 : (Value.slice q2 2 c2).ownBlock = none ∨ (Value.slice q2 2 c2).ownBlock ≠ v4.ownBlock := by
    rcases hv4 with hv4 | hv4
    · rw [hv4]; exact ne1
    · cases hq : (Value.slice q2 2 c2).ownBlock with
      | none => exact .inl rfl
      | some k =>
        right
        intro h
        have h1 := (HO3.out.lt k hq).2
        have h2 := hv4 k h.symm
        omega
  obtain ⟨q2', c2', e4, _, _, _, h45⟩ := owns_form ((HO3.out.kept hg4 ne1).kept hg6 ne2) (by omega)
  simp only [Value.slice.injEq, true_and] at e4
  obtain ⟨rfl, rfl⟩ := e4
  have HH6 := Lib.hid (h45 _ rfl (putN_lt _ _))
  obtain ⟨q6, c6, rfl, _, _, hn6, h66⟩ := owns_form HO6.out (by omega)
  have hbs6 : cells8 bs ++ cells8 (putN 2 plen) ++ cells8 ps = cells8 (bs ++ hd ps) := by unfold hd cells8; rw [hplen]; simp
  have h8 : ∀ x ∈ bs ++ hd ps, x < 256 := by
    intro x hx
    unfold hd at hx
    rcases List.mem_append.1 hx with hx | hx
    · exact HBS.out.2.2.1 x hx
    · rcases List.mem_append.1 hx with hx | hx
      · exact putN_lt _ _ x hx
      · exact HPS.out.2.2.1 x hx
  have H66 := Lib.hid (h66 _ hbs6 h8)
  have HN6 := Lib.hid hn6
  have HB6 := Lib.hid ((HB3.out.trans hb4).trans hb6)
  have hsum : SumP.on (SumP.on 0 (putN 2 plen)) ps = SumP.on 0 (hd ps) := by
    rw [SumP.on_append 0 _ _ (putN_lt _ _)]
    unfold hd
    rw [hplen]
  have HSUM := Lib.hid hsum
  clear HG4 HG6 hg4 hv4 hg6 ne1 ne2 h45 h66 hbs6 h8 hn6 hsum HO1 HO2 HO3 HO4 HO6 hb3 hb4 hb6
  have hk := refon_any 0 q2 2 c2 (putN 2 plen) w6 (by decide) HH6.out
  rw [show ((0 : Nat) : Int) = 0 from rfl] at hk
  refine hk.mono ?_
  rintro e w7 ⟨rfl, rfl⟩
  clear hk
  have hlt := SumP.on_lt 0 (putN 2 plen)
  generalize hx : SumP.on 0 (putN 2 plen) = x at hlt HSUM ⊢
  go_wp2_with fail
  refine (refon_any x p plen pcap ps w6 hlt (HPS.out.below HB6.out)).mono ?_
  rintro e w7 ⟨rfl, rfl⟩
  rw [HSUM.out]
  have hlt2 := SumP.on_lt 0 (hd ps)
  generalize hc : SumP.on 0 (hd ps) = c at hlt2 ⊢
  go_wp2_with fail
  have hk := rput_any q6 (len + 2 + plen) c6 (bs ++ hd ps) 4 c w6 H66.out HN6.out (by omega) (by omega)
  rw [show cut8 4 = 4 from by decide, show len + 2 + plen + 4 = len + (plen + 6) by omega, List.append_assoc] at hk
  refine hk.mono ?_
  rintro e w7 ⟨q7, c7, rfl, _, _, h7, _, hb7, _⟩
  have H7 := Lib.hid h7
  have HB7 := Lib.hid (below_next HB6.out hb7)
  clear hk h7 hb7
  subst hc
  go_wp2_with fail
  go_ret
  exact ⟨q7, c7, rfl, H7.out, HB7.out⟩
set_option maxHeartbeats 1000000 in
theorem rframe_none (a p : Option Addr) (len cap plen pcap : Nat) (bs : List Nat) (w : World) (hb : IsBytes w a len bs) (hnil : a = none → cap = 0) (hl : len ≤ 1073741824) (h : plen = 0 ∨ 16384 < plen) :
    Calls Try.prog 16 #[.slice a len cap, .slice p plen pcap] w fun e w' => ∃ q c, e = .returned (.slice q len c) ∧ IsBytes w' q len bs ∧ Below w.heap.size w w' := by
  have hlen := hb.len
  have HBS := Lib.hid hb; clear hb
  have HNIL := Lib.hid hnil; clear hnil
  have HO1 := Lib.hid (lit_owns w 5 w.heap.size (Nat.le_refl _))
  have hcase : (((plen : Int) == 0) = true) ∨ (((plen : Int) == 0) = false ∧ decide (16384 < (plen : Int)) = true) := by
    rcases h with h | h
    · left; simp; omega
    · right; constructor <;> simp <;> omega
  clear h
  rcases hcase with e0 | ⟨e0, e1⟩
  all_goals
    go_enter Try.func16, Try.ntmps16
    go_wp2_with (at_builtin; refine wpList_append_cells rfl (.tmp 7) (.tmp 8) 22 rfl w.heap.size 5 (.int .u8 0) 1 1 rfl (by kernel_rfl) rfl (by decide) _ 0 [] rfl HO1.out a len cap (cells8 bs) rfl (by rw [length_cells8, hlen, Nat.mul_one]) (HBS.out.reads.below (by go_grown)) HNIL.out (cells8_one bs) (by unfold maxLen; omega) (by omega) (by simp) ?_; intro v2 w2 ho2 hb2 _; rw [Nat.zero_add, List.nil_append] at ho2; have HO2 := Lib.hid ho2; clear ho2)
    obtain ⟨q, c, rfl, _, _, _, h7⟩ := owns_form HO2.out (by omega)
    have H7 := Lib.hid (h7 _ rfl HBS.out.2.2.1)
    have HB2 := Lib.hid ((show Below w.heap.size w _ by go_grown).trans hb2)
    clear h7 hb2
    go_ret
    exact ⟨q, c, rfl, H7.out, HB2.out⟩
theorem rframe_any (a p : Option Addr) (len cap plen pcap : Nat) (bs ps : List Nat) (w : World) (hb : IsBytes w a len bs) (hnil : a = none → cap = 0) (hl : len ≤ 1073741824) (hp : IsBytes w p plen ps) (hpnil : p = none → pcap = 0) :
    Calls Try.prog 16 #[.slice a len cap, .slice p plen pcap] w fun e w' => ∃ q c, e = .returned (.slice q (len + (fr ps).length) c) ∧ IsBytes w' q (len + (fr ps).length) (bs ++ fr ps) ∧ Below w.heap.size w w' := by
  have hplen := hp.len
  rw [fr_len]
  unfold fr
  by_cases h : ps.length = 0 ∨ 16384 < ps.length
  · rw [if_pos h, if_pos h, List.append_nil, Nat.add_zero]
    exact rframe_none a p len cap plen pcap bs w hb hnil hl (by omega)
  · rw [if_neg h, if_neg h, hplen]
    exact rframe_some a p len cap plen pcap bs ps w hb hnil hl hp hpnil (by omega) (by omega)
end Go.Proofs.Ytpkgfajphkabcaa
