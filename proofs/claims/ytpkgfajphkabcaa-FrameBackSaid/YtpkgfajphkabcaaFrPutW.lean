/-
  The walks of frame.Put and the document's own Frame.
-/
import Derived.Test.YtpkgfajphkabcaaFrNextW
import Derived.Test.YtpkgfajphkabcaaRefPutW
import Derived.Deep.DeepMust
import Derived.Deep.DeepAppendRoom
namespace Go.Proofs.Ytpkgfajphkabcaa
open Go.RowKit
set_option linter.unusedVariables false

/-- An append to a block of the call's own that has the room. -/
theorem wpList_append_room {P : Program} {w : World} {ops : Array Oper} {rest : List Oper} {o : Oper} {a : Act} {Q : Exit → Act → World → Prop} (hgd : o.guard = none) (s x : Operand) (t : TypeId)
    (ho : o.op = .call { callee := .builtin .append, args := #[s, x], argTypes := #[t, t] })
    (base : Nat) (e : TypeId) (z : Value) (size bytes : Nat) (ht : P.underlying t = some (.slice e)) (hi : (P.info? e).map (fun i => (i.zero, i.size, i.bytes)) = some (some z, size, bytes)) (hsz : 0 < size)
    (g n cap : Nat) (xs : List Value) (hs : a.eval s = .slice (some ⟨g, 0, none⟩) n cap) (hown : w.ownsRow base e size (.slice (some ⟨g, 0, none⟩) n cap) n xs)
    (sp : Option Addr) (m c : Nat) (news : List Value) (hx : a.eval x = .slice sp m c) (hl : news.length = m * size) (hsrc : Reads w sp news) (hnil : sp = none → c = 0) (h1 : ∀ u ∈ news, u.oneCell' = true)
    (hroom : n + m ≤ cap) (hbase : base ≤ w.heap.size)
    (h : ∀ w', w'.ownsRow base e size (.slice (some ⟨g, 0, none⟩) (n + m) cap) (n + m) (xs ++ news) → Below base w w' → w.grownBy w' (some g) → wpList P ops Q rest (a.put o.dst (.slice (some ⟨g, 0, none⟩) (n + m) cap)) w') : wpList P ops Q (o :: rest) a w := by
  obtain ⟨i, hi0, hz, hsize, hby⟩ := info_parts hi
  cases sp with
  | none =>
    obtain rfl := hnil rfl
    have hm : news = [] := by
      by_cases h0 : 0 < news.length
      · obtain ⟨b, off, hb, _⟩ := hsrc h0; cases hb
      · exact List.eq_nil_of_length_eq_zero (by omega)
    subst hm
    have hm0 : m = 0 := by
      have hl' : m * size = 0 := by simpa using hl.symm
      rcases Nat.mul_eq_zero.1 hl' with h | h <;> omega
    subst hm0
    refine wpList_append_own_none hgd s x t ho base e i size ht hi0 _ n xs hs hown hx ?_
    exact h w (by simpa using hown) (Below.refl _ _) ⟨rfl, rfl, rfl, Nat.le_refl _, fun _ _ _ => rfl⟩
  | some ad =>
    refine wpList_append_own_spare w hgd s x t ho base e i size ht hi0 hsize g n cap xs hs hown ad m c news hx hl ?_ h1 hroom ?_
    · intro j u hu
      have h0 : 0 < news.length := by have := (List.getElem?_eq_some_iff.1 hu).1; omega
      obtain ⟨b, off, hb, _, hc⟩ := hsrc h0
      simp only [Option.some.injEq] at hb
      subst hb
      rw [add_at]; exact hc j u hu
    · intro w' ho' hg
      exact h w' ho' ((Below.refl _ _).grown hg hbase fun k hk => by
        simp only [Option.some.injEq] at hk
        subst hk
        exact (hown.lt _ rfl).1) hg

set_option maxHeartbeats 2000000 in
theorem fput_some (a p : Option Addr) (len cap plen pcap : Nat) (bs ps : List Nat) (w : World) (hb : IsBytes w a len bs) (hnil : a = none → cap = 0) (hl : len ≤ 140737488351232) (hp : IsBytes w p plen ps) (hpnil : p = none → pcap = 0) (hpl : plen ≤ 140737488351232) (h1 : 1 ≤ plen) (h2 : plen ≤ 16384) :
    Calls Try.prog 8 #[.slice a len cap, .slice p plen pcap] w fun e w' => e = .returned (.slice (some ⟨w.heap.size, 0, none⟩) (len + (plen + 6)) (len + 2 + plen + 4)) ∧ IsBytes w' (some ⟨w.heap.size, 0, none⟩) (len + (plen + 6)) (bs ++ (hd ps ++ putN 4 (SumP.on 0 (hd ps)))) ∧ Below w.heap.size w w' ∧ w'.ownsRow w.heap.size 5 1 (.slice (some ⟨w.heap.size, 0, none⟩) (len + (plen + 6)) (len + 2 + plen + 4)) (len + (plen + 6)) (cells8 (bs ++ (hd ps ++ putN 4 (SumP.on 0 (hd ps))))) := by
  have hlen := hb.len
  have hplen := hp.len
  have HBS := Lib.hid hb; clear hb
  have HPS := Lib.hid hp; clear hp
  have HNIL := Lib.hid hnil; clear hnil
  have HPNIL := Lib.hid hpnil; clear hpnil
  have e0 : ((plen : Int) == 0) = false := by simp; omega
  have e1 : decide (16384 < (plen : Int)) = false := by simp; omega
  go_enter Try.func8, Try.ntmps8
  go_upto_region 1 with (fail)
  go_wp2_with (first
    | (at_make; go_must (refine wpList_make_block w rfl (.const (.int .i64 0)) (.tmp 13) 22 rfl 5 (.int .u8 0) 1 rfl (by kernel_rfl) rfl .i64 .i64 _ _ 0 (len + 2 + plen + 4) rfl rfl rfl (by push_cast; rfl) (by omega) (by omega) (by unfold maxLen; omega) ?_); intro w1 hh1 hb1 hs1; have HO1 := Lib.hid (made_owns w.heap.size (Nat.le_refl _) hh1 (by unfold maxLen; omega)))
    | (at_builtin; go_must (refine wpList_append_room rfl (.tmp 14) (.tmp 15) 22 rfl w.heap.size 5 (.int .u8 0) 1 1 rfl (by kernel_rfl) (by decide) w.heap.size 0 (len + 2 + plen + 4) [] rfl HO1.out a len cap (cells8 bs) rfl (by rw [length_cells8, hlen, Nat.mul_one]) (HBS.out.reads.below hb1) HNIL.out (cells8_one bs) (by omega) (by omega) ?_); intro w2 ho2 hb2 _; rw [Nat.zero_add, List.nil_append] at ho2; have HO2 := Lib.hid ho2; clear ho2))
  have hk := put_any none 0 0 [] 2 plen w2 (IsBytes.nil _ _) (fun _ => rfl) (by omega) (by omega)
  rw [show cut8 2 = 2 from by decide, Nat.zero_add, List.nil_append] at hk
  refine hk.mono ?_
  rintro e w3 ⟨q2, c2, rfl, _, _, _, _, hb3, ho3⟩
  have HO3 := Lib.hid ho3; clear ho3
  have hB2 : Below w.heap.size w w2 := hb1.trans hb2
  have HB3 := Lib.hid (hB2.trans (hb3.mono hB2.size))
  have hs3 := hb3.size
  have eh : cells8 (putN 2 plen) ++ cells8 ps = cells8 (hd ps) := by unfold hd cells8; rw [hplen]; simp
  have h8 : ∀ x ∈ hd ps, x < 256 := by
    intro x hx
    unfold hd at hx
    rcases List.mem_append.1 hx with hx | hx
    · exact putN_lt _ _ x hx
    · exact HPS.out.2.2.1 x hx
  have hdl : (hd ps).length = 2 + plen := by unfold hd; simp [putN_len, hplen]
  have H8 := Lib.hid h8; clear h8
  have EH := Lib.hid eh; clear eh
  have HDL := Lib.hid hdl; clear hdl
  have hs2 := hB2.size
  go_wp2_with (first
    | (at_builtin; refine wpList_append_cells rfl (.tmp 29) (.tmp 30) 22 rfl w2.heap.size 5 (.int .u8 0) 1 1 rfl (by kernel_rfl) rfl (by decide) _ 2 (cells8 (putN 2 plen)) rfl HO3.out p plen pcap (cells8 ps) rfl (by rw [length_cells8, hplen, Nat.mul_one]) (HPS.out.reads.below HB3.out) HPNIL.out (cells8_one ps) (by unfold maxLen; omega) (by omega) (by omega) ?_; intro v4 w4 ho4 hb4 _; rw [EH.out] at ho4; obtain ⟨q4, c4, rfl, h41, h42, h43, h44⟩ := owns_form ho4 (by omega); have HO4 := Lib.hid ho4; have HF4 := Lib.hid (h44 _ rfl H8.out); have H43 := Lib.hid h43; clear ho4 h44 h43; have hs4 := hb4.size)
    | (at_builtin; go_must (refine wpList_append_room rfl (.tmp 32) (.tmp 33) 22 rfl w.heap.size 5 (.int .u8 0) 1 1 rfl (by kernel_rfl) (by decide) w.heap.size len (len + 2 + plen + 4) (cells8 bs) rfl (owns_below HO2.out (hb3.trans hb4)) q4 (2 + plen) c4 (cells8 (hd ps)) rfl (by rw [length_cells8, HDL.out, Nat.mul_one]) HF4.out.reads H43.out (cells8_one _) (by omega) (by omega) ?_); intro w5 ho5 hb5 hg5; have HO5 := Lib.hid ho5; clear ho5))
  have hsum := SumP.on_lt 0 (hd ps)
  have hlt2 := (HO2.out.lt w.heap.size rfl).2
  have hne : (Value.slice q4 (2 + plen) c4).ownBlock = none ∨ (Value.slice q4 (2 + plen) c4).ownBlock ≠ some w.heap.size := by
    cases ho : (Value.slice q4 (2 + plen) c4).ownBlock with
    | none => exact .inl rfl
    | some k =>
      right
      have := (HO4.out.lt k ho).1
      intro h
      simp only [Option.some.injEq] at h
      omega
  have ho5f := HO4.out.kept hg5 hne
  obtain ⟨q4', c4', e4, _, _, _, h45⟩ := owns_form ho5f (by omega)
  have HF5 := Lib.hid (h45 _ rfl H8.out)
  obtain ⟨rfl, _, rfl⟩ : q4' = q4 ∧ True ∧ c4' = c4 := by
    simp only [Value.slice.injEq] at e4
    exact ⟨e4.1.symm, trivial, e4.2.2.symm⟩
  clear ho5f h45 e4
  have hB5 : Below w.heap.size w w5 := (HB3.out.trans (hb4.mono (by omega))).trans hb5
  refine (of_any q4' (2 + plen) c4' (hd ps) w5 HF5.out).mono ?_
  rintro e w6 ⟨rfl, rfl⟩
  generalize hc : SumP.on 0 (hd ps) = c at hsum ⊢
  go_wp2_with fail
  have hk := put_any none 0 0 [] 4 c w5 (IsBytes.nil _ _) (fun _ => rfl) (by omega) (by omega)
  rw [show cut8 4 = 4 from by decide, Nat.zero_add, List.nil_append] at hk
  refine hk.mono ?_
  rintro e w6 ⟨q6, c6, rfl, _, _, h6, hn6, hb6, _⟩
  have H6 := Lib.hid h6; clear h6
  have HN6 := Lib.hid hn6; clear hn6 hk
  have hs5 := hB5.size
  have hs6 := hb6.size
  have HD := Lib.hid (show cells8 bs ++ cells8 (hd ps) ++ cells8 (putN 4 c) = cells8 (bs ++ (hd ps ++ putN 4 c)) from by simp [cells8])
  go_wp2_with (at_builtin; go_must (refine wpList_append_room rfl _ _ 22 rfl w.heap.size 5 (.int .u8 0) 1 1 rfl (by kernel_rfl) (by decide) w.heap.size (len + (2 + plen)) (len + 2 + plen + 4) (cells8 bs ++ cells8 (hd ps)) rfl (owns_below HO5.out hb6) q6 4 c6 (cells8 (putN 4 c)) rfl (by rw [length_cells8, putN_len]) H6.out.reads HN6.out (cells8_one _) (by omega) (by omega) ?_); intro w7 ho7 hb7 _; have HO7 := Lib.hid ho7; clear ho7)
  have ho7 := HO7.out
  rw [HD.out, show len + (2 + plen) + 4 = len + (plen + 6) by omega] at ho7
  rw [show len + (2 + plen) + 4 = len + (plen + 6) by omega]
  have h8 : ∀ x ∈ bs ++ (hd ps ++ putN 4 c), x < 256 := by
    intro x hx
    rcases List.mem_append.1 hx with hx | hx
    · exact HBS.out.2.2.1 x hx
    · rcases List.mem_append.1 hx with hx | hx
      · exact H8.out x hx
      · exact putN_lt _ _ x hx
  obtain ⟨q7, c7, e7, _, _, _, h77⟩ := owns_form ho7 (by omega)
  have HF7 := Lib.hid (h77 _ rfl h8)
  simp only [Value.slice.injEq] at e7
  obtain ⟨rfl, _, rfl⟩ := e7
  have HOO := Lib.hid ho7
  have HBB := Lib.hid ((hB5.trans (hb6.mono hs5)).trans hb7)
  clear HO7 ho7 h8 h77
  subst hc
  go_ret
  exact ⟨rfl, HF7.out, HBB.out, HOO.out⟩
set_option maxHeartbeats 1000000 in
theorem fput_none (a p : Option Addr) (len cap plen pcap : Nat) (bs ps : List Nat) (w : World) (hb : IsBytes w a len bs) (hnil : a = none → cap = 0) (hl : len ≤ 140737488351232) (hpl : plen ≤ 140737488351232) (h : plen = 0 ∨ 16384 < plen) :
    Calls Try.prog 8 #[.slice a len cap, .slice p plen pcap] w fun e w' => e = .returned (.slice (some ⟨w.heap.size, 0, none⟩) len (len + 2 + plen + 4)) ∧ IsBytes w' (some ⟨w.heap.size, 0, none⟩) len bs ∧ Below w.heap.size w w' ∧ w'.ownsRow w.heap.size 5 1 (.slice (some ⟨w.heap.size, 0, none⟩) len (len + 2 + plen + 4)) len (cells8 bs) := by
  have hlen := hb.len
  have HBS := Lib.hid hb; clear hb
  have HNIL := Lib.hid hnil; clear hnil
  rcases h with h | h
  · have e0 : ((plen : Int) == 0) = true := by simp; omega
    have hp' : plen ≤ 0 := by omega
    clear h
    go_enter Try.func8, Try.ntmps8
    go_wp2_with (first
      | (at_make; go_must (refine wpList_make_block w rfl (.const (.int .i64 0)) (.tmp 13) 22 rfl 5 (.int .u8 0) 1 rfl (by kernel_rfl) rfl .i64 .i64 _ _ 0 (len + 2 + plen + 4) rfl rfl rfl (by push_cast; rfl) (by omega) (by omega) (by unfold maxLen; omega) ?_); intro w1 hh1 hb1 hs1; have HO1 := Lib.hid (made_owns w.heap.size (Nat.le_refl _) hh1 (by unfold maxLen; omega)))
      | (at_builtin; refine wpList_append_room rfl (.tmp 14) (.tmp 15) 22 rfl w.heap.size 5 (.int .u8 0) 1 1 rfl (by kernel_rfl) (by decide) w.heap.size 0 (len + 2 + plen + 4) [] rfl HO1.out a len cap (cells8 bs) rfl (by rw [length_cells8, hlen, Nat.mul_one]) (HBS.out.reads.below hb1) HNIL.out (cells8_one bs) (by omega) (by omega) ?_; intro w2 ho2 hb2 _; rw [Nat.zero_add, List.nil_append] at ho2; have HO2 := Lib.hid ho2; clear ho2))
    obtain ⟨q7, c7, e7, _, _, _, h77⟩ := owns_form HO2.out (by omega)
    have HF7 := Lib.hid (h77 _ rfl HBS.out.2.2.1)
    simp only [Value.slice.injEq] at e7
    obtain ⟨rfl, _, rfl⟩ := e7
    have HBB := Lib.hid (hb1.trans hb2)
    clear h77
    go_ret
    exact ⟨rfl, HF7.out, HBB.out, HO2.out⟩
  · have e0 : ((plen : Int) == 0) = false := by simp; omega
    have e1 : decide (16384 < (plen : Int)) = true := by simp; omega
    go_enter Try.func8, Try.ntmps8
    go_wp2_with (first
      | (at_make; go_must (refine wpList_make_block w rfl (.const (.int .i64 0)) (.tmp 13) 22 rfl 5 (.int .u8 0) 1 rfl (by kernel_rfl) rfl .i64 .i64 _ _ 0 (len + 2 + plen + 4) rfl rfl rfl (by push_cast; rfl) (by omega) (by omega) (by unfold maxLen; omega) ?_); intro w1 hh1 hb1 hs1; have HO1 := Lib.hid (made_owns w.heap.size (Nat.le_refl _) hh1 (by unfold maxLen; omega)))
      | (at_builtin; refine wpList_append_room rfl (.tmp 14) (.tmp 15) 22 rfl w.heap.size 5 (.int .u8 0) 1 1 rfl (by kernel_rfl) (by decide) w.heap.size 0 (len + 2 + plen + 4) [] rfl HO1.out a len cap (cells8 bs) rfl (by rw [length_cells8, hlen, Nat.mul_one]) (HBS.out.reads.below hb1) HNIL.out (cells8_one bs) (by omega) (by omega) ?_; intro w2 ho2 hb2 _; rw [Nat.zero_add, List.nil_append] at ho2; have HO2 := Lib.hid ho2; clear ho2))
    obtain ⟨q7, c7, e7, _, _, _, h77⟩ := owns_form HO2.out (by omega)
    have HF7 := Lib.hid (h77 _ rfl HBS.out.2.2.1)
    simp only [Value.slice.injEq] at e7
    obtain ⟨rfl, _, rfl⟩ := e7
    have HBB := Lib.hid (hb1.trans hb2)
    clear h77
    go_ret
    exact ⟨rfl, HF7.out, HBB.out, HO2.out⟩
/-- frame.Put: the bytes, and the payload's frame behind them. -/
theorem fput_any (a p : Option Addr) (len cap plen pcap : Nat) (bs ps : List Nat) (w : World) (hb : IsBytes w a len bs) (hnil : a = none → cap = 0) (hl : len ≤ 140737488351232) (hp : IsBytes w p plen ps) (hpnil : p = none → pcap = 0) (hpl : plen ≤ 140737488351232) :
    Calls Try.prog 8 #[.slice a len cap, .slice p plen pcap] w fun e w' => ∃ c, e = .returned (.slice (some ⟨w.heap.size, 0, none⟩) (len + (fr ps).length) c) ∧ len + (fr ps).length ≤ c ∧ IsBytes w' (some ⟨w.heap.size, 0, none⟩) (len + (fr ps).length) (bs ++ fr ps) ∧ Below w.heap.size w w' ∧ w'.ownsRow w.heap.size 5 1 (.slice (some ⟨w.heap.size, 0, none⟩) (len + (fr ps).length) c) (len + (fr ps).length) (cells8 (bs ++ fr ps)) := by
  have hplen := hp.len
  rw [fr_len]
  unfold fr
  by_cases h : ps.length = 0 ∨ 16384 < ps.length
  · rw [if_pos h, if_pos h, List.append_nil, Nat.add_zero]
    refine (fput_none a p len cap plen pcap bs ps w hb hnil hl hpl (by omega)).mono ?_
    rintro e w' ⟨rfl, h1, h2, h3⟩
    exact ⟨_, rfl, by omega, h1, h2, h3⟩
  · rw [if_neg h, if_neg h, hplen]
    refine (fput_some a p len cap plen pcap bs ps w hb hnil hl hp hpnil hpl (by omega) (by omega)).mono ?_
    rintro e w' ⟨rfl, h1, h2, h3⟩
    exact ⟨_, rfl, by omega, h1, h2, h3⟩
end Go.Proofs.Ytpkgfajphkabcaa
