/-
  The walk of FrameBack.
-/
import Derived.Test.YtpkgfajphkabcaaFrBackP
import Derived.Test.YtpkgfajphkabcaaFrParts
import Derived.Test.YtpkgfajphkabcaaFrTellsW
import Derived.Test.YtpkgfajphkabcaaFrScanLW
namespace Go.Proofs.Ytpkgfajphkabcaa
open Go.RowKit
set_option linter.unusedVariables false
set_option linter.unusedSimpArgs false

theorem wf64b {n : Int} (h : (Lit.int .i64 n).wf = true) : -9223372036854775808 ≤ n ∧ n ≤ 9223372036854775807 := by
  simp [Lit.wf, IntKind.min, IntKind.max, IntKind.signed, IntKind.bits] at h
  omega
/-- Two slices of the call's own, of two types, lie in two blocks. -/
theorem owns_types {w : World} {base base2 s s2 n n2 : Nat} {e e2 : TypeId} {v v2 : Value} {xs xs2 : List Value} (h : w.ownsRow base e s v n xs) (h2 : w.ownsRow base2 e2 s2 v2 n2 xs2) (he : e ≠ e2) : v.ownBlock = none ∨ v.ownBlock ≠ v2.ownBlock := by
  rcases h.2 with ⟨hv, _⟩ | ⟨g, cap, cur, hv, _, hh, _⟩
  · left; rw [hv]; rfl
  · right
    rcases h2.2 with ⟨hv2, _⟩ | ⟨g2, cap2, cur2, hv2, _, hh2, _⟩
    · rw [hv, hv2]; intro h; cases h
    · rw [hv, hv2]
      intro h3
      have : g = g2 := by simpa [Value.ownBlock] using h3
      subst this
      rw [hh] at hh2
      simp only [Option.some.injEq, Obj.cells.injEq] at hh2
      exact he hh2.2.1
/-- Slices that were handed in, kept. -/
def KPays (w : World) (xs : List Value) (ps : List (List Nat)) : Prop :=
  xs.length = ps.length ∧ ∀ i, i < ps.length → ∃ p c, xs[i]? = some (.slice p (ps.getD i []).length c) ∧ (ps.getD i []).length ≤ c ∧ IsBytes w p (ps.getD i []).length (ps.getD i [])
theorem KPays.snoc {w : World} {xs : List Value} {ps : List (List Nat)} {p : Option Addr} {c : Nat} {q : List Nat} (h : KPays w xs ps) (hq : IsBytes w p q.length q) (hc : q.length ≤ c) : KPays w (xs ++ [.slice p q.length c]) (ps ++ [q]) := by
  refine ⟨by simp [h.1], fun i hi => ?_⟩
  rw [List.length_append, List.length_singleton] at hi
  by_cases hl : i < ps.length
  · obtain ⟨p', c', h1, h2, h3⟩ := h.2 i hl
    have e : (ps ++ [q]).getD i [] = ps.getD i [] := by simp [List.getElem?_append_left hl]
    rw [e]
    exact ⟨p', c', by rw [List.getElem?_append_left (by rw [h.1]; exact hl)]; exact h1, h2, h3⟩
  · have hi' : i = ps.length := by omega
    subst hi'
    have e : (ps ++ [q]).getD ps.length [] = q := by simp
    rw [e]
    exact ⟨p, c, by rw [List.getElem?_append_right (by rw [h.1]; exact Nat.le_refl _), h.1, Nat.sub_self]; rfl, hc, hq⟩
theorem lists_of_kept {w W : World} {base n m : Nat} {e : TypeId} {v : Value} {xs : List Value} {ps : List (List Nat)} (hown : W.ownsRow base e 1 v m xs) (hp : KPays w xs ps) (hb : Below w.heap.size w W) (hn : n ≤ m) (hm : m ≤ 281474976710656) :
    ∃ a c, v = .slice a m c ∧ m ≤ c ∧ (a = none → c = 0) ∧ IsLists W a n (ps.take n) := by
  have hxl := hown.1
  have hpl := hp.1
  obtain ⟨a, c, rfl, h1, _, h0, _⟩ := owns_form hown hm
  refine ⟨a, c, rfl, h1, h0, by rw [List.length_take]; omega, fun hn0 => ?_⟩
  obtain ⟨g, cap, rest, hv, _, hh, _, _, _⟩ := owns_holds hown (by omega)
  simp only [Value.slice.injEq] at hv
  refine ⟨g, 0, hv.1, hh.lt, fun i hi => ?_⟩
  obtain ⟨p, c', h5, h6, h7⟩ := hp.2 i (by omega)
  have e : (ps.take n).getD i [] = ps.getD i [] := by
    rw [List.getD_eq_getElem?_getD, List.getD_eq_getElem?_getD, List.getElem?_take_of_lt hi]
  rw [e]
  refine ⟨p, c', ?_, h6, h7.below hb⟩
  rw [Nat.zero_add, hh.cell, List.getElem?_append_left (by omega)]
  exact h5
set_option maxRecDepth 4000 in
set_option maxHeartbeats 8000000 in
theorem frameBack_any (a : Option Addr) (len cap : Nat) (A : Nat → Option Addr) (L C : Nat → Nat) (Z : Nat → List Nat) (ct : Int) (w : World) (hP : IsParts w a len A L C Z) (hlc : len ≤ cap) (hct : (Lit.int .i64 ct).wf = true) (hm : cap ≤ maxLen) :
    Calls Try.prog 6 #[.slice a len cap, .int .i64 ct] w fun e w' => e = .returned (.bool true) ∧ Below w.heap.size w w' := by
  unfold maxLen at hm
  have HP := Lib.hid hP; clear hP
  have hcb := wf64b hct
  go_enter Try.func6, Try.ntmps6
  go_wp2_with fail
  go_loopw [5, 6, 7, 8] (fun b es ks i wr => ∃ (j cb : Nat) (p : Option Addr) (xs : List Value), j ≤ len ∧ j ≤ 20 ∧ i = .int .i64 j ∧ b = .slice p (cat (keepTo Z j)).length cb ∧ (cat (keepTo Z j)).length ≤ cb ∧ (p = none → cb = 0) ∧ IsBytes wr p (cat (keepTo Z j)).length (cat (keepTo Z j)) ∧ wr.ownsRow w.heap.size 3 1 es (keepTo Z j).length (endsOf (keepTo Z j)) ∧ wr.ownsRow w.heap.size 22 1 ks (keepTo Z j).length xs ∧ KPays w xs (keepTo Z j) ∧ Below w.heap.size w wr) (fun _ _ _ i _ => len - (intOf i).toNat)
  case atStart => exact ⟨0, 0, none, [], by omega, by omega, rfl, rfl, Nat.le_refl _, fun _ => rfl, IsBytes.nil _ _, World.ownsRow_nil _ _ _ _, World.ownsRow_nil _ _ _ _, ⟨rfl, fun i hi => by simp [keepTo] at hi⟩, Below.refl _ _⟩
  case round =>
    obtain ⟨j, cb, p, xs, hj, hj20, rfl, rfl, hlb, hpn, hbs, hes, hks, hkp, hbel⟩ := hrel
    have hok := keepTo_ok Z j
    have hkl := keepTo_le Z j
    have hcl := cat_len _ hok
    have hcn := cat_next Z j
    have hkn : keepTo Z (j + 1) = if valid (Z j) = true then keepTo Z j ++ [Z j] else keepTo Z j := rfl
    have HCN := Lib.hid hcn; have HKN := Lib.hid hkn; clear hcn hkn
    have HB := Lib.hid hbs; have HE := Lib.hid hes; have HK := Lib.hid hks; have HKP := Lib.hid hkp; have HBL := Lib.hid hbel; have HPN := Lib.hid hpn
    have hws := hbel.size
    clear hbs hes hks hkp hbel hpn
    by_cases h1 : j < len ∧ j < 20
    · obtain ⟨h1, h20⟩ := h1
      have h20' : (j : Int) < 20 := by omega
      obtain ⟨hp1, hp2⟩ := HP.out
      obtain ⟨ba, off, rfl, hba, hcell⟩ := hp1 (by omega)
      obtain ⟨q1, q2, q3, q4⟩ := hp2 j h1
      have c0 := hcell j h1
      have HC1 := Lib.hid c0
      rw [← HBL.out.cell (p := ⟨ba, off + j, none⟩) hba] at c0
      have hput := fput_any p (A j) (cat (keepTo Z j)).length cb (L j) (C j) (cat (keepTo Z j)) (Z j) wr HB.out HPN.out (by omega) (q3.below HBL.out) q2 q4
      have HQ := Lib.hid q3
      have hzl := q3.len
      have HPUT := Lib.hid hput
      clear hput hp1 hp2 hcell q2 q3
      generalize hps : keepTo Z j = ps at *
      clear hps
      go_wp2_with fail
      refine HPUT.out.mono ?_
      rintro e w2 ⟨c2, rfl, hc2, hb2, hbw, _⟩
      clear HPUT c0
      have HB2 := Lib.hid hb2; have HBW := Lib.hid hbw
      have HE2 := Lib.hid (owns_below HE.out hbw)
      have HK2 := Lib.hid (owns_below HK.out hbw)
      have hs2 := hbw.size
      have HBL2 := Lib.hid (below_next HBL.out hbw)
      have helt := HE.out.lt
      have hklt := HK.out.lt
      have HELT := Lib.hid helt; have HKLT := Lib.hid hklt
      clear hb2 hbw helt hklt
      by_cases hv : valid (Z j) = true
      · have hok2 := (valid_iff _).1 hv
        have hfl := fr_ok_len hok2
        rw [if_pos hv] at HKN
        have hgt : (cat ps).length < (cat ps).length + (fr (Z j)).length := by omega
        generalize hgb : wr.heap.size = gb at *
        generalize hN : (cat ps).length + (fr (Z j)).length = N at *
        have c2' := HC1.out
        rw [← HBL2.out.cell (p := ⟨ba, off + j, none⟩) hba] at c2'
        go_upto_region 11 with (at_builtin; go_must (refine wpList_append_cells rfl (.tmp 37) (.tmp 40) 40 rfl w.heap.size 3 (.int .i64 0) 1 8 rfl (by kernel_rfl) rfl (by decide) _ ps.length (endsOf ps) rfl (owns_below HE2.out (by go_grown)) _ 1 1 [.int .i64 (N : Int)] rfl rfl ((holds_alloc w2 3 [.int .i64 (N : Int)]).reads 0 _ (fun k v hk => by rw [Nat.zero_add]; exact hk)) (by intro h; cases h) (by simp [Value.oneCell']) (by unfold maxLen; omega) (by omega) (by simp; omega) ?_); intro v3 w3 ho3 hb3 hg3)
        have hal := show Below w2.heap.size w2 (w2.alloc (.cells #[.int .i64 (N : Int)] 3)) by go_grown
        have HB3 := Lib.hid (bytes_kept (HB2.out.below hal) hg3 (by intro h; have := HELT.out gb h.symm; omega))
        have HK3 := Lib.hid ((owns_below HK2.out hal).kept hg3 (owns_types HK2.out HE2.out (by decide)))
        have HE3 := Lib.hid ho3
        have HBL3 := Lib.hid ((HBL2.out.trans (hal.mono HBL2.out.size)).trans hb3)
        have hs3 := hb3.size
        rw [World.size_alloc] at hs3
        clear ho3 hb3 hg3 hal HB2 HK2 HE2 c2'
        have c3 := HC1.out
        rw [← HBL3.out.cell (p := ⟨ba, off + j, none⟩) hba] at c3
        go_wp2_with (at_builtin; go_must (refine wpList_append_cells rfl (.tmp 42) (.tmp 47) 33 rfl w.heap.size 22 (.slice none 0 0) 1 24 rfl (by kernel_rfl) rfl (by decide) _ ps.length xs rfl (owns_below HK3.out (by go_grown)) _ 1 1 [.slice (A j) (L j) (C j)] rfl rfl ((holds_alloc w3 22 [.slice (A j) (L j) (C j)]).reads 0 _ (fun k v hk => by rw [Nat.zero_add]; exact hk)) (by intro h; cases h) (by simp [Value.oneCell']) (by unfold maxLen; omega) (by omega) (by simp; omega) ?_); intro v4 w4 ho4 hb4 hg4)
        have hal := show Below w3.heap.size w3 (w3.alloc (.cells #[.slice (A j) (L j) (C j)] 22)) by go_grown
        have HB4 := Lib.hid (bytes_kept (HB3.out.below hal) hg4 (by intro h; have := HKLT.out gb h.symm; omega))
        have HE4 := Lib.hid ((owns_below HE3.out hal).kept hg4 (owns_types HE3.out HK3.out (by decide)))
        have HK4 := Lib.hid ho4
        have HBL4 := Lib.hid ((HBL3.out.trans (hal.mono HBL3.out.size)).trans hb4)
        have HKP4 := Lib.hid (HKP.out.snoc (q := Z j) (p := A j) (c := C j) (by rw [hzl]; exact HQ.out) (by omega))
        rw [hzl] at HKP4
        clear ho4 hb4 hg4 hal HB3 HK3 HE3 c3
        go_roundw
        case rel =>
          refine ⟨j + 1, c2, some ⟨gb, 0, none⟩, xs ++ [.slice (A j) (L j) (C j)], by omega, by omega, by go_num, ?_, ?_, (fun h => by cases h), ?_, ?_, ?_, ?_, HBL4.out⟩
          · rw [HCN.out, List.length_append, hN]
          · rw [HCN.out, List.length_append]; omega
          · rw [HCN.out, List.length_append, hN]; exact HB4.out
          · rw [HKN.out, List.length_append, List.length_singleton, endsOf_snoc, hN]; exact HE4.out
          · rw [HKN.out, List.length_append, List.length_singleton]; exact HK4.out
          · rw [HKN.out]; exact HKP4.out
        case measure => simp [intOf]; omega
      · have hfb := fr_bad (fun h => hv ((valid_iff _).2 h))
        rw [if_neg hv] at HKN
        have hN' : (cat ps).length + (fr (Z j)).length = (cat ps).length := by rw [hfb]; rfl
        rw [hfb, List.append_nil] at HCN
        have hbb := HB2.out
        rw [hN'] at hbb
        rw [hfb, List.append_nil] at hbb
        have HB3 := Lib.hid hbb
        clear hbb HB2
        generalize (cat ps).length + (fr (Z j)).length = N at *
        have hgt : ¬ (cat ps).length < N := by omega
        go_wp2_with fail
        go_roundw
        case rel =>
          refine ⟨j + 1, c2, some ⟨wr.heap.size, 0, none⟩, xs, by omega, by omega, by go_num, ?_, ?_, (fun h => by cases h), ?_, ?_, ?_, ?_, HBL2.out⟩
          · rw [HCN.out]
          · rw [HCN.out]; omega
          · rw [HCN.out]; exact HB3.out
          · rw [HKN.out]; exact HE2.out
          · rw [HKN.out]; exact HK2.out
          · rw [HKN.out]; exact HKP.out
        case measure => simp [intOf]; omega
    · have hx : ¬ (j : Int) < (len : Int) ∨ ((j : Int) < (len : Int) ∧ ¬ (j : Int) < 20) := by omega
      clear HCN HKN
      have hlk : (cat (keepTo Z j)).length ≤ 327800 := by have := Nat.mul_le_mul_right 16390 (Nat.le_trans hkl hj20); omega
      generalize hps : keepTo Z j = ps at *
      clear hps h1
      have hwi := fun W => within_nat ct 0 (((cat ps).length : Nat) : Int) W hcb (by omega) (by omega) (by omega)
      have HWI := Lib.hid hwi; clear hwi
      -- where the frames end
      obtain ⟨ea, ec, rfl, hec, hem, _, _⟩ := owns_form HE.out (by omega)
      have hge : 0 < ps.length → ∃ ge, ea = some ⟨ge, 0, none⟩ ∧ ge < wr.heap.size ∧ ∀ i, i < ps.length → wr.cell? ⟨ge, i, none⟩ = some (.int .i64 (((cat (ps.take (i + 1))).length : Nat) : Int)) := fun h0 => by
        obtain ⟨g, cap', rest, hv, _, hh, _, _, hxl⟩ := owns_holds HE.out h0
        simp only [Value.slice.injEq] at hv
        refine ⟨g, hv.1, hh.lt, fun i hi => ?_⟩
        rw [hh.cell, List.getElem?_append_left (by omega)]
        exact endsOf_get ps i hi
      obtain ⟨ka, kc, rfl, hkc, hka, _⟩ := lists_of_kept HK.out HKP.out HBL.out (Nat.le_refl _) (by omega)
      have HGE := Lib.hid hge; clear hge
      rcases hx with hx | ⟨hx, hx'⟩
      all_goals
        go_wp2_with fail
        refine (HWI.out _).mono ?_
        rintro e w2 ⟨⟨k, hk0, hk1, rfl⟩, rfl⟩
        have hkb : k ≤ (cat ps).length := by omega
        clear HWI hx
        try clear hx'
        go_wp2_with fail
        go_loopw [11] (fun n2 W => ∃ n : Nat, n ≤ ps.length ∧ n2 = .int .i64 n ∧ (∀ i, i < n → (cat (ps.take (i + 1))).length ≤ k) ∧ W = wr) (fun n2 _ => ps.length - (intOf n2).toNat)
        case atStart => exact ⟨0, by omega, rfl, fun i hi => by omega, rfl⟩
        case round =>
          obtain ⟨n, hn, rfl, hle, rfl⟩ := hrel
          have HLE := Lib.hid hle; clear hle
          by_cases h3 : n < ps.length ∧ (cat (ps.take (n + 1))).length ≤ k
          · obtain ⟨h2, h3⟩ := h3
            obtain ⟨ge, rfl, hgl, hce⟩ := HGE.out (by omega)
            have cn := hce n h2
            clear hce
            have h2' : (n : Int) < ((ps.length : Nat) : Int) := by omega
            have h3' : (((cat (ps.take (n + 1))).length : Nat) : Int) ≤ (k : Int) := by omega
            have H3 := Lib.hid h3; clear h3
            have H3' := Lib.hid H3.out
            generalize (cat (ps.take (n + 1))).length = E at cn h3'
            go_wp2_with fail
            go_roundw
            case rel => exact ⟨n + 1, by omega, by go_num, fun i hi => by
              by_cases hin : i = n
              · rw [hin]; exact H3'.out
              · exact HLE.out i (by omega), by first | trivial | rfl⟩
            case measure => simp [intOf]; omega
          · have hstop : n < ps.length → k < (cat (ps.take (n + 1))).length := fun h => by
              rcases Nat.lt_or_ge k (cat (ps.take (n + 1))).length with h2 | h2
              · exact h2
              · exact absurd ⟨h, h2⟩ h3
            have HSTOP := Lib.hid hstop
            clear h3
            by_cases h2 : n < ps.length
            · obtain ⟨ge, rfl, hgl, hce⟩ := HGE.out (by omega)
              have cn := hce n h2
              have h2' : (n : Int) < ((ps.length : Nat) : Int) := by omega
              have h3' : ¬ (((cat (ps.take (n + 1))).length : Nat) : Int) ≤ (k : Int) := by have := hstop h2; omega
              clear hstop
              have hkn : (cat (ps.take n)).length ≤ k := by
                rcases Nat.eq_zero_or_pos n with h0 | h0
                · rw [h0]; simp [cat]
                · have := HLE.out (n - 1) (by omega)
                  rwa [Nat.sub_add_cancel h0] at this
              have hnk : n ≤ k := by
                have := (cat_len (ps.take n) (fun q hq => hok q (List.mem_of_mem_take hq))).1
                rw [List.length_take, Nat.min_eq_left hn] at this
                omega
              have hsl := scan_cat ps [] k n (k + 1) hok hn hkn HSTOP.out (by omega)
              simp only [List.nil_append, List.length_nil, Nat.zero_add] at hsl
              have hscan := fscanL_any p k cb ((cat ps).take k) wr (HB.out.pre k hkb) (by omega) (by omega)
              rw [hsl] at hscan
              simp only [List.length_take, Nat.min_eq_left hn] at hscan
              have HSC := Lib.hid hscan
              have HKN := Lib.hid hkn
              clear hscan hsl hkn
              go_wp2_with fail
              refine HSC.out.mono ?_
              rintro e w3 ⟨q, qc, rfl, hq1, hq2, hb⟩
              clear HSC
              try clear cn h3' h2'
              have HL1 := Lib.hid hq2
              have hkl2 := lists_of_kept (owns_below HK.out hb) HKP.out (below_next HBL.out hb) hn (by omega)
              obtain ⟨ka2, kc2, hkeq, _, _, hl2⟩ := hkl2
              simp only [Value.slice.injEq] at hkeq
              obtain ⟨rfl, _, rfl⟩ := hkeq
              have HL2 := Lib.hid hl2
              have HBL3 := Lib.hid (below_next HBL.out hb)
              clear hq2 hl2
              rcases Nat.eq_zero_or_pos n with h0 | h0
              · subst h0
                have e0 : (((cat (ps.take 0)).length : Nat) : Int) = 0 := by simp [cat]
                have hcl0 : ((0 : Int) == 0) = true := rfl
                rw [e0]
                clear hb
                go_wp2_with fail
                refine (lists_any q ka 0 qc kc (ps.take 0) w3 HL1.out HL2.out (by omega)).mono ?_
                rintro e w4 ⟨rfl, hb⟩
                have HBL4 := Lib.hid (below_next HBL3.out hb)
                clear hb
                go_wp2_with fail
                refine (frameRuns_any _).mono ?_
                rintro e w5 ⟨rfl, hb⟩
                have HBL5 := Lib.hid (below_next HBL4.out hb)
                clear hb
                go_wp2_with fail
                go_ret
                exact ⟨rfl, HBL5.out⟩
              · obtain ⟨n', rfl⟩ : ∃ n', n = n' + 1 := ⟨n - 1, by omega⟩
                have cp := hce n' (by omega)
                rw [← hb.cell (p := ⟨ge, n', none⟩) hgl] at cp
                clear hce hb
                have hn0 : (0 : Int) < ((n' + 1 : Nat) : Int) := by omega
                have hidx : (((n' + 1 : Nat) : Int)) - 1 = (n' : Int) := by omega
                have hn3 : n' < ps.length := by omega
                generalize hE : (cat (ps.take (n' + 1))).length = E at cp ⊢
                have HE0 := Lib.hid hE; clear hE
                have hee : ((E : Int) == (E : Int)) = true := by simp
                clear HLE HSTOP HKN
                generalize hN1 : n' + 1 = N1 at *
                go_wp2_with fail
                refine (lists_any q ka N1 qc kc (ps.take N1) w3 HL1.out HL2.out (by omega)).mono ?_
                rintro e w4 ⟨rfl, hb⟩
                have HBL4 := Lib.hid (below_next HBL3.out hb)
                clear hb
                go_wp2_with fail
                refine (frameRuns_any _).mono ?_
                rintro e w5 ⟨rfl, hb⟩
                have HBL5 := Lib.hid (below_next HBL4.out hb)
                clear hb
                go_wp2_with fail
                go_ret
                exact ⟨rfl, HBL5.out⟩
            · have h2' : ¬ (n : Int) < ((ps.length : Nat) : Int) := by omega
              clear hstop
              have hkn : (cat (ps.take n)).length ≤ k := by
                rcases Nat.eq_zero_or_pos n with h0 | h0
                · rw [h0]; simp [cat]
                · have := HLE.out (n - 1) (by omega)
                  rwa [Nat.sub_add_cancel h0] at this
              have hnk : n ≤ k := by
                have := (cat_len (ps.take n) (fun q hq => hok q (List.mem_of_mem_take hq))).1
                rw [List.length_take, Nat.min_eq_left hn] at this
                omega
              have hsl := scan_cat ps [] k n (k + 1) hok hn hkn HSTOP.out (by omega)
              simp only [List.nil_append, List.length_nil, Nat.zero_add] at hsl
              have hscan := fscanL_any p k cb ((cat ps).take k) wr (HB.out.pre k hkb) (by omega) (by omega)
              rw [hsl] at hscan
              simp only [List.length_take, Nat.min_eq_left hn] at hscan
              have HSC := Lib.hid hscan
              have HKN := Lib.hid hkn
              clear hscan hsl hkn
              go_wp2_with fail
              refine HSC.out.mono ?_
              rintro e w3 ⟨q, qc, rfl, hq1, hq2, hb⟩
              clear HSC
              try clear cn h3' h2'
              have HL1 := Lib.hid hq2
              have hkl2 := lists_of_kept (owns_below HK.out hb) HKP.out (below_next HBL.out hb) hn (by omega)
              obtain ⟨ka2, kc2, hkeq, _, _, hl2⟩ := hkl2
              simp only [Value.slice.injEq] at hkeq
              obtain ⟨rfl, _, rfl⟩ := hkeq
              have HL2 := Lib.hid hl2
              have HBL3 := Lib.hid (below_next HBL.out hb)
              clear hq2 hl2
              rcases Nat.eq_zero_or_pos n with h0 | h0
              · subst h0
                have e0 : (((cat (ps.take 0)).length : Nat) : Int) = 0 := by simp [cat]
                have hcl0 : ((0 : Int) == 0) = true := rfl
                rw [e0]
                clear hb
                go_wp2_with fail
                refine (lists_any q ka 0 qc kc (ps.take 0) w3 HL1.out HL2.out (by omega)).mono ?_
                rintro e w4 ⟨rfl, hb⟩
                have HBL4 := Lib.hid (below_next HBL3.out hb)
                clear hb
                go_wp2_with fail
                refine (frameRuns_any _).mono ?_
                rintro e w5 ⟨rfl, hb⟩
                have HBL5 := Lib.hid (below_next HBL4.out hb)
                clear hb
                go_wp2_with fail
                go_ret
                exact ⟨rfl, HBL5.out⟩
              · obtain ⟨n', rfl⟩ : ∃ n', n = n' + 1 := ⟨n - 1, by omega⟩
                obtain ⟨ge, rfl, hgl, hce⟩ := HGE.out (by omega)
                have cp := hce n' (by omega)
                rw [← hb.cell (p := ⟨ge, n', none⟩) hgl] at cp
                clear hce hb
                have hn0 : (0 : Int) < ((n' + 1 : Nat) : Int) := by omega
                have hidx : (((n' + 1 : Nat) : Int)) - 1 = (n' : Int) := by omega
                have hn3 : n' < ps.length := by omega
                generalize hE : (cat (ps.take (n' + 1))).length = E at cp ⊢
                have HE0 := Lib.hid hE; clear hE
                have hee : ((E : Int) == (E : Int)) = true := by simp
                clear HLE HSTOP HKN
                generalize hN1 : n' + 1 = N1 at *
                go_wp2_with fail
                refine (lists_any q ka N1 qc kc (ps.take N1) w3 HL1.out HL2.out (by omega)).mono ?_
                rintro e w4 ⟨rfl, hb⟩
                have HBL4 := Lib.hid (below_next HBL3.out hb)
                clear hb
                go_wp2_with fail
                refine (frameRuns_any _).mono ?_
                rintro e w5 ⟨rfl, hb⟩
                have HBL5 := Lib.hid (below_next HBL4.out hb)
                clear hb
                go_wp2_with fail
                go_ret
                exact ⟨rfl, HBL5.out⟩
end Go.Proofs.Ytpkgfajphkabcaa
