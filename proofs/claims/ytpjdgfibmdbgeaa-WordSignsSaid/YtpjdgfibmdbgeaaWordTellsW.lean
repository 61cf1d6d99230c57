/-
  The walks of WordTells and WordBytes.
-/
import Derived.Test.YtpjdgfibmdbgeaaWordRunsW
namespace Go.Proofs.Ytpjdgfibmdbgeaa
open Go.RowKit
set_option linter.unusedVariables false

theorem u64_of {a : Int} (h : (Lit.int .u64 a).wf = true) : ∃ c : Nat, a = (c : Int) ∧ c < 18446744073709551616 := by
  simp [Lit.wf, IntKind.min, IntKind.max, IntKind.signed, IntKind.bits] at h
  exact ⟨a.toNat, by omega, by omega⟩
theorem i64_of {a : Int} (h : (Lit.int .i64 a).wf = true) : -9223372036854775808 ≤ a ∧ a ≤ 9223372036854775807 := by
  simp [Lit.wf, IntKind.min, IntKind.max, IntKind.signed, IntKind.bits] at h
  exact h
/-- What stands behind Roomy: the bytes, and the room behind them. -/
theorem full_bytes {w : World} {g e len : Nat} {bs : List Nat} {mark : Nat} (h : Holds w g e (cells8 (bs ++ List.replicate 80 mark))) (h8 : ∀ x ∈ bs, x < 256) (hm : mark < 256) (hl : bs.length = len) (hlen : len ≤ 140737488351232) :
    IsBytes w (some ⟨g, 0, none⟩) (len + 80) (bs ++ List.replicate 80 mark) := by
  have := Holds.bytes (bs := bs ++ List.replicate 80 mark) h (by
    intro x hx
    simp only [List.mem_append, List.mem_replicate] at hx
    rcases hx with hx | hx
    · exact h8 x hx
    · omega) (by simp; omega)
  simpa [hl] using this

set_option maxHeartbeats 1000000 in
theorem wordTells_any (a0 a1 a2 a3 : Int) (w : World) (h0 : (Lit.int .u64 a0).wf = true) (h1 : (Lit.int .i64 a1).wf = true) (h2 : (Lit.int .i64 a2).wf = true) (h3 : (Lit.int .i64 a3).wf = true) :
    Calls Try.prog 4 #[.int .u64 a0, .int .i64 a1, .int .i64 a2, .int .i64 a3] w fun e w' => e = .returned (.bool true) ∧ Below w.heap.size w w' := by
  obtain ⟨u, rfl, hu⟩ := u64_of h0
  have hn := i64_of h3
  clear h0 h1 h2 h3
  have HB := Below.refl w.heap.size w
  go_enter Try.func4, Try.ntmps4
  go_wp2_with fail
  refine (low_any u a1 _ hu).mono ?_
  rintro e w1 ⟨rfl, hb⟩; have HB := below_next HB hb; clear hb
  go_wp2_with fail
  refine (rlow_any u a1 _ hu).mono ?_
  rintro e w2 ⟨rfl, hb⟩; have HB := below_next HB hb; clear hb
  go_wp2_with fail
  refine (sign_any u a1 _ hu).mono ?_
  rintro e w3 ⟨rfl, hb⟩; have HB := below_next HB hb; clear hb
  go_wp2_with fail
  refine (rsign_any u a1 _ hu).mono ?_
  rintro e w4 ⟨rfl, hb⟩; have HB := below_next HB hb; clear hb
  go_wp2_with fail
  refine (turn_any u a2 _ hu).mono ?_
  rintro e w5 ⟨rfl, hb⟩; have HB := below_next HB hb; clear hb
  go_wp2_with fail
  refine (rturn_any u a2 _ hu).mono ?_
  rintro e w6 ⟨rfl, hb⟩; have HB := below_next HB hb; clear hb
  go_wp2_with fail
  refine (zig_any a3 _ hn).mono ?_
  rintro e w7 ⟨rfl, hb⟩; have HB := below_next HB hb; clear hb
  go_wp2_with fail
  refine (rzig_any a3 _ hn).mono ?_
  rintro e w8 ⟨rfl, hb⟩; have HB := below_next HB hb; clear hb
  go_wp2_with fail
  refine (zag_any u _ hu).mono ?_
  rintro e w9 ⟨rfl, hb⟩; have HB := below_next HB hb; clear hb
  go_wp2_with fail
  refine (rzag_any u _ hu).mono ?_
  rintro e w10 ⟨rfl, hb⟩; have HB := below_next HB hb; clear hb
  go_wp2_with fail
  refine (wordRuns_any _).mono ?_
  rintro e w11 ⟨rfl, hb⟩; have HB := below_next HB hb; clear hb
  go_wp2_with fail
  go_ret
  exact ⟨rfl, HB⟩

set_option maxHeartbeats 1000000 in
theorem wordBytes_any (a : Option Addr) (len cap : Nat) (bs : List Nat) (at' n x : Int) (w : World) (hb : IsBytes w a len bs) (_hcap : cap ≤ 140737488351232) (hlc : len ≤ cap) (hnil : a = none → cap = 0)
    (h1 : (Lit.int .i64 at').wf = true) (h2 : (Lit.int .i64 n).wf = true) (h3 : (Lit.int .u64 x).wf = true) :
    Calls Try.prog 5 #[.slice a len cap, .int .i64 at', .int .i64 n, .int .u64 x] w fun e w' => e = .returned (.bool true) ∧ Below w.heap.size w w' := by
  obtain ⟨u, rfl, hu⟩ := u64_of h3
  clear h1 h2 h3
  have hlen : len ≤ 140737488351232 := by omega
  have hro := roomy_any a len cap bs 3 w hb hlen (by decide)
  rw [show ((3 : Nat) : Int) = 3 from rfl] at hro
  have HRO := Lib.hid hro; clear hro
  have HNIL := Lib.hid hnil; clear hnil
  have HBS := Lib.hid hb; clear hb
  go_enter Try.func5, Try.ntmps5
  go_wp2_with fail
  refine HRO.out.mono ?_
  rintro e w1 ⟨g, rfl, hg, hh, hb1⟩
  have hf := full_bytes hh HBS.out.2.2.1 (by decide) HBS.out.len hlen
  have HF := Lib.hid hf; clear hf hh
  have HA := Lib.hid (HBS.out.below hb1)
  have HB := Below.refl w1.heap.size w1
  go_wp2_with fail
  refine (get_any (some ⟨g, 0, none⟩) len (len + 80) bs at' n _ (HF.out.head HA.out.len) (by omega)).mono ?_
  rintro e w2 ⟨rfl, hb⟩; have HB := below_next HB hb; clear hb
  go_wp2_with fail
  refine (rget_any a len cap bs at' n _ (HA.out.below HB) hlc).mono ?_
  rintro e w3 ⟨rfl, hb⟩; have HB := below_next HB hb; clear hb
  go_wp2_with fail
  refine (put_any (some ⟨g, 0, none⟩) len (len + 80) bs n u _ ((HF.out.head HA.out.len).below HB) (by intro h; cases h) hu hlen).mono ?_
  rintro e w4 ⟨p, c, rfl, _, _, hp, _, hb⟩
  have HP := Lib.hid hp; clear hp
  have HB := below_next HB hb; clear hb
  go_wp2_with fail
  refine (rput_any a len cap bs n u _ (HA.out.below HB) HNIL.out hu hlen).mono ?_
  rintro e w5 ⟨p', c', rfl, _, _, hp', _, hb⟩
  have HP := Lib.hid (HP.out.below hb)
  have HP' := Lib.hid hp'; clear hp'
  have HB := below_next HB hb; clear hb
  go_wp2_with fail
  refine (same_any p p' _ _ c c' _ _ _ HP.out HP'.out).mono ?_
  rintro e w6 ⟨rfl, hb⟩; have HB := below_next HB hb; clear hb
  simp only [decide_true]
  go_wp2_with fail
  have k11 := intact_true g a len cap bs 3 _ (HF.out.below HB) (HA.out.below HB)
  rw [show ((3 : Nat) : Int) = 3 from rfl] at k11
  refine k11.mono ?_
  rintro e w7 ⟨rfl, hb⟩; have HB := below_next HB hb; clear hb
  go_wp2_with fail
  refine (wordRuns_any _).mono ?_
  rintro e w8 ⟨rfl, hb⟩; have HB := below_next HB hb; clear hb
  go_wp2_with fail
  go_ret
  exact ⟨rfl, hb1.trans (HB.mono hb1.size)⟩
end Go.Proofs.Ytpjdgfibmdbgeaa
