/-
  The walks of the laws of layer 2: SumTells, SumParts.
-/
import Derived.Test.YtkgdccaafmeamaaSumOn
import Derived.Test.YtkgdccaafmeamaaBookBytes
namespace Go.Proofs.Ytkgdccaafmeamaa
open Go.RowKit

theorem u32_of {a : Int} (h : (Lit.int .u32 a).wf = true) : ∃ c : Nat, a = (c : Int) ∧ c < 4294967296 := by
  simp [Lit.wf, IntKind.min, IntKind.max, IntKind.signed, IntKind.bits] at h
  exact ⟨a.toNat, by omega, by omega⟩

theorem i64_of {a : Int} (h : (Lit.int .i64 a).wf = true) : -9223372036854775808 ≤ a ∧ a ≤ 9223372036854775807 := by
  simp [Lit.wf, IntKind.min, IntKind.max, IntKind.signed, IntKind.bits] at h
  exact h

/-- What stands behind Roomy: the bytes, and the room behind them. -/
theorem full_bytes {w : World} {g e len : Nat} {bs : List Nat} {mark : Nat} (h : Holds w g e (cells8 (bs ++ List.replicate 80 mark))) (h8 : ∀ x ∈ bs, x < 256) (hm : mark < 256) (hl : bs.length = len) (hlen : len ≤ 140737488351232) :
    IsBytes w (some ⟨g, 0, none⟩) (len + 80) (bs ++ List.replicate 80 mark) := by
  have := Holds.bytes (bs := bs ++ List.replicate 80 mark) h (by
    intro x hx
    simp only [List.mem_append, List.mem_replicate] at hx
    rcases hx with hx | hx
    · exact h8 x hx
    · omega) (by simp; omega)
  simpa [hl] using this

set_option maxHeartbeats 1000000 in
/-- SumTells at a list that is short. -/
theorem tells_short (c : Nat) (a : Option Addr) (len cap : Nat) (bs : List Nat) (w : World) (hc : c < 4294967296) (hb : IsBytes w a len bs) (h5 : len ≤ 500) :
    Calls Try.prog 4 #[.int .u32 c, .slice a len cap] w fun e w' => e = .returned (.bool true) ∧ Below w.heap.size w w' := by
  have hlen : len ≤ 140737488351232 := by omega
  have hro := roomy_any a len cap bs 17 w hb hlen (by decide)
  rw [show ((17 : Nat) : Int) = 17 from rfl] at hro
  have HRO := Lib.hid hro; clear hro
  have h5' : ¬ (500 : Int) < (len : Int) := by omega
  go_enter Try.func4, Try.ntmps4
  go_wp2_with fail
  refine HRO.out.mono ?_
  rintro e w1 ⟨g, rfl, hg, hh, hb1⟩
  have hf := full_bytes hh hb.2.2.1 (by decide) hb.len hlen
  have hhd := hf.head hb.len
  have hb' := hb.below hb1
  have k9 := fun W (c : Nat) (cap : Nat) (hc : c < 4294967296) (hB : W = w1) => on_any c (some ⟨g, 0, none⟩) len cap bs W hc (by rw [hB]; exact hhd)
  have k10 := fun c' hc' => refon_any c' a len cap bs w1 hc' hb'
  have k7 := fun cap => of_any (some ⟨g, 0, none⟩) len cap bs w1 hhd
  have k11 := intact_true g a len cap bs 17 w1 hf hb'
  rw [show ((17 : Nat) : Int) = 17 from rfl] at k11
  have k100 := k10 0 (by decide)
  rw [show ((0 : Nat) : Int) = 0 from rfl] at k100
  have K9 := Lib.hid (fun cap => k9 w1 c cap hc rfl); have K10 := Lib.hid (k10 c hc); have K100 := Lib.hid k100; have K7 := Lib.hid k7; have K11 := Lib.hid k11
  clear k9 k10 k7 k11 k100
  go_wp2_with fail
  refine (K9.out _).mono ?_
  rintro e w2 ⟨rfl, rfl⟩
  go_wp2_with fail
  refine K10.out.mono ?_
  rintro e w2 ⟨rfl, rfl⟩
  go_wp2_with fail
  refine (K7.out _).mono ?_
  rintro e w2 ⟨rfl, rfl⟩
  go_wp2_with fail
  refine K100.out.mono ?_
  rintro e w2 ⟨rfl, rfl⟩
  go_wp2_with fail
  refine K11.out.mono ?_
  rintro e w2 ⟨rfl, hb2⟩
  go_wp2_with fail
  refine (sumRuns_any _).mono ?_
  rintro e w3 ⟨rfl, hb3⟩
  go_wp2_with fail
  go_ret
  exact ⟨rfl, hb1.trans ((hb2.mono hb1.size).trans (hb3.mono (Nat.le_trans hb1.size hb2.size)))⟩

set_option maxHeartbeats 1000000 in
/-- .. and at a longer one: it is cut. -/
theorem tells_long (c : Nat) (b off len cap : Nat) (bs : List Nat) (w : World) (hc : c < 4294967296) (hb0 : IsBytes w (some ⟨b, off, none⟩) len bs) (h5 : 500 < len) (hlc : len ≤ cap) :
    Calls Try.prog 4 #[.int .u32 c, .slice (some ⟨b, off, none⟩) len cap] w fun e w' => e = .returned (.bool true) ∧ Below w.heap.size w w' := by
  have hb : IsBytes w (some ⟨b, off, none⟩) 500 (bs.take 500) := by simpa using hb0.cut 0 500 (by omega) (by omega)
  have hlen : 500 ≤ 140737488351232 := by omega
  have hro := roomy_any (some ⟨b, off, none⟩) 500 cap (bs.take 500) 17 w hb hlen (by decide)
  rw [show ((17 : Nat) : Int) = 17 from rfl] at hro
  have HRO := Lib.hid hro; clear hro
  have h5' : (500 : Int) < (len : Int) := by omega
  go_enter Try.func4, Try.ntmps4
  go_wp2_with fail
  refine HRO.out.mono ?_
  rintro e w1 ⟨g, rfl, hg, hh, hb1⟩
  have hf := full_bytes hh hb.2.2.1 (by decide) hb.len hlen
  have hhd := hf.head hb.len
  have hb' := hb.below hb1
  have k9 := fun W (c : Nat) (cap : Nat) (hc : c < 4294967296) (hB : W = w1) => on_any c (some ⟨g, 0, none⟩) 500 cap (bs.take 500) W hc (by rw [hB]; exact hhd)
  have k10 := fun c' hc' => refon_any c' (some ⟨b, off, none⟩) 500 cap (bs.take 500) w1 hc' hb'
  have k7 := fun cap => of_any (some ⟨g, 0, none⟩) 500 cap (bs.take 500) w1 hhd
  have k11 := intact_true g (some ⟨b, off, none⟩) 500 cap (bs.take 500) 17 w1 hf hb'
  rw [show ((17 : Nat) : Int) = 17 from rfl] at k11
  have k100 := k10 0 (by decide)
  rw [show ((0 : Nat) : Int) = 0 from rfl] at k100
  have K9 := Lib.hid (fun cap => k9 w1 c cap hc rfl); have K10 := Lib.hid (k10 c hc); have K100 := Lib.hid k100; have K7 := Lib.hid k7; have K11 := Lib.hid k11
  clear k9 k10 k7 k11 k100
  go_wp2_with fail
  refine (K9.out _).mono ?_
  rintro e w2 ⟨rfl, rfl⟩
  go_wp2_with fail
  refine K10.out.mono ?_
  rintro e w2 ⟨rfl, rfl⟩
  go_wp2_with fail
  refine (K7.out _).mono ?_
  rintro e w2 ⟨rfl, rfl⟩
  go_wp2_with fail
  refine K100.out.mono ?_
  rintro e w2 ⟨rfl, rfl⟩
  go_wp2_with fail
  refine K11.out.mono ?_
  rintro e w2 ⟨rfl, hb2⟩
  go_wp2_with fail
  refine (sumRuns_any _).mono ?_
  rintro e w3 ⟨rfl, hb3⟩
  go_wp2_with fail
  go_ret
  exact ⟨rfl, hb1.trans ((hb2.mono hb1.size).trans (hb3.mono (Nat.le_trans hb1.size hb2.size)))⟩

theorem tells_any (a0 : Int) (a : Option Addr) (len cap : Nat) (bs : List Nat) (w : World) (h0 : (Lit.int .u32 a0).wf = true) (hb : IsBytes w a len bs) (_hcap : cap ≤ 140737488351232) (hlc : len ≤ cap) :
    Calls Try.prog 4 #[.int .u32 a0, .slice a len cap] w fun e w' => e = .returned (.bool true) ∧ Below w.heap.size w w' := by
  obtain ⟨c, rfl, hc⟩ := u32_of h0
  by_cases h5 : len ≤ 500
  · exact tells_short c a len cap bs w hc hb h5
  · have hb' := hb
    obtain ⟨_, _, _, h4⟩ := hb'
    obtain ⟨b, off, rfl, _⟩ := h4 (by omega)
    exact tells_long c b off len cap bs w hc hb (by omega) hlc

set_option maxHeartbeats 1000000 in
theorem parts_any (a0 : Int) (a : Option Addr) (len cap : Nat) (bs : List Nat) (x y : Int) (w : World) (h0 : (Lit.int .u32 a0).wf = true) (hb : IsBytes w a len bs) (_hcap : cap ≤ 140737488351232) (hlc : len ≤ cap)
    (hx : (Lit.int .i64 x).wf = true) (hy : (Lit.int .i64 y).wf = true) :
    Calls Try.prog 5 #[.int .u32 a0, .slice a len cap, .int .i64 x, .int .i64 y] w fun e w' => e = .returned (.bool true) ∧ Below w.heap.size w w' := by
  obtain ⟨c, rfl, hc⟩ := u32_of h0
  have hx' := i64_of hx
  have hy' := i64_of hy
  clear hx hy h0
  have hlen := hb.2.1
  go_enter Try.func5, Try.ntmps5
  go_wp2_with fail
  refine (within_nat x 0 len w hx' (by omega) (by omega) (by omega)).mono ?_
  rintro e w1 ⟨⟨i, hi0, hi1, rfl⟩, rfl⟩
  have hi0 : 0 ≤ i := by omega
  have hi1 : i ≤ len := by omega
  go_wp2_with fail
  refine (within_nat y i len w hy' (by omega) (by omega) (by omega)).mono ?_
  rintro e w1 ⟨⟨j, hj0, hj1, rfl⟩, rfl⟩
  have hj0 : i ≤ j := by omega
  have hj1 : j ≤ len := by omega
  go_wp2_with fail
  refine wp_region_quiet_below (by kernel_rfl) (by kernel_rfl) ?_
  have K1 := Lib.hid (fun d os => calls_regrown (d := d) (os := os) (fun W hW => calls_weak (on_any c a i cap (bs.take i) W hc ((hb.pre i hi1).below hW))))
  have K2 := Lib.hid (fun d os => calls_regrown (d := d) (os := os) (fun W hW => calls_weak (on_any (SumP.on c (bs.take i)) _ (j - i) (cap - i) _ W (SumP.on_lt _ _) ((hb.sub hlc i j hj0 hj1).below hW))))
  have K3 := Lib.hid (fun d os => calls_regrown (d := d) (os := os) (fun W hW => calls_weak (on_any (SumP.on (SumP.on c (bs.take i)) ((bs.take j).drop i)) _ (len - j) (cap - j) _ W (SumP.on_lt _ _) ((hb.sub hlc j len hj1 (Nat.le_refl _)).below hW))))
  have K4 := Lib.hid (fun d os => calls_regrown (d := d) (os := os) (fun W hW => calls_weak (on_any c a len cap bs W hc (hb.below hW))))
  have K5 := Lib.hid (fun d os => calls_regrown (w := w) (d := d) (os := os) (fun W hW => calls_weak (on_any c none 0 0 [] W hc (IsBytes.nil _ _))))
  have K6 := Lib.hid (fun d os => calls_regrown (w := w) (d := d) (os := os) (fun W hW => sumRuns_any W))
  have e1 : SumP.on (SumP.on (SumP.on c (bs.take i)) ((bs.take j).drop i)) ((bs.take len).drop j) = SumP.on c bs := by
    rw [SumP.on_append _ _ _ (fun x hx => hb.2.2.1 x (List.mem_of_mem_take hx)), SumP.on_append _ _ _ (fun x hx => hb.2.2.1 x (by
      rcases List.mem_append.1 hx with h | h
      · exact List.mem_of_mem_take h
      · exact List.mem_of_mem_take (List.mem_of_mem_drop h)))]
    congr 1
    rw [show bs.take i = (bs.take j).take i from by rw [List.take_take, Nat.min_eq_left hj0], List.take_append_drop, List.take_of_length_le (l := bs) (i := len) (by rw [hb.len]; exact Nat.le_refl _), List.take_append_drop]
  rw [e1] at K3
  rw [SumP.on_nil c hc] at K5
  clear e1
  repeat go_big_quiet_step (first | (go_at_call 9; with_reducible exact K1.out _ _) | (go_at_call 9; with_reducible exact K2.out _ _) | (go_at_call 9; with_reducible exact K3.out _ _) | (go_at_call 9; with_reducible exact K4.out _ _) | (go_at_call 9; with_reducible exact K5.out _ _) | (go_at_call 3; with_reducible exact K6.out _ _))
  refine wpQuiet_nil ?_
  intro w' hw'
  have hbw := below_of_regrown hw'
  clear hw'
  go_wp2
  all_goals go_ret
  all_goals exact ⟨rfl, hbw⟩
end Go.Proofs.Ytkgdccaafmeamaa
