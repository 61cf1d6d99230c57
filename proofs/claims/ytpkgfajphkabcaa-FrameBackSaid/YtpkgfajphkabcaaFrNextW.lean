/-
  The walks of frame.Next and the document's own Next.
-/
import Derived.Test.YtpkgfajphkabcaaFrameP
import Derived.Test.YtpkgfajphkabcaaOnW
import Derived.Deep.DeepMust
import Derived.Test.YtpkgfajphkabcaaRefGetW
namespace Go.Proofs.Ytpkgfajphkabcaa
open Go.RowKit
set_option linter.unusedVariables false

theorem owns_form0 {w : World} {base n : Nat} {e : TypeId} {v : Value} {xs : List Value} (h : w.ownsRow base e 1 v n xs) (hn : n ≤ 281474976710656) :
    ∃ p c, v = .slice p n c ∧ n ≤ c ∧ c ≤ maxLen ∧ (p = none → c = 0) ∧ (∀ l : List Nat, xs = cells8 l → (∀ x ∈ l, x < 256) → IsBytes w p n l) ∧ ∀ b off, p = some ⟨b, off, none⟩ → off = 0 := by
  obtain ⟨p, c, rfl, h1, h2, h3, h4⟩ := owns_form h hn
  refine ⟨p, c, rfl, h1, h2, h3, h4, fun b off hp => ?_⟩
  subst hp
  obtain ⟨_, h2⟩ := h
  rcases h2 with ⟨h2, _⟩ | ⟨g, cap, cur, hv, _⟩
  · cases h2
  · simp only [Value.slice.injEq, Option.some.injEq, Addr.mk.injEq] at hv
    exact hv.1.2.1
theorem next_arg (a : Option Addr) (len cap : Nat) (at' : Int) (w : World) (_hl : len ≤ 281474976710656) (h : at' < 0 ∨ (len : Int) < at') :
    Calls Try.prog 9 #[.slice a len cap, .int .i64 at'] w fun e w' => e = .returned (.tuple #[.slice none 0 0, .int .i64 0, .int .i64 1]) ∧ Below w.heap.size w w' := by
  rcases h with h | h
  all_goals
    go_enter Try.func9, Try.ntmps9
    go_wp2_with fail
    go_ret3
    exact ⟨rfl, by go_grown⟩
set_option maxHeartbeats 1000000 in
theorem next_short (a : Option Addr) (len cap i : Nat) (bs : List Nat) (w : World) (hb : IsBytes w a len bs) (hlc : len ≤ cap) (hi : i ≤ len) (h : len - i < 2) :
    Calls Try.prog 9 #[.slice a len cap, .int .i64 i] w fun e w' => e = .returned (.tuple #[.slice none 0 0, .int .i64 0, .int .i64 3]) ∧ Below w.heap.size w w' := by
  have hl := hb.2.1
  have hn : ∀ l : List Nat, l.length = len - i → getN l 0 2 = (0, 3) := by
    intro l hl
    unfold getN
    rw [if_neg (by omega), if_pos (by omega)]
  have hs := hb.sub hlc i len hi (Nat.le_refl _)
  have hlen := hs.len
  have hn := hn _ hlen
  generalize (bs.take len).drop i = r at *
  by_cases hci : cap = i
  · rw [if_pos hci] at hs
    have hg := fun C => get_any _ (len - i) C _ 0 2 w hs
    rw [hn] at hg
    have HG := Lib.hid hg; clear hg
    clear hb hs hn
    go_enter Try.func9, Try.ntmps9
    go_wp2_with fail
    refine (HG.out _ (by omega)).mono ?_
    rintro e w1 ⟨rfl, hb1⟩
    have HB := Lib.hid hb1; clear hb1
    go_wp2_with fail
    go_ret3
    exact ⟨rfl, HB.out⟩
  · rw [if_neg hci] at hs
    have hg := fun C => get_any _ (len - i) C _ 0 2 w hs
    rw [hn] at hg
    clear hb hs hn
    rcases a with _ | ⟨b, off, sp⟩
    · simp only [Option.map_none] at hg
      have HG := Lib.hid hg; clear hg
      go_enter Try.func9, Try.ntmps9
      go_wp2_with fail
      refine (HG.out _ (by omega)).mono ?_
      rintro e w1 ⟨rfl, hb1⟩
      have HB := Lib.hid hb1; clear hb1
      go_wp2_with fail
      go_ret3
      exact ⟨rfl, HB.out⟩
    · simp only [Option.map_some] at hg
      have HG := Lib.hid hg; clear hg
      go_enter Try.func9, Try.ntmps9
      go_wp2_with fail
      refine (HG.out _ (by omega)).mono ?_
      rintro e w1 ⟨rfl, hb1⟩
      have HB := Lib.hid hb1; clear hb1
      go_wp2_with fail
      go_ret3
      exact ⟨rfl, HB.out⟩
set_option maxHeartbeats 2000000 in
theorem next_some (b off len cap i : Nat) (r : List Nat) (w : World) (hlc : len ≤ cap) (_hl : len ≤ 281474976710656) (hi : i ≤ len) (h : ¬ len - i < 2) (hr : IsBytes w (some ⟨b, off + i, none⟩) (len - i) r) :
    Calls Try.prog 9 #[.slice (some ⟨b, off, none⟩) len cap, .int .i64 i] w fun e w' => ∃ p c, e = .returned (.tuple #[.slice p (nx0 r).1.length c, .int .i64 (if (nx0 r).2 = 0 then (i : Int) + 6 + (nx0 r).1.length else 0), .int .i64 (nx0 r).2]) ∧ (nx0 r).1.length ≤ c ∧ ((p = none → c = 0) ∧ ∀ b' off', p = some ⟨b', off', none⟩ → off' = 0) ∧ IsBytes w' p (nx0 r).1.length (nx0 r).1 ∧ Below w.heap.size w w' := by
  have hlen := hr.len
  have h2 := two_lt r hr.2.2.1
  have hcap : ¬ cap = i := by omega
  have hg : ∀ C, len - i ≤ C → _ := fun C hC => get_any (some ⟨b, off + i, none⟩) (len - i) C r 0 2 w hr hC
  have hn : getN r 0 2 = (leN (r.take 2), 0) := by
    unfold getN
    rw [if_neg (by omega), if_neg (by omega)]
    rfl
  rw [hn] at hg
  have HG := Lib.hid hg; clear hg hn
  have HR := Lib.hid hr; clear hr
  unfold nx0
  rw [if_neg (by omega)]
  generalize hu : leN (r.take 2) = u at *
  by_cases hf : u = 0 ∨ 16384 < u
  · rw [if_pos hf]
    rcases hf with rfl | hf
    · go_enter Try.func9, Try.ntmps9
      go_wp2_with fail
      refine (HG.out _ (by omega)).mono ?_
      rintro e w1 ⟨rfl, hb1⟩
      have HB := Lib.hid hb1; clear hb1
      go_wp2_with fail
      go_ret3
      exact ⟨none, 0, rfl, ⟨fun _ => rfl, fun _ _ h => by cases h⟩, IsBytes.nil _ _, HB.out⟩
    · go_enter Try.func9, Try.ntmps9
      go_wp2_with fail
      refine (HG.out _ (by omega)).mono ?_
      rintro e w1 ⟨rfl, hb1⟩
      have HB := Lib.hid hb1; clear hb1
      go_wp2_with fail
      go_ret3
      exact ⟨none, 0, rfl, ⟨fun _ => rfl, fun _ _ h => by cases h⟩, IsBytes.nil _ _, HB.out⟩
  rw [if_neg hf]
  have hu1 : 1 ≤ u := by omega
  have hu2 : u ≤ 16384 := by omega
  have e0 : ((u : Int) == 0) = false := by simp; omega
  have e1 : decide (16384 < (u : Int)) = false := by simp; omega
  clear hf
  by_cases hs : r.length < u + 6
  · rw [if_pos hs]
    go_enter Try.func9, Try.ntmps9
    go_wp2_with fail
    refine (HG.out _ (by omega)).mono ?_
    rintro e w1 ⟨rfl, hb1⟩
    have HB := Lib.hid hb1; clear hb1
    go_wp2_with fail
    go_ret3
    exact ⟨none, 0, rfl, ⟨fun _ => rfl, fun _ _ h => by cases h⟩, IsBytes.nil _ _, HB.out⟩
  rw [if_neg hs]
  have hq := fun W (hW : Below w.heap.size w W) => get_any (some ⟨b, off + i, none⟩) (len - i) (cap - i) r (2 + u : Nat) 4 W (HR.out.below hW) (by omega)
  have hn : getN r ((2 + u : Nat) : Int) 4 = (leN ((r.drop (2 + u)).take 4), 0) := by
    unfold getN
    rw [if_neg (by omega), if_neg (by omega)]
    rw [Int.toNat_natCast]
    rfl
  rw [hn, show ((2 + u : Nat) : Int) = 2 + (u : Int) by omega] at hq
  have HQ := Lib.hid hq; clear hq hn
  have hpre := HR.out.pre (2 + u) (by omega)
  have HP := Lib.hid (fun C W (hW : Below w.heap.size w W) => of_any (some ⟨b, off + i, none⟩) (2 + u) C _ W (hpre.below hW)); clear hpre
  have hsl : SumP.on 0 (r.take (2 + u)) < 4294967296 := SumP.on_lt _ _
  generalize hc : leN ((r.drop (2 + u)).take 4) = c at *
  generalize hd : SumP.on 0 (r.take (2 + u)) = d at *
  have hpay := (HR.out.cut 2 (2 + u) (by omega) (by omega))
  rw [show 2 + u - 2 = u by omega, show (r.take (2 + u)).drop 2 = (r.drop 2).take u from by rw [List.drop_take, show 2 + u - 2 = u by omega]] at hpay
  have hpl := hpay.len
  have HPAY := Lib.hid hpay; clear hpay
  generalize (r.drop 2).take u = pay at *
  by_cases hsum : c = d
  · rw [if_neg (by simpa using hsum)]
    subst hsum
    go_enter Try.func9, Try.ntmps9
    go_wp2_with fail
    refine (HG.out _ (by omega)).mono ?_
    rintro e w1 ⟨rfl, hb1⟩
    have HB := Lib.hid hb1; clear hb1
    go_wp2_with fail
    refine (HQ.out _ HB.out).mono ?_
    rintro e w2 ⟨rfl, hb2⟩
    have HB := Lib.hid (below_next HB.out hb2); clear hb2
    go_wp2_with fail
    refine (HP.out _ _ HB.out).mono ?_
    rintro e w3 ⟨rfl, rfl⟩
    go_wp2_with (at_builtin; go_must (refine wpList_append_cells rfl (.const (.slice none 0 0)) (.tmp 63) 22 rfl w2.heap.size 5 (.int .u8 0) 1 1 rfl (by kernel_rfl) rfl (by decide) _ 0 [] rfl ⟨rfl, .inl ⟨rfl, rfl⟩⟩ _ _ _ (cells8 pay) rfl (by rw [length_cells8, hpl, Nat.mul_one]; omega) (HPAY.out.reads.below (by first | exact HB.out | exact HB.out.trans (by go_grown))) (by intro h; cases h) (cells8_one pay) (by unfold maxLen; omega) (by omega) (Nat.le_refl _) ?_); intro v4 w4 ho4 hb4 _; have HO4 := Lib.hid ho4; clear ho4)
    have ho := HO4.out
    rw [show 0 + (2 + u - 2) = u by omega, List.nil_append] at ho
    obtain ⟨p, c', rfl, h1, h2, h3, h4, h5⟩ := owns_form0 ho (by omega)
    have HI := Lib.hid (h4 _ rfl HPAY.out.2.2.1)
    have HB := Lib.hid (below_next HB.out hb4)
    have H3 := Lib.hid (And.intro h3 h5)
    clear HO4 ho h3 h4 h5 hb4
    go_ret3
    exact ⟨p, c', congrArg (fun x : Int => Ending.returned (.tuple #[.slice p u c', .int .i64 x, .int .i64 0])) (by omega), h1, H3.out, HI.out, HB.out⟩
  · rw [if_pos hsum]
    go_enter Try.func9, Try.ntmps9
    go_wp2_with fail
    refine (HG.out _ (by omega)).mono ?_
    rintro e w1 ⟨rfl, hb1⟩
    have HB := Lib.hid hb1; clear hb1
    go_wp2_with fail
    refine (HQ.out _ HB.out).mono ?_
    rintro e w2 ⟨rfl, hb2⟩
    have HB := Lib.hid (below_next HB.out hb2); clear hb2
    go_wp2_with fail
    refine (HP.out _ _ HB.out).mono ?_
    rintro e w3 ⟨rfl, rfl⟩
    have hcd : ((c : Int) != (d : Int)) = true := by simp; omega
    go_wp2_with fail
    go_ret3
    exact ⟨none, 0, rfl, ⟨fun _ => rfl, fun _ _ h => by cases h⟩, IsBytes.nil _ _, HB.out⟩
/-- What Next answers. -/
def NextAns (w : World) (bs : List Nat) (at' : Int) (e : Ending) (w' : World) : Prop :=
  ∃ p c, e = .returned (.tuple #[.slice p (nx bs at').1.length c, .int .i64 (nx bs at').2.1, .int .i64 (nx bs at').2.2]) ∧ (nx bs at').1.length ≤ c ∧ ((p = none → c = 0) ∧ ∀ b' off', p = some ⟨b', off', none⟩ → off' = 0) ∧ IsBytes w' p (nx bs at').1.length (nx bs at').1 ∧ Below w.heap.size w w'
theorem nextAns_nil {w w' : World} {bs : List Nat} {at' : Int} {x : Int} (h : nx bs at' = ([], 0, x)) (hb : Below w.heap.size w w') : NextAns w bs at' (.returned (.tuple #[.slice none 0 0, .int .i64 0, .int .i64 x])) w' := by
  unfold NextAns
  rw [h]
  exact ⟨none, 0, rfl, Nat.le_refl _, ⟨fun _ => rfl, fun _ _ h => by cases h⟩, IsBytes.nil _ _, hb⟩
theorem next_any (a : Option Addr) (len cap : Nat) (bs : List Nat) (at' : Int) (w : World) (hb : IsBytes w a len bs) (hlc : len ≤ cap) :
    Calls Try.prog 9 #[.slice a len cap, .int .i64 at'] w fun e w' => NextAns w bs at' e w' := by
  have hl := hb.len
  by_cases h : at' < 0 ∨ (len : Int) < at'
  · refine (next_arg a len cap at' w hb.2.1 h).mono ?_
    rintro e w' ⟨rfl, hbe⟩
    exact nextAns_nil (by unfold nx; rw [if_pos (by omega)]) hbe
  obtain ⟨i, rfl⟩ := Int.eq_ofNat_of_zero_le (show 0 ≤ at' by omega)
  have hi : i ≤ len := by omega
  have hdl : (bs.drop i).length = len - i := by simp [hl]
  by_cases h2 : len - i < 2
  · refine (next_short a len cap i bs w hb hlc hi h2).mono ?_
    rintro e w' ⟨rfl, hbe⟩
    refine nextAns_nil ?_ hbe
    unfold nx nx0
    rw [if_neg (by omega), Int.toNat_natCast, if_pos (by omega)]
    rfl
  · obtain ⟨b, off, rfl, _⟩ := hb.2.2.2 (by omega)
    have hr := hb.cut i len hi (Nat.le_refl _)
    rw [List.take_of_length_le (by omega)] at hr
    refine (next_some b off len cap i (bs.drop i) w hlc hb.2.1 hi h2 hr).mono ?_
    intro e w' he
    unfold NextAns nx
    rw [if_neg (by omega), Int.toNat_natCast]
    exact he

/-! ### The document's own -/
theorem rnext_arg (a : Option Addr) (len cap : Nat) (at' : Int) (w : World) (_hl : len ≤ 281474976710656) (h : at' < 0 ∨ (len : Int) < at') :
    Calls Try.prog 12 #[.slice a len cap, .int .i64 at'] w fun e w' => e = .returned (.tuple #[.slice none 0 0, .int .i64 0, .int .i64 1]) ∧ Below w.heap.size w w' := by
  rcases h with h | h
  all_goals
    go_enter Try.func12, Try.ntmps12
    go_wp2_with fail
    go_ret3
    exact ⟨rfl, by go_grown⟩
set_option maxHeartbeats 1000000 in
theorem rnext_short (a : Option Addr) (len cap i : Nat) (w : World) (hl : len ≤ 281474976710656) (hi : i ≤ len) (h : len - i < 2) :
    Calls Try.prog 12 #[.slice a len cap, .int .i64 i] w fun e w' => e = .returned (.tuple #[.slice none 0 0, .int .i64 0, .int .i64 3]) ∧ Below w.heap.size w w' := by
  go_enter Try.func12, Try.ntmps12
  go_wp2_with fail
  go_ret3
  exact ⟨rfl, by go_grown⟩
set_option maxHeartbeats 2000000 in
theorem rnext_some (b off len cap i : Nat) (bs r : List Nat) (w : World) (hlc : len ≤ cap) (_hl : len ≤ 281474976710656) (hi : i ≤ len) (h : ¬ len - i < 2) (hbs : IsBytes w (some ⟨b, off, none⟩) len bs) (er : bs.drop i = r) :
    Calls Try.prog 12 #[.slice (some ⟨b, off, none⟩) len cap, .int .i64 i] w fun e w' => ∃ p c, e = .returned (.tuple #[.slice p (nx0 r).1.length c, .int .i64 (if (nx0 r).2 = 0 then (i : Int) + 6 + (nx0 r).1.length else 0), .int .i64 (nx0 r).2]) ∧ (nx0 r).1.length ≤ c ∧ ((p = none → c = 0) ∧ ∀ b' off', p = some ⟨b', off', none⟩ → off' = 0) ∧ IsBytes w' p (nx0 r).1.length (nx0 r).1 ∧ Below w.heap.size w w' := by
  have hr := hbs.cut i len hi (Nat.le_refl _)
  rw [List.take_of_length_le (by rw [hbs.len]; exact Nat.le_refl _), er] at hr
  have hlen := hr.len
  have hbl := hbs.len
  have h2 := two_lt r hr.2.2.1
  have hcap : ¬ cap = i := by omega
  have hg := rget_any (some ⟨b, off, none⟩) len cap bs i 2 w hbs hlc
  have hn : getN bs i 2 = (leN (r.take 2), 0) := by
    unfold getN
    rw [if_neg (by omega), if_neg (by omega), Int.toNat_natCast, er]
    rfl
  rw [hn] at hg
  have HG := Lib.hid hg; clear hg hn
  have HR := Lib.hid hr; clear hr
  have HBS := Lib.hid hbs; clear hbs
  unfold nx0
  rw [if_neg (by omega)]
  generalize hu : leN (r.take 2) = u at *
  by_cases hf : u = 0 ∨ 16384 < u
  · rw [if_pos hf]
    rcases hf with rfl | hf
    all_goals
      clear er
      go_enter Try.func12, Try.ntmps12
      go_wp2_with fail
      refine HG.out.mono ?_
      rintro e w1 ⟨rfl, hb1⟩
      have HB := Lib.hid hb1; clear hb1
      go_wp2_with fail
      go_ret3
      exact ⟨none, 0, rfl, ⟨fun _ => rfl, fun _ _ h => by cases h⟩, IsBytes.nil _ _, HB.out⟩
  rw [if_neg hf]
  have hu1 : 1 ≤ u := by omega
  have hu2 : u ≤ 16384 := by omega
  have e0 : ((u : Int) == 0) = false := by simp; omega
  have e1 : decide (16384 < (u : Int)) = false := by simp; omega
  clear hf
  by_cases hs : r.length < u + 6
  · rw [if_pos hs]
    clear er
    go_enter Try.func12, Try.ntmps12
    go_wp2_with fail
    refine HG.out.mono ?_
    rintro e w1 ⟨rfl, hb1⟩
    have HB := Lib.hid hb1; clear hb1
    go_wp2_with fail
    go_ret3
    exact ⟨none, 0, rfl, ⟨fun _ => rfl, fun _ _ h => by cases h⟩, IsBytes.nil _ _, HB.out⟩
  rw [if_neg hs]
  have hq := fun W (hW : Below w.heap.size w W) => rget_any (some ⟨b, off, none⟩) len cap bs (i + 2 + u : Nat) 4 W (HBS.out.below hW) hlc
  have hn : getN bs ((i + 2 + u : Nat) : Int) 4 = (leN ((r.drop (2 + u)).take 4), 0) := by
    unfold getN
    rw [if_neg (by omega), if_neg (by omega), Int.toNat_natCast, ← er, List.drop_drop, Nat.add_assoc]
    rfl
  rw [hn, show ((i + 2 + u : Nat) : Int) = (i : Int) + 2 + (u : Int) by omega] at hq
  have HQ := Lib.hid hq; clear hq hn
  have hpre := HR.out.pre (2 + u) (by omega)
  have hpp := fun C W (hW : Below w.heap.size w W) => refon_any 0 (some ⟨b, off + i, none⟩) (2 + u) C _ W (by decide) (hpre.below hW)
  rw [show ((0 : Nat) : Int) = 0 from rfl] at hpp
  have HP := Lib.hid hpp; clear hpre hpp
  have hsl : SumP.on 0 (r.take (2 + u)) < 4294967296 := SumP.on_lt _ _
  generalize hc : leN ((r.drop (2 + u)).take 4) = c at *
  generalize hd : SumP.on 0 (r.take (2 + u)) = d at *
  have hpay := (HR.out.cut 2 (2 + u) (by omega) (by omega))
  rw [show 2 + u - 2 = u by omega, show (r.take (2 + u)).drop 2 = (r.drop 2).take u from by rw [List.drop_take, show 2 + u - 2 = u by omega]] at hpay
  have hpl := hpay.len
  have HPAY := Lib.hid hpay; clear hpay
  generalize (r.drop 2).take u = pay at *
  clear er
  by_cases hsum : c = d
  · rw [if_neg (by simpa using hsum)]
    subst hsum
    go_enter Try.func12, Try.ntmps12
    go_wp2_with fail
    refine HG.out.mono ?_
    rintro e w1 ⟨rfl, hb1⟩
    have HB := Lib.hid hb1; clear hb1
    go_wp2_with fail
    refine (HQ.out _ HB.out).mono ?_
    rintro e w2 ⟨rfl, hb2⟩
    have HB := Lib.hid (below_next HB.out hb2); clear hb2
    go_wp2_with fail
    rw [show i + 2 + u - i = 2 + u by omega]
    refine (HP.out _ _ HB.out).mono ?_
    rintro e w3 ⟨rfl, rfl⟩
    have HO1 := Lib.hid (lit_owns w2 5 w2.heap.size (Nat.le_refl _))
    go_wp2_with (at_builtin; go_must (refine wpList_append_cells rfl (.tmp 66) (.tmp 74) 22 rfl w2.heap.size 5 (.int .u8 0) 1 1 rfl (by kernel_rfl) rfl (by decide) _ 0 [] rfl HO1.out _ _ _ (cells8 pay) rfl (by rw [length_cells8, hpl, Nat.mul_one]; omega) (HPAY.out.reads.below (HB.out.trans ((show Below w2.heap.size w2 _ by go_grown).mono HB.out.size))) (by intro h; cases h) (cells8_one pay) (by unfold maxLen; omega) (by omega) (by simp) ?_); intro v4 w4 ho4 hb4 _; have HO4 := Lib.hid ho4; clear ho4)
    have ho := HO4.out
    rw [show 0 + (i + 2 + u - (i + 2)) = u by omega, List.nil_append] at ho
    obtain ⟨p, c', rfl, h1, h2, h3, h4, h5⟩ := owns_form0 ho (by omega)
    have HI := Lib.hid (h4 _ rfl HPAY.out.2.2.1)
    have HB := Lib.hid (below_next HB.out ((show Below w2.heap.size w2 _ by go_grown).trans hb4))
    have H3 := Lib.hid (And.intro h3 h5)
    clear HO4 ho h3 h4 h5 hb4
    go_ret3
    exact ⟨p, c', congrArg (fun x : Int => Ending.returned (.tuple #[.slice p u c', .int .i64 x, .int .i64 0])) (by omega), h1, H3.out, HI.out, HB.out⟩
  · rw [if_pos hsum]
    go_enter Try.func12, Try.ntmps12
    go_wp2_with fail
    refine HG.out.mono ?_
    rintro e w1 ⟨rfl, hb1⟩
    have HB := Lib.hid hb1; clear hb1
    go_wp2_with fail
    refine (HQ.out _ HB.out).mono ?_
    rintro e w2 ⟨rfl, hb2⟩
    have HB := Lib.hid (below_next HB.out hb2); clear hb2
    go_wp2_with fail
    rw [show i + 2 + u - i = 2 + u by omega]
    refine (HP.out _ _ HB.out).mono ?_
    rintro e w3 ⟨rfl, rfl⟩
    have hcd : ((d : Int) != (c : Int)) = true := by simp; omega
    go_wp2_with fail
    go_ret3
    exact ⟨none, 0, rfl, ⟨fun _ => rfl, fun _ _ h => by cases h⟩, IsBytes.nil _ _, HB.out⟩
theorem rnext_any (a : Option Addr) (len cap : Nat) (bs : List Nat) (at' : Int) (w : World) (hb : IsBytes w a len bs) (hlc : len ≤ cap) :
    Calls Try.prog 12 #[.slice a len cap, .int .i64 at'] w fun e w' => NextAns w bs at' e w' := by
  have hl := hb.len
  by_cases h : at' < 0 ∨ (len : Int) < at'
  · refine (rnext_arg a len cap at' w hb.2.1 h).mono ?_
    rintro e w' ⟨rfl, hbe⟩
    exact nextAns_nil (by unfold nx; rw [if_pos (by omega)]) hbe
  obtain ⟨i, rfl⟩ := Int.eq_ofNat_of_zero_le (show 0 ≤ at' by omega)
  have hi : i ≤ len := by omega
  have hdl : (bs.drop i).length = len - i := by simp [hl]
  by_cases h2 : len - i < 2
  · refine (rnext_short a len cap i w hb.2.1 hi h2).mono ?_
    rintro e w' ⟨rfl, hbe⟩
    refine nextAns_nil ?_ hbe
    unfold nx nx0
    rw [if_neg (by omega), Int.toNat_natCast, if_pos (by omega)]
    rfl
  · obtain ⟨b, off, rfl, _⟩ := hb.2.2.2 (by omega)
    refine (rnext_some b off len cap i bs (bs.drop i) w hlc hb.2.1 hi h2 hb rfl).mono ?_
    intro e w' he
    unfold NextAns nx
    rw [if_neg (by omega), Int.toNat_natCast]
    exact he
end Go.Proofs.Ytpkgfajphkabcaa
