/-
  The walk of InterfPlays: the program's index and the document's, the same calls: the same answers, and the same is known.
-/
import Derived.Test.YtleagecocffihaaIfDocNW
import Derived.Test.YtleagecocffihaaIfDocAW
import Derived.Test.YtleagecocffihaaIfDocPW
import Derived.Test.YtleagecocffihaaIfAskW
import Derived.Test.YtleagecocffihaaIfLenW
namespace Go.Proofs.Ytleagecocffihaa
open Go.RowKit Go.Maps
set_option linter.unusedVariables false
set_option linter.unusedSimpArgs false

theorem neq_att (q : Int) (d : Nat → Int) (w : World) : (binOp .neq 34 (.agg (attL q d).toArray) (.agg (attL q d).toArray)).run Try.prog w = .ok (.bool false) w := by
  have hd := fun w => eq_deps (d 0) (d 1) (d 2) (d 3) (d 4) (d 5) (d 6) (d 0) (d 1) (d 2) (d 3) (d 4) (d 5) (d 6) w
  simp only [beq_self_eq_true, Bool.and_self] at hd
  unfold attL cutL
  rw [run_neq_struct, show (10000 : Nat) = 9999 + 1 from rfl, run_equalIn_struct w 9999 34 _ _ (by as_aux_lemma => kernel_rfl) (by as_aux_lemma => kernel_rfl)]
  go_simp
theorem eq_deps' (a0 a1 a2 a3 a4 a5 a6 : Int) (w : World) : (Op.equalIn 10000 32 (.agg #[.int .i64 a0, .int .i64 a1, .int .i64 a2, .int .i64 a3, .int .i64 a4, .int .i64 a5, .int .i64 a6]) (.agg #[.int .i64 a0, .int .i64 a1, .int .i64 a2, .int .i64 a3, .int .i64 a4, .int .i64 a5, .int .i64 a6])).run Try.prog w = .ok true w := by
  have u3 := Try.underlying3
  have g3 := Try.isAgg3
  have z3 := Try.sizeOf3
  rw [show (10000 : Nat) = 9999 + 1 from rfl, Op.equalIn]
  simp only [Sem.run_bind, run_underlying Try.underlying32, Result.andThen_ok]
  simp only [Std.Legacy.Range.forIn_eq_forIn_range', Std.Legacy.Range.size, Nat.sub_zero, Nat.add_sub_cancel, Nat.div_one, List.range'_succ, List.range'_zero, List.forIn_cons, List.forIn_nil]
  go_simp
theorem neq_cut (d : Nat → Int) (w : World) : (binOp .neq 32 (.agg #[.int .i64 (d 0), .int .i64 (d 1), .int .i64 (d 2), .int .i64 (d 3), .int .i64 (d 4), .int .i64 (d 5), .int .i64 (d 6)]) (.agg #[.int .i64 (d 0), .int .i64 (d 1), .int .i64 (d 2), .int .i64 (d 3), .int .i64 (d 4), .int .i64 (d 5), .int .i64 (d 6)])).run Try.prog w = .ok (.bool false) w := by
  rw [run_neq_struct, eq_deps']
  rfl
theorem putE_length (l : List Ent) (e : Ent) : (putE l e).length ≤ l.length + 1 := by
  unfold putE
  split
  · simp
  · simp
theorem IxAt.apart {w : World} {g b n : Nat} {d : Nat → Int} {l : List Ent} (h : IxAt w g b n d l) : KeysApart l := by
  obtain ⟨D, _, hl⟩ := h.map
  exact hl.apart
theorem owns_kept {w w' : World} {base size n : Nat} {e : TypeId} {v : Value} {xs : List Value} (h : w.ownsRow base e size v n xs) (hk : ∀ k, base ≤ k → k < w.heap.size → w'.heap[k]? = w.heap[k]?) : w'.ownsRow base e size v n xs := by
  obtain ⟨h1, h2⟩ := h
  refine ⟨h1, ?_⟩
  rcases h2 with h2 | ⟨g, cap, cur, hv, hg, hh, hr⟩
  · exact .inl h2
  · have : g < w.heap.size := (Array.getElem?_eq_some_iff.1 hh).1
    exact .inr ⟨g, cap, cur, hv, hg, by rw [hk g hg this]; exact hh, hr⟩
/-- The document's index, wherever its lists lie. -/
def DocIs (w : World) (B gd : Nat) (l : List Ent) (d : Nat → Int) : Prop := ∃ p1 c1 p2 c2 p3 c3, DocAt w B gd p1 c1 p2 c2 p3 c3 l d
theorem DocIs.kept {w w' : World} {B gd : Nat} {l : List Ent} {d : Nat → Int} (h : DocIs w B gd l d) (hb : w'.heap[gd]? = w.heap[gd]?) (hk : ∀ k, B ≤ k → k < w.heap.size → w'.heap[k]? = w.heap[k]?) (hs : w.heap.size ≤ w'.heap.size) : DocIs w' B gd l d := by
  obtain ⟨p1, c1, p2, c2, p3, c3, h⟩ := h
  exact ⟨p1, c1, p2, c2, p3, c3, by have := h.box; unfold Holds at this ⊢; rw [hb]; exact this, owns_kept h.o1 hk, owns_kept h.o2 hk, owns_kept h.o3 hk, h.lt, Nat.le_trans h.le hs⟩
/-- Both indexes: the program's says l1, cut at d1; the document's l2, cut at d2. -/
structure Pl (w W : World) (B gd g b n : Nat) (d1 : Nat → Int) (l1 : List Ent) (d2 : Nat → Int) (l2 : List Ent) : Prop where
  bel : Below w.heap.size w W
  x : IxAt W g b n d1 l1
  y : DocIs W B gd l2 d2
  lo : w.heap.size ≤ g ∧ w.heap.size ≤ b ∧ w.heap.size ≤ gd ∧ g < B ∧ b < B ∧ gd < B ∧ g ≠ gd ∧ b ≠ gd ∧ w.heap.size ≤ B
  le : B ≤ W.heap.size
theorem Pl.below {w W W' : World} {B gd g b n : Nat} {d1 : Nat → Int} {l1 : List Ent} {d2 : Nat → Int} {l2 : List Ent} (h : Pl w W B gd g b n d1 l1 d2 l2) (hb : Below W.heap.size W W') : Pl w W' B gd g b n d1 l1 d2 l2 :=
  ⟨below_next h.bel hb, h.x.below hb, h.y.kept (hb.block gd (by have := h.lo; have := h.le; omega)) (fun k _ hk => hb.block k hk) hb.size, h.lo, Nat.le_trans h.le hb.size⟩
theorem Pl.noteX {w W : World} {B gd g b n : Nat} {d1 : Nat → Int} {l1 : List Ent} {d2 : Nat → Int} {l2 : List Ent} (h : Pl w W B gd g b n d1 l1 d2 l2) (hn : n ≤ 1000) (r s : Int) (c : Cm) (q : Int) :
    Calls Try.prog 9 #[.pointer (some ⟨g, 0, none⟩), .agg #[.int .i64 r, .int .i64 s], .agg #[.int .i64 c.k, .int .i64 c.c, .int .i64 c.s, .string c.a, .string c.b, .string c.o, .string c.v], .int .i64 q] W fun e w' =>
      e = .returned (.bool (noteB d1 r s c q)) ∧ Pl w w' B gd g b (n + 1) d1 (if noteB d1 r s c q then putE l1 ⟨r, s, c, q⟩ else l1) d2 l2 ∧ Touch b W w' := by
  obtain ⟨h1, h2, h3, h4, h5, h6, h7, h8, h9⟩ := h.lo
  have hle := h.le
  refine (note_any g b n d1 l1 r s c q W h.x hn).mono ?_
  rintro e w' ⟨rfl, hx, ht⟩
  exact ⟨rfl, ⟨h.bel.trans (ht.below h2 h.bel.size), hx, h.y.kept (ht.block gd (by omega) (by omega)) (fun k hk hks => ht.block k hks (by omega)) ht.size, h.lo, Nat.le_trans h.le ht.size⟩, ht⟩
theorem Pl.keep {w W W' : World} {B gd g b n : Nat} {d1 : Nat → Int} {l1 : List Ent} {d2 : Nat → Int} {l2 : List Ent} (h : Pl w W B gd g b n d1 l1 d2 l2) (hk : Keep B gd W W') {d3 : Nat → Int} {l3 : List Ent} (hy : DocIs W' B gd l3 d3) : Pl w W' B gd g b n d1 l1 d3 l3 := by
  obtain ⟨h1, h2, h3, h4, h5, h6, h7, h8, h9⟩ := h.lo
  exact ⟨h.bel.trans ⟨hk.os, hk.tape, hk.output, hk.size, fun k hkk => hk.block k (by omega) (by omega)⟩, h.x.keep (hk.block g h4 h7) (hk.block b h5 h8), hy, h.lo, Nat.le_trans h.le hk.size⟩
theorem Pl.noteY {w W : World} {B gd g b n : Nat} {d1 : Nat → Int} {l1 : List Ent} {d2 : Nat → Int} {l2 : List Ent} (h : Pl w W B gd g b n d1 l1 d2 l2) (hap : KeysApart l2) (hl : l2.length ≤ 1000) (r s : Int) (c : Cm) (q : Int) :
    Calls Try.prog 19 #[.pointer (some ⟨gd, 0, none⟩), .agg #[.int .i64 r, .int .i64 s], .agg #[.int .i64 c.k, .int .i64 c.c, .int .i64 c.s, .string c.a, .string c.b, .string c.o, .string c.v], .int .i64 q] W fun e w' =>
      e = .returned (.bool (noteB d2 r s c q)) ∧ Pl w w' B gd g b n d1 l1 d2 (if noteB d2 r s c q then putE l2 ⟨r, s, c, q⟩ else l2) := by
  obtain ⟨p1, c1, p2, c2, p3, c3, hy⟩ := h.y
  refine (dnote_any B gd p1 c1 p2 c2 p3 c3 l2 d2 r s c q W hy hap hl).mono ?_
  rintro e w' ⟨rfl, hd, hk⟩
  exact ⟨rfl, h.keep hk hd⟩
theorem Pl.attrX {w W : World} {B gd g b n : Nat} {d : Nat → Int} {l : List Ent} (h : Pl w W B gd g b n d l d l) (r s : Int) (c : Cm) (hca : c.a.size ≤ 1000000) :
    Calls Try.prog 12 #[.pointer (some ⟨g, 0, none⟩), .agg #[.int .i64 r, .int .i64 s], .agg #[.int .i64 c.k, .int .i64 c.c, .int .i64 c.s, .string c.a, .string c.b, .string c.o, .string c.v]] W fun e w' =>
      e = .returned (.agg (attL (attrQ l r s c) (attrD l d r s c)).toArray) ∧ Below W.heap.size W w' := attr_any g b n d l r s c W h.x hca
theorem Pl.attrY {w W : World} {B gd g b n : Nat} {d : Nat → Int} {l : List Ent} (h : Pl w W B gd g b n d l d l) (hl : l.length ≤ 1000) (r s : Int) (c : Cm) (hca : c.a.size ≤ 1000000) :
    Calls Try.prog 20 #[.pointer (some ⟨gd, 0, none⟩), .agg #[.int .i64 r, .int .i64 s], .agg #[.int .i64 c.k, .int .i64 c.c, .int .i64 c.s, .string c.a, .string c.b, .string c.o, .string c.v]] W fun e w' =>
      e = .returned (.agg (attL (attrQ l r s c) (attrD l d r s c)).toArray) ∧ Below W.heap.size W w' := by
  obtain ⟨p1, c1, p2, c2, p3, c3, hy⟩ := h.y
  exact dattr_any B gd p1 c1 p2 c2 p3 c3 l d r s c W hy h.x.good hl hca
theorem Pl.pruneX {w W : World} {B gd g b n : Nat} {d1 : Nat → Int} {l1 : List Ent} {d2 : Nat → Int} {l2 : List Ent} (h : Pl w W B gd g b n d1 l1 d2 l2) (u : Nat → Int) :
    Calls Try.prog 13 #[.pointer (some ⟨g, 0, none⟩), .agg (cutL u).toArray] W fun e w' =>
      e = .returned (.tuple #[]) ∧ Pl w w' B gd g b n (newCut d1 u) (pruned l1 (newCut d1 u)) d2 l2 ∧ Touch2 g b W w' := by
  obtain ⟨h1, h2, h3, h4, h5, h6, h7, h8, h9⟩ := h.lo
  have hle := h.le
  refine (prune_any g b n d1 u l1 W h.x).mono ?_
  rintro e w' ⟨rfl, hx, ht⟩
  have hsz := h.bel.size
  exact ⟨rfl, ⟨h.bel.trans ⟨ht.os, ht.tape, ht.output, ht.size, fun k hk => ht.block k (by omega) (by omega) (by omega)⟩, hx, h.y.kept (ht.block gd (by omega) (by omega) (by omega)) (fun k hk hks => ht.block k hks (by omega) (by omega)) ht.size, h.lo, Nat.le_trans h.le ht.size⟩, ht⟩
theorem Pl.pruneY {w W : World} {B gd g b n : Nat} {d1 : Nat → Int} {l1 : List Ent} {d2 : Nat → Int} {l2 : List Ent} (h : Pl w W B gd g b n d1 l1 d2 l2) (hg : GoodE l2) (hl : l2.length ≤ 1000) (u : Nat → Int) :
    Calls Try.prog 21 #[.pointer (some ⟨gd, 0, none⟩), .agg (cutL u).toArray] W fun e w' =>
      e = .returned (.tuple #[]) ∧ Pl w w' B gd g b n d1 l1 (newCut d2 u) (pruned l2 (newCut d2 u)) := by
  obtain ⟨p1, c1, p2, c2, p3, c3, hy⟩ := h.y
  refine (dprune_any B gd p1 c1 p2 c2 p3 c3 l2 d2 u W hy hg hl).mono ?_
  rintro e w' ⟨rfl, hd, hk⟩
  exact ⟨rfl, h.keep hk hd⟩
theorem Pl.mono {w W : World} {B gd g b n : Nat} {d1 : Nat → Int} {l1 : List Ent} {d2 : Nat → Int} {l2 : List Ent} (h : Pl w W B gd g b n d1 l1 d2 l2) : Pl w W B gd g b (n + 1) d1 l1 d2 l2 := ⟨h.bel, h.x.mono, h.y, h.lo, h.le⟩
theorem Pl.start {w W : World} {B gd g b : Nat} (hb : Below w.heap.size w W) (hx : IxAt W g b 0 (fun _ => 0) []) (hy : Holds W gd 53 (.slice none 0 0 :: .slice none 0 0 :: .slice none 0 0 :: cutL fun _ => 0)) (lo : w.heap.size ≤ g ∧ w.heap.size ≤ b ∧ w.heap.size ≤ gd ∧ g < B ∧ b < B ∧ gd < B ∧ g ≠ gd ∧ b ≠ gd ∧ w.heap.size ≤ B) (le : B ≤ W.heap.size) : Pl w W B gd g b 0 (fun _ => 0) [] (fun _ => 0) [] :=
  ⟨hb, hx, ⟨none, 0, none, 0, none, 0, hy, ⟨rfl, .inl ⟨rfl, rfl⟩⟩, ⟨rfl, .inl ⟨rfl, rfl⟩⟩, ⟨rfl, .inl ⟨rfl, rfl⟩⟩, lo.2.2.2.2.2.1, le⟩, lo, le⟩
set_option maxRecDepth 8000 in
set_option maxHeartbeats 40000000 in
theorem interfPlays_any (a : Option Addr) (len cap : Nat) (R : Nat → Ask) (w : World) (hV : IsRows w a len 18 fun i => (R i).cells) (hOk : ∀ i, (R i).Ok) (hlc : len ≤ cap) (hcm : cap ≤ maxLen) :
    Calls Try.prog 6 #[.slice a len cap] w fun e w' => e = .returned (.bool true) ∧ Below w.heap.size w w' := by
  have HV := Lib.hid hV; clear hV
  have HOK := Lib.hid hOk; clear hOk
  have KR := Lib.hid (fun W => interfRuns_any W)
  unfold maxLen at hcm
  go_enter Try.func6, Try.ntmps6
  go_wp2_with fail
  refine (new_any _).mono ?_
  rintro e w1 ⟨rfl, hx, hb⟩
  have HX := Lib.hid hx; have HB := Lib.hid hb
  clear hx hb
  go_upto_region 4 with (fail)
  go_name_world W hW
  have hd : Holds W w1.heap.size 53 (.slice none 0 0 :: .slice none 0 0 :: .slice none 0 0 :: cutL fun _ => 0) := by rw [← hW]; exact holds_alloc w1 _ _
  have hbw : Below w1.heap.size w1 W := by rw [← hW]; go_grown
  have hsz : W.heap.size = w1.heap.size + 1 := by rw [← hW]; simp
  clear hW
  have hlt := HX.out.lt
  have HP := Lib.hid (show Pl w W (w1.heap.size + 1) w1.heap.size (w.heap.size + 1) w.heap.size 0 (fun _ => 0) [] (fun _ => 0) [] from
    Pl.start (below_next HB.out hbw) (HX.out.below hbw) hd ⟨by omega, by omega, by omega, by omega, by omega, by omega, by omega, by omega, by omega⟩ (by omega))
  clear HX HB hd hbw hsz hlt
  generalize w1.heap.size + 1 = B at HP
  generalize w1.heap.size = gd at HP ⊢
  generalize w.heap.size + 1 = g at HP ⊢
  generalize hb0 : w.heap.size = b at HP
  clear hb0
  go_wp2_with fail
  go_loopw [5] (fun vk wr => ∃ (k : Nat) (d : Nat → Int) (l : List Ent), k ≤ len ∧ k ≤ 60 ∧ vk = .int .i64 k ∧ l.length ≤ k ∧ Pl w wr B gd g b k d l d l) (fun vk _ => 60 - (intOf vk).toNat)
  case atStart => exact ⟨0, fun _ => 0, [], by omega, by omega, rfl, Nat.le_refl _, HP.out⟩
  case round =>
    clear HP
    obtain ⟨k, d, l, hk, hk60, rfl, hlk, hp⟩ := hrel
    have HP := Lib.hid hp; clear hp
    by_cases h12 : k < len ∧ k < 60
    · obtain ⟨h1, h2⟩ := h12
      have hv := HV.out
      obtain ⟨va, voff, rfl, hlt⟩ := hv.spot (by omega)
      have KA := Lib.hid (fun W => light_any (R k).c W (HOK.out k).c)
      obtain ⟨y, hy⟩ : ∃ y, y = R k := ⟨_, rfl⟩
      have hrg := hv.range HP.out.bel h1
      rw [← hy] at hrg KA
      simp only [Ask.cells] at hrg
      have HRG := Lib.hid hrg; clear hrg hy hv
      have hyo2 : y.cells.toArray.all (·.oneCell') = true := by rw [List.all_toArray]; exact List.all_eq_true.2 y.cells_one
      have HYO := Lib.hid hyo2; clear hyo2
      go_upto_region 8 with (first
        | (refine wpList_load_mid rfl 43 _ rfl va (voff + k * 18) rfl _ _ HRG.out Try.underlying43 rfl (by as_aux_lemma => kernel_rfl) ?_)
        | (refine wpList_store_new rfl 43 _ _ rfl rfl _ _ y.cells.toArray rfl rfl (by as_aux_lemma => kernel_rfl) (by as_aux_lemma => kernel_rfl) HYO.out ?_))
      have hz := holds_alloc wr 43 y.cells
      have hbz : Below wr.heap.size wr (wr.alloc (.cells y.cells.toArray 43)) := by go_grown
      generalize wr.alloc (.cells y.cells.toArray 43) = w3 at hz hbz ⊢
      have hzn : wr.heap.size ≠ b ∧ wr.heap.size ≠ g := by have := HP.out.lo; have := HP.out.le; omega
      have HP := Lib.hid (HP.out.below hbz)
      have HZN := Lib.hid hzn; clear hzn
      generalize wr.heap.size = ga at hz HZN ⊢
      clear hbz HRG HYO
      have HZ := Lib.hid hz; clear hz
      have z0 := HZ.out.cell 0
      have z4 := HZ.out.cell 4
      have z5 := HZ.out.cell 5
      have z6 := HZ.out.cell 6
      have z7 := HZ.out.cell 7
      have z8 := HZ.out.cell 8
      have z9 := HZ.out.cell 9
      have z10 := HZ.out.cell 10
      simp only [Ask.cells, List.getElem?_cons_zero, List.getElem?_cons_succ] at z0 z4 z5 z6 z7 z8 z9 z10
      have hca : lightB y.c = true → y.c.a.size ≤ 1000000 := fun h => by unfold lightB at h; simp at h; omega
      have HCA := Lib.hid hca; clear hca
      generalize lightB y.c = b0 at KA HCA
      go_wp2_with fail
      refine (KA.out _).mono ?_
      rintro e w4 ⟨rfl, hb⟩
      have HP := Lib.hid (HP.out.below hb); have HZ := Lib.hid (HZ.out.bel hb)
      clear hb z0 z4 z5 z6 z7 z8 z9 z10 KA
      cases b0
      · go_wp2_with fail
        go_roundw
        case rel => exact ⟨k + 1, d, l, by omega, by omega, by go_num, by omega, HP.out.mono⟩
        case measure => simp [intOf]; omega
      have HCA := Lib.hid (show y.c.a.size ≤ 1000000 by have := HCA.out; simpa using this)
      have z0 := HZ.out.cell 0
      simp only [Ask.cells, List.getElem?_cons_zero, List.getElem?_cons_succ] at z0
      generalize y.k = kd at z0
      have HKD : kd = 1 ∨ ((kd == 1) = false ∧ kd = 2) ∨ ((kd == 1) = false ∧ (kd == 2) = false ∧ kd = 3) ∨ ((kd == 1) = false ∧ (kd == 2) = false ∧ (kd == 3) = false) := by
        simp only [beq_eq_false_iff_ne, ne_eq]
        omega
      rcases HKD with rfl | ⟨hk1, rfl⟩ | ⟨hk1, hk2, rfl⟩ | ⟨hk1, hk2, hk3⟩
      · go_upto_region 11 with (fail)
        clear z0
        obtain ⟨N, hN⟩ : ∃ N, N = noteB d y.r y.s y.c y.q := ⟨_, rfl⟩
        have HLN := Lib.hid (show (if N then putE l ⟨y.r, y.s, y.c, y.q⟩ else l).length ≤ k + 1 by
          split
          · have := putE_length l ⟨y.r, y.s, y.c, y.q⟩; omega
          · omega)
        have HST := Lib.hid (show ∀ W, Holds W ga 43 y.cells → (W.cell? ⟨ga, 1, none⟩ = some (.int .i64 y.q) ∧ W.cell? ⟨ga, 2, none⟩ = some (.int .i64 y.r) ∧ W.cell? ⟨ga, 3, none⟩ = some (.int .i64 y.s) ∧ W.cell? ⟨ga, 4, none⟩ = some (.int .i64 y.c.k) ∧ W.cell? ⟨ga, 5, none⟩ = some (.int .i64 y.c.c) ∧ W.cell? ⟨ga, 6, none⟩ = some (.int .i64 y.c.s) ∧ W.cell? ⟨ga, 7, none⟩ = some (.string y.c.a) ∧ W.cell? ⟨ga, 8, none⟩ = some (.string y.c.b) ∧ W.cell? ⟨ga, 9, none⟩ = some (.string y.c.o) ∧ W.cell? ⟨ga, 10, none⟩ = some (.string y.c.v)) from fun W h => ⟨h.cell 1, h.cell 2, h.cell 3, h.cell 4, h.cell 5, h.cell 6, h.cell 7, h.cell 8, h.cell 9, h.cell 10⟩)
        have H1 := Lib.hid (show ∀ W, Pl w W B gd g b k d l d l ∧ Holds W ga 43 y.cells → Calls Try.prog 9 #[.pointer (some ⟨g, 0, none⟩), .agg #[.int .i64 y.r, .int .i64 y.s], .agg #[.int .i64 y.c.k, .int .i64 y.c.c, .int .i64 y.c.s, .string y.c.a, .string y.c.b, .string y.c.o, .string y.c.v], .int .i64 y.q] W fun e W' => e = .returned (.bool N) ∧ Pl w W' B gd g b (k + 1) d (if N then putE l ⟨y.r, y.s, y.c, y.q⟩ else l) d l ∧ (W'.cell? ⟨ga, 1, none⟩ = some (.int .i64 y.q) ∧ W'.cell? ⟨ga, 2, none⟩ = some (.int .i64 y.r) ∧ W'.cell? ⟨ga, 3, none⟩ = some (.int .i64 y.s) ∧ W'.cell? ⟨ga, 4, none⟩ = some (.int .i64 y.c.k) ∧ W'.cell? ⟨ga, 5, none⟩ = some (.int .i64 y.c.c) ∧ W'.cell? ⟨ga, 6, none⟩ = some (.int .i64 y.c.s) ∧ W'.cell? ⟨ga, 7, none⟩ = some (.string y.c.a) ∧ W'.cell? ⟨ga, 8, none⟩ = some (.string y.c.b) ∧ W'.cell? ⟨ga, 9, none⟩ = some (.string y.c.o) ∧ W'.cell? ⟨ga, 10, none⟩ = some (.string y.c.v)) from fun W h => by
          rw [hN]
          refine (h.1.noteX (by omega) y.r y.s y.c y.q).mono ?_
          rintro e W' ⟨rfl, hp, ht⟩
          exact ⟨rfl, hp, HST.out W' (h.2.touch ht HZN.out.1)⟩)
        have H2 := Lib.hid (show ∀ W, Pl w W B gd g b (k + 1) d (if N then putE l ⟨y.r, y.s, y.c, y.q⟩ else l) d l → Calls Try.prog 19 #[.pointer (some ⟨gd, 0, none⟩), .agg #[.int .i64 y.r, .int .i64 y.s], .agg #[.int .i64 y.c.k, .int .i64 y.c.c, .int .i64 y.c.s, .string y.c.a, .string y.c.b, .string y.c.o, .string y.c.v], .int .i64 y.q] W fun e W' => e = .returned (.bool N) ∧ Pl w W' B gd g b (k + 1) d (if N then putE l ⟨y.r, y.s, y.c, y.q⟩ else l) d (if N then putE l ⟨y.r, y.s, y.c, y.q⟩ else l) from fun W h => by
          have := h.noteY HP.out.x.apart (by omega) y.r y.s y.c y.q
          rw [← hN] at this
          exact this)
        clear hN
        have hSn := HST.out w4.drew (HZ.out.bel (drew_below _ _))
        have HP := Lib.hid (show Pl w w4.drew B gd g b k d l d l ∧ Holds w4.drew ga 43 y.cells from ⟨HP.out.below (drew_below _ _), HZ.out.bel (drew_below _ _)⟩)
        clear HST HZ HZN
        generalize (if N then putE l ⟨y.r, y.s, y.c, y.q⟩ else l) = l' at H1 H2 HLN
        refine wp_region_noPanic ?_
        refine wp_region_late (S := fun W => W.cell? ⟨ga, 1, none⟩ = some (.int .i64 y.q) ∧ W.cell? ⟨ga, 2, none⟩ = some (.int .i64 y.r) ∧ W.cell? ⟨ga, 3, none⟩ = some (.int .i64 y.s) ∧ W.cell? ⟨ga, 4, none⟩ = some (.int .i64 y.c.k) ∧ W.cell? ⟨ga, 5, none⟩ = some (.int .i64 y.c.c) ∧ W.cell? ⟨ga, 6, none⟩ = some (.int .i64 y.c.s) ∧ W.cell? ⟨ga, 7, none⟩ = some (.string y.c.a) ∧ W.cell? ⟨ga, 8, none⟩ = some (.string y.c.b) ∧ W.cell? ⟨ga, 9, none⟩ = some (.string y.c.o) ∧ W.cell? ⟨ga, 10, none⟩ = some (.string y.c.v)) (X0 := [15]) (by as_aux_lemma => kernel_rfl) ?_
        generalize w4.drew = wd at HP hSn ⊢
        change wpAnyL _ _ _ _ _ _ 17 #[false, false, false, false, false, false, false, false, false, false, false, false, false, false, false, false, false] _ _
        refine wpAnyL_move (i := 0) (v := ?vy1) (some 34) rfl rfl (by as_aux_lemma => kernel_rfl) (by as_aux_lemma => kernel_rfl) (by as_aux_lemma => kernel_rfl) (by as_aux_lemma => kernel_rfl) (fun _ _ _ h => h) (Or.inl ⟨by rfl, ?hy1⟩) (fun _ => hSn) ?ry1
        case hy1 =>
          intro w _
          go_simp
          try with_reducible rfl
        simp only [Act.put, List.setIfInBounds_toArray, List.set_cons_zero, List.set_cons_succ]
        refine wpAnyL_move (i := 1) (v := ?vy2) (some 35) rfl rfl (by as_aux_lemma => kernel_rfl) (by as_aux_lemma => kernel_rfl) (by as_aux_lemma => kernel_rfl) (by as_aux_lemma => kernel_rfl) (fun _ _ _ h => h) (Or.inl ⟨by rfl, ?hy2⟩) (fun _ => hSn) ?ry2
        case hy2 =>
          intro w _
          go_simp
          try with_reducible rfl
        simp only [Act.put, List.setIfInBounds_toArray, List.set_cons_zero, List.set_cons_succ]
        refine wpAnyL_take (i := 2) (v := ?vy3) [7, 15] (some 36) rfl rfl (by as_aux_lemma => kernel_rfl) (by as_aux_lemma => kernel_rfl) (by as_aux_lemma => kernel_rfl) (by as_aux_lemma => kernel_rfl) (fun _ _ _ h => h) (Or.inl ⟨by rfl, ?hy3⟩) hSn ?ry3
        case hy3 =>
          intro w hSw
          obtain ⟨z1, z2, z3, z4, z5, z6, z7, z8, z9, z10⟩ := hSw
          go_simp
          try with_reducible rfl
        simp only [Act.put, List.setIfInBounds_toArray, List.set_cons_zero, List.set_cons_succ]
        refine wpAnyL_move (i := 3) (v := ?vy4) (some 37) rfl rfl (by as_aux_lemma => kernel_rfl) (by as_aux_lemma => kernel_rfl) (by as_aux_lemma => kernel_rfl) (by as_aux_lemma => kernel_rfl) (fun _ _ _ h => h) (Or.inl ⟨by rfl, ?hy4⟩) (fun _ => hSn) ?ry4
        case hy4 =>
          intro w _
          go_simp
          try with_reducible rfl
        simp only [Act.put, List.setIfInBounds_toArray, List.set_cons_zero, List.set_cons_succ]
        refine wpAnyL_take (i := 4) (v := ?vy5) [7, 15] (some 38) rfl rfl (by as_aux_lemma => kernel_rfl) (by as_aux_lemma => kernel_rfl) (by as_aux_lemma => kernel_rfl) (by as_aux_lemma => kernel_rfl) (fun _ _ _ h => h) (Or.inl ⟨by rfl, ?hy5⟩) hSn ?ry5
        case hy5 =>
          intro w hSw
          obtain ⟨z1, z2, z3, z4, z5, z6, z7, z8, z9, z10⟩ := hSw
          go_simp
          try with_reducible rfl
        simp only [Act.put, List.setIfInBounds_toArray, List.set_cons_zero, List.set_cons_succ]
        refine wpAnyL_move (i := 5) (v := ?vy6) (some 39) rfl rfl (by as_aux_lemma => kernel_rfl) (by as_aux_lemma => kernel_rfl) (by as_aux_lemma => kernel_rfl) (by as_aux_lemma => kernel_rfl) (fun _ _ _ h => h) (Or.inl ⟨by rfl, ?hy6⟩) (fun _ => hSn) ?ry6
        case hy6 =>
          intro w _
          go_simp
          try with_reducible rfl
        simp only [Act.put, List.setIfInBounds_toArray, List.set_cons_zero, List.set_cons_succ]
        refine wpAnyL_take (i := 6) (v := ?vy7) [7, 15] (some 40) rfl rfl (by as_aux_lemma => kernel_rfl) (by as_aux_lemma => kernel_rfl) (by as_aux_lemma => kernel_rfl) (by as_aux_lemma => kernel_rfl) (fun _ _ _ h => h) (Or.inl ⟨by rfl, ?hy7⟩) hSn ?ry7
        case hy7 =>
          intro w hSw
          obtain ⟨z1, z2, z3, z4, z5, z6, z7, z8, z9, z10⟩ := hSw
          go_simp
          try with_reducible rfl
        simp only [Act.put, List.setIfInBounds_toArray, List.set_cons_zero, List.set_cons_succ]
        refine wpAnyL_move (i := 8) (v := ?vy8) (some 42) rfl rfl (by as_aux_lemma => kernel_rfl) (by as_aux_lemma => kernel_rfl) (by as_aux_lemma => kernel_rfl) (by as_aux_lemma => kernel_rfl) (fun _ _ _ h => h) (Or.inl ⟨by rfl, ?hy8⟩) (fun _ => hSn) ?ry8
        case hy8 =>
          intro w _
          go_simp
          try with_reducible rfl
        simp only [Act.put, List.setIfInBounds_toArray, List.set_cons_zero, List.set_cons_succ]
        refine wpAnyL_move (i := 9) (v := ?vy9) (some 43) rfl rfl (by as_aux_lemma => kernel_rfl) (by as_aux_lemma => kernel_rfl) (by as_aux_lemma => kernel_rfl) (by as_aux_lemma => kernel_rfl) (fun _ _ _ h => h) (Or.inl ⟨by rfl, ?hy9⟩) (fun _ => hSn) ?ry9
        case hy9 =>
          intro w _
          go_simp
          try with_reducible rfl
        simp only [Act.put, List.setIfInBounds_toArray, List.set_cons_zero, List.set_cons_succ]
        refine wpAnyL_take (i := 10) (v := ?vy10) [15] (some 44) rfl rfl (by as_aux_lemma => kernel_rfl) (by as_aux_lemma => kernel_rfl) (by as_aux_lemma => kernel_rfl) (by as_aux_lemma => kernel_rfl) (fun _ _ _ h => h) (Or.inl ⟨by rfl, ?hy10⟩) hSn ?ry10
        case hy10 =>
          intro w hSw
          obtain ⟨z1, z2, z3, z4, z5, z6, z7, z8, z9, z10⟩ := hSw
          go_simp
          try with_reducible rfl
        simp only [Act.put, List.setIfInBounds_toArray, List.set_cons_zero, List.set_cons_succ]
        refine wpAnyL_move (i := 11) (v := ?vy11) (some 45) rfl rfl (by as_aux_lemma => kernel_rfl) (by as_aux_lemma => kernel_rfl) (by as_aux_lemma => kernel_rfl) (by as_aux_lemma => kernel_rfl) (fun _ _ _ h => h) (Or.inl ⟨by rfl, ?hy11⟩) (fun _ => hSn) ?ry11
        case hy11 =>
          intro w _
          go_simp
          try with_reducible rfl
        simp only [Act.put, List.setIfInBounds_toArray, List.set_cons_zero, List.set_cons_succ]
        refine wpAnyL_take (i := 12) (v := ?vy12) [15] (some 46) rfl rfl (by as_aux_lemma => kernel_rfl) (by as_aux_lemma => kernel_rfl) (by as_aux_lemma => kernel_rfl) (by as_aux_lemma => kernel_rfl) (fun _ _ _ h => h) (Or.inl ⟨by rfl, ?hy12⟩) hSn ?ry12
        case hy12 =>
          intro w hSw
          obtain ⟨z1, z2, z3, z4, z5, z6, z7, z8, z9, z10⟩ := hSw
          go_simp
          try with_reducible rfl
        simp only [Act.put, List.setIfInBounds_toArray, List.set_cons_zero, List.set_cons_succ]
        refine wpAnyL_move (i := 13) (v := ?vy13) (some 47) rfl rfl (by as_aux_lemma => kernel_rfl) (by as_aux_lemma => kernel_rfl) (by as_aux_lemma => kernel_rfl) (by as_aux_lemma => kernel_rfl) (fun _ _ _ h => h) (Or.inl ⟨by rfl, ?hy13⟩) (fun _ => hSn) ?ry13
        case hy13 =>
          intro w _
          go_simp
          try with_reducible rfl
        simp only [Act.put, List.setIfInBounds_toArray, List.set_cons_zero, List.set_cons_succ]
        refine wpAnyL_take (i := 14) (v := ?vy14) [15] (some 48) rfl rfl (by as_aux_lemma => kernel_rfl) (by as_aux_lemma => kernel_rfl) (by as_aux_lemma => kernel_rfl) (by as_aux_lemma => kernel_rfl) (fun _ _ _ h => h) (Or.inl ⟨by rfl, ?hy14⟩) hSn ?ry14
        case hy14 =>
          intro w hSw
          obtain ⟨z1, z2, z3, z4, z5, z6, z7, z8, z9, z10⟩ := hSw
          go_simp
          try with_reducible rfl
        simp only [Act.put, List.setIfInBounds_toArray, List.set_cons_zero, List.set_cons_succ]
        refine wpAnyL_ready (rs := [7]) (by as_aux_lemma => kernel_rfl) (by simp) ?_
        refine AllReadyL.cons rfl (fun K hK => ?_) (AllReadyL.nil)
        go_simp
        refine (H1.out _ HP.out).mono ?_
        rintro e w6 ⟨rfl, hp6, hs6⟩
        have HP := Lib.hid hp6
        clear hp6 hSn
        have hSn := hs6
        clear hs6
        refine hK.out _ _ (fun _ => hSn) ?_
        clear hK
        try simp only [Act.put, List.setIfInBounds_toArray, List.set_cons_zero, List.set_cons_succ]
        refine wpAnyL_ready (rs := [15]) (by as_aux_lemma => kernel_rfl) (by simp) ?_
        refine AllReadyL.cons rfl (fun K hK => ?_) (AllReadyL.nil)
        go_simp
        refine (H2.out _ HP.out).mono ?_
        rintro e w7 ⟨rfl, hp7⟩
        have HP := Lib.hid hp7
        clear hp7 hSn
        refine hK.out _ _ (notLate (by as_aux_lemma => kernel_rfl)) ?_
        clear hK
        try simp only [Act.put, List.setIfInBounds_toArray, List.set_cons_zero, List.set_cons_succ]
        refine wpAnyL_move (i := 16) (v := ?vy15) (some 50) rfl rfl (by as_aux_lemma => kernel_rfl) (by as_aux_lemma => kernel_rfl) (by as_aux_lemma => kernel_rfl) (by as_aux_lemma => kernel_rfl) (fun _ _ _ h => h) (Or.inl ⟨by rfl, ?hy15⟩) (notLate (by as_aux_lemma => kernel_rfl)) ?ry15
        case hy15 =>
          intro w _
          go_simp
          try with_reducible rfl
        simp only [Act.put, List.setIfInBounds_toArray, List.set_cons_zero, List.set_cons_succ]
        refine wpAnyL_done (by as_aux_lemma => kernel_rfl) ?_ _
        refine NoPanic.normal ?_
        clear H1 H2
        have hNN : (N != N) = false := by simp
        obtain ⟨p1, c1, p2, c2, p3, c3, hdoc⟩ := HP.out.y
        have hbx := hdoc.box
        have g0 := fun dd os => hbx.grown dd os 0
        have g3 := fun dd os => hbx.grown dd os 3
        have g4 := fun dd os => hbx.grown dd os 4
        have g5 := fun dd os => hbx.grown dd os 5
        have g6 := fun dd os => hbx.grown dd os 6
        have g7 := fun dd os => hbx.grown dd os 7
        have g8 := fun dd os => hbx.grown dd os 8
        have g9 := fun dd os => hbx.grown dd os 9
        simp only [cutL, List.getElem?_cons_zero, List.getElem?_cons_succ] at g0 g3 g4 g5 g6 g7 g8 g9
        clear hdoc hbx
        have K3 := Lib.hid (fun W' (h : Below w7.heap.size w7 W') => len_any g b (k + 1) d l' W' (HP.out.x.below h))
        have K4 := Lib.hid (fun W' (h : Below w7.heap.size w7 W') => cut_any g b (k + 1) d l' W' (HP.out.x.below h))
        have hnc := neq_cut d
        unfold cutL at K4
        go_upto_region 19 with (fail)
        refine wp_region_quiet_below (by as_aux_lemma => kernel_rfl) (by as_aux_lemma => kernel_rfl) ?_
        repeat go_big_quiet_step (first
          | (go_at_call 15; with_reducible exact calls_regrown K3.out)
          | (go_at_call 22; with_reducible exact calls_regrown K4.out))
        refine wpQuiet_nil ?_
        intro w8 hw'
        have HP := Lib.hid (HP.out.below (below_of_regrown hw'))
        clear hw' g0 g3 g4 g5 g6 g7 g8 g9 K3 K4 hnc
        go_wp2_with fail
        go_roundw
        case rel => exact ⟨k + 1, _, _, by omega, by omega, by go_num, HLN.out, HP.out⟩
        case measure => simp [intOf]; omega
      · go_upto_region 14 with (fail)
        clear z0 hk1
        have hr1 := fun dd os => HZ.out.grown dd os 2
        have hr2 := fun dd os => HZ.out.grown dd os 3
        have hc4 := fun dd os => HZ.out.grown dd os 4
        have hc5 := fun dd os => HZ.out.grown dd os 5
        have hc6 := fun dd os => HZ.out.grown dd os 6
        have hc7 := fun dd os => HZ.out.grown dd os 7
        have hc8 := fun dd os => HZ.out.grown dd os 8
        have hc9 := fun dd os => HZ.out.grown dd os 9
        have hc10 := fun dd os => HZ.out.grown dd os 10
        simp only [Ask.cells, List.getElem?_cons_zero, List.getElem?_cons_succ] at hr1 hr2 hc4 hc5 hc6 hc7 hc8 hc9 hc10
        have K1 := fun W' (h : Below w4.heap.size w4 W') => (HP.out.below h).attrX y.r y.s y.c (by first | exact HCA.out trivial | exact HCA.out)
        have K2 := fun W' (h : Below w4.heap.size w4 W') => (HP.out.below h).attrY (by omega) y.r y.s y.c (by first | exact HCA.out trivial | exact HCA.out)
        have hna := neq_att (attrQ l y.r y.s y.c) (attrD l d y.r y.s y.c)
        generalize attrQ l y.r y.s y.c = q0 at K1 K2 hna
        generalize attrD l d y.r y.s y.c = dd at K1 K2 hna
        simp only [attL, cutL] at K1 K2 hna
        have K1 := Lib.hid K1; have K2 := Lib.hid K2
        refine wp_region_quiet_below (by as_aux_lemma => kernel_rfl) (by as_aux_lemma => kernel_rfl) ?_
        repeat go_big_quiet_step (first
          | (go_at_call 12; with_reducible exact calls_regrown K1.out)
          | (go_at_call 20; with_reducible exact calls_regrown K2.out))
        refine wpQuiet_nil ?_
        intro w7 hw'
        have HP := Lib.hid (HP.out.below (below_of_regrown hw'))
        clear hw' hr1 hr2 hc4 hc5 hc6 hc7 hc8 hc9 hc10 K1 K2 hna HZ HZN
        obtain ⟨p1, c1, p2, c2, p3, c3, hdoc⟩ := HP.out.y
        have hbx := hdoc.box
        have g0 := fun dd os => hbx.grown dd os 0
        have g3 := fun dd os => hbx.grown dd os 3
        have g4 := fun dd os => hbx.grown dd os 4
        have g5 := fun dd os => hbx.grown dd os 5
        have g6 := fun dd os => hbx.grown dd os 6
        have g7 := fun dd os => hbx.grown dd os 7
        have g8 := fun dd os => hbx.grown dd os 8
        have g9 := fun dd os => hbx.grown dd os 9
        simp only [cutL, List.getElem?_cons_zero, List.getElem?_cons_succ] at g0 g3 g4 g5 g6 g7 g8 g9
        clear hdoc hbx
        have K3 := Lib.hid (fun W' (h : Below w7.heap.size w7 W') => len_any g b k d l W' (HP.out.x.below h))
        have K4 := Lib.hid (fun W' (h : Below w7.heap.size w7 W') => cut_any g b k d l W' (HP.out.x.below h))
        have hnc := neq_cut d
        unfold cutL at K4
        go_upto_region 19 with (fail)
        refine wp_region_quiet_below (by as_aux_lemma => kernel_rfl) (by as_aux_lemma => kernel_rfl) ?_
        repeat go_big_quiet_step (first
          | (go_at_call 15; with_reducible exact calls_regrown K3.out)
          | (go_at_call 22; with_reducible exact calls_regrown K4.out))
        refine wpQuiet_nil ?_
        intro w8 hw'
        have HP := Lib.hid (HP.out.below (below_of_regrown hw'))
        clear hw' g0 g3 g4 g5 g6 g7 g8 g9 K3 K4 hnc
        go_wp2_with fail
        go_roundw
        case rel => exact ⟨k + 1, _, _, by omega, by omega, by go_num, (by omega), HP.out.mono⟩
        case measure => simp [intOf]; omega
      · have u0 := HZ.out.cell 11
        have u1 := HZ.out.cell 12
        have u2 := HZ.out.cell 13
        have u3 := HZ.out.cell 14
        have u4 := HZ.out.cell 15
        have u5 := HZ.out.cell 16
        have u6 := HZ.out.cell 17
        simp only [Ask.cells, List.getElem?_cons_zero, List.getElem?_cons_succ] at u0 u1 u2 u3 u4 u5 u6
        have H1 := Lib.hid (HP.out.pruneX y.u)
        have HGD := Lib.hid HP.out.x.good
        unfold cutL at H1
        go_wp2_with fail
        refine H1.out.mono ?_
        rintro e w5 ⟨rfl, hp5, ht5⟩
        have HZ := Lib.hid (show Holds w5 ga 43 y.cells from by have hh := HZ.out; unfold Holds at hh ⊢; rw [ht5.block ga HZ.out.lt HZN.out.2 HZN.out.1]; exact hh)
        have HP := Lib.hid hp5
        clear hp5 ht5 H1 u0 u1 u2 u3 u4 u5 u6 z0 hk1 hk2
        have u0 := HZ.out.cell 11
        have u1 := HZ.out.cell 12
        have u2 := HZ.out.cell 13
        have u3 := HZ.out.cell 14
        have u4 := HZ.out.cell 15
        have u5 := HZ.out.cell 16
        have u6 := HZ.out.cell 17
        simp only [Ask.cells, List.getElem?_cons_zero, List.getElem?_cons_succ] at u0 u1 u2 u3 u4 u5 u6
        have H1 := Lib.hid (HP.out.pruneY HGD.out (by omega) y.u)
        unfold cutL at H1
        go_wp2_with fail
        refine H1.out.mono ?_
        rintro e w7 ⟨rfl, hp5⟩
        have HLN := Lib.hid (show (pruned l (newCut d y.u)).length ≤ k by
          have : (pruned l (newCut d y.u)).length ≤ l.length := List.length_filter_le _ _
          omega)
        have HP := Lib.hid hp5
        clear hp5 H1 u0 u1 u2 u3 u4 u5 u6 HZ HZN HGD
        generalize pruned l (newCut d y.u) = l' at HP HLN
        generalize newCut d y.u = d' at HP
        obtain ⟨p1, c1, p2, c2, p3, c3, hdoc⟩ := HP.out.y
        have hbx := hdoc.box
        have g0 := fun dd os => hbx.grown dd os 0
        have g3 := fun dd os => hbx.grown dd os 3
        have g4 := fun dd os => hbx.grown dd os 4
        have g5 := fun dd os => hbx.grown dd os 5
        have g6 := fun dd os => hbx.grown dd os 6
        have g7 := fun dd os => hbx.grown dd os 7
        have g8 := fun dd os => hbx.grown dd os 8
        have g9 := fun dd os => hbx.grown dd os 9
        simp only [cutL, List.getElem?_cons_zero, List.getElem?_cons_succ] at g0 g3 g4 g5 g6 g7 g8 g9
        clear hdoc hbx
        have K3 := Lib.hid (fun W' (h : Below w7.heap.size w7 W') => len_any g b k d' l' W' (HP.out.x.below h))
        have K4 := Lib.hid (fun W' (h : Below w7.heap.size w7 W') => cut_any g b k d' l' W' (HP.out.x.below h))
        have hnc := neq_cut d'
        unfold cutL at K4
        go_upto_region 19 with (fail)
        refine wp_region_quiet_below (by as_aux_lemma => kernel_rfl) (by as_aux_lemma => kernel_rfl) ?_
        repeat go_big_quiet_step (first
          | (go_at_call 15; with_reducible exact calls_regrown K3.out)
          | (go_at_call 22; with_reducible exact calls_regrown K4.out))
        refine wpQuiet_nil ?_
        intro w8 hw'
        have HP := Lib.hid (HP.out.below (below_of_regrown hw'))
        clear hw' g0 g3 g4 g5 g6 g7 g8 g9 K3 K4 hnc
        go_wp2_with fail
        go_roundw
        case rel => exact ⟨k + 1, _, _, by omega, by omega, by go_num, (by have := HLN.out; omega), HP.out.mono⟩
        case measure => simp [intOf]; omega
      · go_upto_region 19 with (fail)
        clear z0 hk1 hk2 hk3
        obtain ⟨p1, c1, p2, c2, p3, c3, hdoc⟩ := HP.out.y
        have hbx := hdoc.box
        have g0 := fun dd os => hbx.grown dd os 0
        have g3 := fun dd os => hbx.grown dd os 3
        have g4 := fun dd os => hbx.grown dd os 4
        have g5 := fun dd os => hbx.grown dd os 5
        have g6 := fun dd os => hbx.grown dd os 6
        have g7 := fun dd os => hbx.grown dd os 7
        have g8 := fun dd os => hbx.grown dd os 8
        have g9 := fun dd os => hbx.grown dd os 9
        simp only [cutL, List.getElem?_cons_zero, List.getElem?_cons_succ] at g0 g3 g4 g5 g6 g7 g8 g9
        clear hdoc hbx
        have K3 := Lib.hid (fun W' (h : Below w4.heap.size w4 W') => len_any g b k d l W' (HP.out.x.below h))
        have K4 := Lib.hid (fun W' (h : Below w4.heap.size w4 W') => cut_any g b k d l W' (HP.out.x.below h))
        have hnc := neq_cut d
        unfold cutL at K4
        refine wp_region_quiet_below (by as_aux_lemma => kernel_rfl) (by as_aux_lemma => kernel_rfl) ?_
        repeat go_big_quiet_step (first
          | (go_at_call 15; with_reducible exact calls_regrown K3.out)
          | (go_at_call 22; with_reducible exact calls_regrown K4.out))
        refine wpQuiet_nil ?_
        intro w8 hw'
        have HP := Lib.hid (HP.out.below (below_of_regrown hw'))
        clear hw' g0 g3 g4 g5 g6 g7 g8 g9 K3 K4 hnc
        go_wp2_with fail
        go_roundw
        case rel => exact ⟨k + 1, _, _, by omega, by omega, by go_num, (by omega), HP.out.mono⟩
        case measure => simp [intOf]; omega
    · have hend : (¬ k < len) ∨ (k < len ∧ ¬ k < 60) := by omega
      clear h12
      rcases hend with h1 | ⟨h1, h2⟩
      all_goals
        go_wp2_with fail
        refine (KR.out _).mono ?_
        rintro e w9 ⟨rfl, hb⟩
        have HB := Lib.hid (below_next HP.out.bel hb)
        clear hb
        go_wp2_with fail
        go_ret
        exact ⟨rfl, HB.out⟩
theorem interfPlays_rows (a : Option Addr) (len cap : Nat) (V : Nat → List Value) (w : World) (hV : IsRows w a len 18 V) (hA : ∀ i, i < len → AllOk askLeaves (V i) ∧ Fit reachBytes (V i)) (hlc : len ≤ cap) (hcm : cap ≤ maxLen) :
    Calls Try.prog 6 #[.slice a len cap] w fun e w' => e = .returned (.bool true) ∧ Below w.heap.size w w' := by
  obtain ⟨R, hR, hO⟩ := asks_at hA
  exact interfPlays_any a len cap R w (hV.cong hR) hO hlc hcm
end Go.Proofs.Ytleagecocffihaa
