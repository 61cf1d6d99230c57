/-
  Plain law on CRC-32 bits: no program in sight. 'on c l' is the sum; 'on_append': it goes on; 'on_unlike': bits turned within a window of 32 are told.
-/
namespace SumP
/-- one bit's move -/
def sh (c : Nat) : Nat := if c % 2 = 1 then (c / 2) ^^^ 3988292384 else c / 2
def shN : Nat → Nat → Nat
  | 0, c => c
  | n + 1, c => shN n (sh c)
def feed (c x : Nat) : Nat := shN 8 (c ^^^ x)
def crc (c : Nat) (l : List Nat) : Nat := l.foldl feed c
def inv (c : Nat) : Nat := 4294967295 - c
def on (c : Nat) (l : List Nat) : Nat := inv (crc (inv c) l)

theorem sh_lt {c : Nat} (h : c < 2 ^ 32) : sh c < 2 ^ 32 := by
  unfold sh
  split
  · exact Nat.xor_lt_two_pow (by omega) (by decide)
  · omega
theorem shN_lt {n c : Nat} (h : c < 2 ^ 32) : shN n c < 2 ^ 32 := by
  induction n generalizing c with
  | zero => exact h
  | succ n ih => exact ih (sh_lt h)
theorem shN_snoc (n c : Nat) : shN (n + 1) c = sh (shN n c) := by
  induction n generalizing c with
  | zero => rfl
  | succ n ih => exact ih (sh c)
theorem crc_snoc (c : Nat) (l : List Nat) (x : Nat) : crc c (l ++ [x]) = feed (crc c l) x := by simp [crc]
theorem crc_take (c : Nat) (l : List Nat) (k : Nat) (hk : k < l.length) : crc c (l.take (k + 1)) = feed (crc c (l.take k)) (l.getD k 0) := by
  rw [List.take_succ_eq_append_getElem hk, crc_snoc]
  congr 1
  simp [hk]
theorem getD_mem {l : List Nat} {k : Nat} (hk : k < l.length) : l.getD k 0 ∈ l := by simp [hk]
theorem feed_lt {c x : Nat} (h : c < 2 ^ 32) (hx : x < 256) : feed c x < 2 ^ 32 :=
  shN_lt (Nat.xor_lt_two_pow h (by omega))
theorem crc_lt {l : List Nat} {c : Nat} (h : c < 2 ^ 32) (hl : ∀ x ∈ l, x < 256) : crc c l < 2 ^ 32 := by
  induction l generalizing c with
  | nil => exact h
  | cons x l ih => exact ih (feed_lt h (hl x (by simp))) (fun y hy => hl y (by simp [hy]))
theorem inv_inv {c : Nat} (h : c < 2 ^ 32) : inv (inv c) = c := by unfold inv; omega
theorem inv_lt {c : Nat} : inv c < 2 ^ 32 := by unfold inv; omega
theorem on_lt (c : Nat) (l : List Nat) : on c l < 4294967296 := inv_lt
theorem on_append (c : Nat) (l m : List Nat) (hl : ∀ x ∈ l, x < 256) : on (on c l) m = on c (l ++ m) := by
  unfold on
  rw [inv_inv (crc_lt inv_lt hl)]
  simp [crc]
theorem on_nil (c : Nat) (h : c < 2 ^ 32) : on c [] = c := inv_inv h

theorem xor_mod2 (a b : Nat) : (a ^^^ b) % 2 = (a % 2 + b % 2) % 2 := by
  have := @Nat.xor_mod_two_eq_one a b
  omega
theorem xor_div2 (a b : Nat) : (a ^^^ b) / 2 = (a / 2) ^^^ (b / 2) := by
  have := @Nat.shiftRight_xor_distrib 1 a b
  simpa [Nat.shiftRight_succ] using this
theorem sh_xor (a b : Nat) : sh (a ^^^ b) = sh a ^^^ sh b := by
  unfold sh
  rw [xor_mod2, xor_div2]
  rcases Nat.mod_two_eq_zero_or_one a with ha | ha <;> rcases Nat.mod_two_eq_zero_or_one b with hb | hb <;> simp only [ha, hb]
  · simp
  · simp [Nat.xor_assoc]
  · simp
    ac_rfl
  · simp
    have : ∀ x y p : Nat, x ^^^ y = x ^^^ p ^^^ (y ^^^ p) := by
      intro x y p
      rw [Nat.xor_assoc, ← Nat.xor_assoc p, Nat.xor_comm p y, Nat.xor_assoc y, Nat.xor_self, Nat.xor_zero]
    exact this _ _ _
theorem shN_xor (n a b : Nat) : shN n (a ^^^ b) = shN n a ^^^ shN n b := by
  induction n generalizing a b with
  | zero => rfl
  | succ n ih => simp [shN, sh_xor, ih]
theorem sh_zero : sh 0 = 0 := by decide
theorem shN_zero (n : Nat) : shN n 0 = 0 := by
  induction n with
  | zero => rfl
  | succ n ih => simp [shN, sh_zero, ih]
theorem sh_eq_zero {c : Nat} (hc : c < 2 ^ 32) (h : sh c = 0) : c = 0 := by
  unfold sh at h
  split at h
  · exfalso
    have h2 : c / 2 = 3988292384 := by
      have := congrArg (· ^^^ 3988292384) h
      simpa [Nat.xor_assoc] using this
    omega
  · omega
theorem shN_eq_zero {n c : Nat} (hc : c < 2 ^ 32) (h : shN n c = 0) : c = 0 := by
  induction n generalizing c with
  | zero => exact h
  | succ n ih => exact sh_eq_zero hc (ih (sh_lt hc) h)

/-- bits fed one by one -/
def feedBits (c : Nat) (l : List Bool) : Nat := l.foldl (fun c b => sh (c ^^^ b.toNat)) c
theorem feedBits_append (c : Nat) (l m : List Bool) : feedBits c (l ++ m) = feedBits (feedBits c l) m := by simp [feedBits]
theorem feedBits_zeros (c n : Nat) : feedBits c (List.replicate n false) = shN n c := by
  induction n generalizing c with
  | zero => rfl
  | succ n ih => simp [List.replicate_succ, feedBits, shN] at *; exact ih _
/-- the number of bits, the first the lowest -/
def numOf : List Bool → Nat
  | [] => 0
  | b :: l => b.toNat + 2 * numOf l
theorem numOf_lt (l : List Bool) : numOf l < 2 ^ l.length := by
  induction l with
  | nil => simp [numOf]
  | cons b l ih => cases b <;> simp [numOf, Nat.pow_succ] <;> omega
theorem sh_double (x : Nat) : sh (2 * x) = x := by unfold sh; rw [if_neg (by omega)]; omega
theorem bit_add (b : Bool) (x : Nat) : b.toNat + 2 * x = b.toNat ^^^ (2 * x) := by
  cases b
  · simp
  · have := @Nat.two_pow_add_eq_or_of_lt 1 1 (by decide) x
    simp at this ⊢
    apply Nat.eq_of_testBit_eq
    intro i
    cases i with
    | zero => simp [Nat.testBit_zero]
    | succ i =>
      rw [Nat.testBit_xor, Nat.testBit_succ, Nat.testBit_succ, Nat.testBit_succ]
      have e1 : (1 + 2 * x) / 2 = x := by omega
      have e2 : 2 * x / 2 = x := by omega
      rw [e1, e2]; simp
theorem feedBits_eq (c : Nat) (l : List Bool) : feedBits c l = shN l.length (c ^^^ numOf l) := by
  induction l generalizing c with
  | nil => simp [feedBits, shN, numOf]
  | cons b l ih =>
    show feedBits (sh (c ^^^ b.toNat)) l = shN l.length (sh (c ^^^ (b.toNat + 2 * numOf l)))
    rw [ih, bit_add, ← Nat.xor_assoc, sh_xor _ (2 * numOf l), sh_double]
theorem feedBits_xor (c d : Nat) (l m : List Bool) (h : l.length = m.length) :
    feedBits c l ^^^ feedBits d m = feedBits (c ^^^ d) (List.zipWith Bool.xor l m) := by
  induction l generalizing c d m with
  | nil => cases m <;> simp_all [feedBits]
  | cons a l ih =>
    cases m with
    | nil => simp at h
    | cons b m =>
      show feedBits (sh (c ^^^ a.toNat)) l ^^^ feedBits (sh (d ^^^ b.toNat)) m = feedBits (sh (c ^^^ d ^^^ (a ^^ b).toNat)) (List.zipWith Bool.xor l m)
      rw [ih _ _ _ (by simpa using h), ← sh_xor]
      congr 2
      have : (a ^^ b).toNat = a.toNat ^^^ b.toNat := by cases a <;> cases b <;> rfl
      rw [this]; ac_rfl
/-- a byte's bits, the lowest first -/
def bitsOf (n x : Nat) : List Bool := (List.range n).map fun i => x.testBit i
theorem numOf_bitsOf (n x : Nat) (h : x < 2 ^ n) : numOf (bitsOf n x) = x := by
  induction n generalizing x with
  | zero => simp at h; subst h; rfl
  | succ n ih =>
    have e : bitsOf (n + 1) x = x.testBit 0 :: bitsOf n (x / 2) := by
      simp [bitsOf, List.range_succ_eq_map, Function.comp_def, Nat.testBit_succ]
    rw [e, numOf, ih _ (by rw [Nat.pow_succ] at h; omega)]
    rw [Nat.testBit_zero]
    rcases Nat.mod_two_eq_zero_or_one x with h | h <;> simp [h] <;> omega
theorem feed_bits (c x : Nat) (h : x < 256) : feed c x = feedBits c (bitsOf 8 x) := by
  rw [feedBits_eq, numOf_bitsOf 8 x h]; simp [bitsOf, feed]
def allBits (l : List Nat) : List Bool := l.flatMap (bitsOf 8)
theorem crc_bits (c : Nat) (l : List Nat) (hl : ∀ x ∈ l, x < 256) : crc c l = feedBits c (allBits l) := by
  induction l generalizing c with
  | nil => rfl
  | cons x l ih =>
    show crc (feed c x) l = feedBits c (bitsOf 8 x ++ allBits l)
    rw [feedBits_append, ih _ (fun y hy => hl y (by simp [hy])), feed_bits c x (hl x (by simp))]
theorem length_allBits (l : List Nat) : (allBits l).length = 8 * l.length := by
  induction l with
  | nil => rfl
  | cons x l ih => simp [allBits, bitsOf] at *; omega
theorem getElem_allBits (l : List Nat) (i : Nat) (h : i < 8 * l.length) : (allBits l)[i]? = some ((l.getD (i / 8) 0).testBit (i % 8)) := by
  induction l generalizing i with
  | nil => simp at h
  | cons x l ih =>
    show (bitsOf 8 x ++ allBits l)[i]? = _
    by_cases hi : i < 8
    · rw [List.getElem?_append_left (by simp [bitsOf]; omega)]
      have : i / 8 = 0 := by omega
      have e : i % 8 = i := by omega
      simp [this, e, bitsOf, hi]
    · rw [List.getElem?_append_right (by simp [bitsOf]; omega)]
      have := ih (i - 8) (by simp at h; omega)
      simp only [show (bitsOf 8 x).length = 8 by simp [bitsOf]]
      rw [this]
      have e1 : i / 8 = (i - 8) / 8 + 1 := by omega
      have e2 : i % 8 = (i - 8) % 8 := by omega
      rw [e1, e2]
      simp

/-- a list of bits that is nought ahead of 'a' and from 'a + 32' on gives nought only if it is nought -/
theorem window {l : List Bool} {a : Nat} (h1 : ∀ i : Nat, i < a → l[i]? ≠ some true) (h2 : ∀ i : Nat, a + 32 ≤ i → l[i]? ≠ some true)
    (h : feedBits 0 l = 0) : ∀ i : Nat, l[i]? ≠ some true := by
  have z : ∀ m : List Bool, (∀ i : Nat, ¬ m[i]? = some true) → m = List.replicate m.length false := by
    intro m hm
    apply List.ext_getElem?
    intro i
    have := hm i
    by_cases hi : i < m.length
    · rw [List.getElem?_eq_getElem hi] at this ⊢
      rw [List.getElem?_replicate]
      simp [hi] at this ⊢
      exact this
    · rw [List.getElem?_eq_none (by omega), List.getElem?_eq_none (by simp; omega)]
  have hl : l = l.take a ++ ((l.drop a).take 32 ++ (l.drop a).drop 32) := by rw [List.take_append_drop, List.take_append_drop]
  have ha : l.take a = List.replicate (l.take a).length false := z _ fun i => by
    rw [List.getElem?_take]; split
    · exact h1 i ‹_›
    · simp
  have hb : (l.drop a).drop 32 = List.replicate ((l.drop a).drop 32).length false := z _ fun i => by
    rw [List.getElem?_drop, List.getElem?_drop]; exact h2 _ (by omega)
  rw [hl, ha, hb, feedBits_append, feedBits_append, feedBits_zeros, feedBits_zeros, shN_zero, feedBits_eq] at h
  have hn : numOf ((l.drop a).take 32) < 2 ^ 32 :=
    Nat.lt_of_lt_of_le (numOf_lt _) (Nat.pow_le_pow_right (by decide) (by simp; omega))
  have h0 := shN_eq_zero (by rw [Nat.zero_xor]; exact hn) (shN_eq_zero (shN_lt (by rw [Nat.zero_xor]; exact hn)) h)
  rw [Nat.zero_xor] at h0
  have z2 : ∀ m : List Bool, numOf m = 0 → ∀ i : Nat, m[i]? ≠ some true := by
    intro m
    induction m with
    | nil => simp
    | cons b m ih =>
      intro hm i
      cases b
      · simp [numOf] at hm
        cases i with
        | zero => simp
        | succ i => simpa using ih (by omega) i
      · simp [numOf] at hm
  intro i
  by_cases hi : i < a
  · exact h1 i hi
  · by_cases hi2 : a + 32 ≤ i
    · exact h2 i hi2
    · have := z2 _ h0 (i - a)
      rw [List.getElem?_take, if_pos (by omega), List.getElem?_drop] at this
      rwa [show a + (i - a) = i by omega] at this

/-- two lists of bytes of one length whose bits differ only in a window of 32 have one sum just if they are the same -/
theorem on_unlike (c a : Nat) (p q : List Nat) (hlen : p.length = q.length) (hp : ∀ x ∈ p, x < 256) (hq : ∀ x ∈ q, x < 256)
    (hw : ∀ i, i < 8 * p.length → (i < a ∨ a + 32 ≤ i) → (p.getD (i / 8) 0).testBit (i % 8) = (q.getD (i / 8) 0).testBit (i % 8)) :
    on c p = on c q ↔ ∀ i, i < 8 * p.length → (p.getD (i / 8) 0).testBit (i % 8) = (q.getD (i / 8) 0).testBit (i % 8) := by
  have hlen2 : (allBits p).length = (allBits q).length := by rw [length_allBits, length_allBits, hlen]
  have key : ∀ i, (List.zipWith Bool.xor (allBits p) (allBits q))[i]? = if i < 8 * p.length then some (((p.getD (i / 8) 0).testBit (i % 8)) ^^ ((q.getD (i / 8) 0).testBit (i % 8))) else none := by
    intro i
    rw [List.getElem?_zipWith]
    by_cases hi : i < 8 * p.length
    · rw [getElem_allBits p i (by omega), getElem_allBits q i (by omega), if_pos hi]
    · rw [List.getElem?_eq_none (by rw [length_allBits]; omega), if_neg hi]
  have e : on c p = on c q ↔ feedBits 0 (List.zipWith Bool.xor (allBits p) (allBits q)) = 0 := by
    have l1 := crc_lt (c := inv c) inv_lt hp
    have l2 := crc_lt (c := inv c) inv_lt hq
    have fx := feedBits_xor (inv c) (inv c) _ _ hlen2
    rw [Nat.xor_self, ← crc_bits _ _ hp, ← crc_bits _ _ hq] at fx
    rw [← fx]
    unfold on
    constructor
    · intro h
      have : crc (inv c) p = crc (inv c) q := by
        have := congrArg inv h
        rwa [inv_inv l1, inv_inv l2] at this
      rw [this, Nat.xor_self]
    · intro h
      have : crc (inv c) p = crc (inv c) q := by
        have := congrArg (· ^^^ crc (inv c) q) h
        simpa [Nat.xor_assoc] using this
      rw [this]
  rw [e]
  constructor
  · intro h i hi
    have hk : ∀ j : Nat, (j < a ∨ a + 32 ≤ j) → (List.zipWith Bool.xor (allBits p) (allBits q))[j]? ≠ some true := by
      intro j hja
      rw [key]
      by_cases hj : j < 8 * p.length
      · rw [if_pos hj, hw j hj hja]; simp
      · rw [if_neg hj]; simp
    have := window (a := a) (fun i hia => hk i (.inl hia)) (fun i hia => hk i (.inr hia)) h i
    rw [key, if_pos hi] at this
    simpa using this
  · intro h
    have z : List.zipWith Bool.xor (allBits p) (allBits q) = List.replicate (8 * p.length) false := by
      apply List.ext_getElem?
      intro i
      rw [key, List.getElem?_replicate]
      split
      · rw [h i ‹_›, Bool.xor_self]
      · rfl
    rw [z, feedBits_zeros, shN_zero]
end SumP
