/- Plain mathematics of CRC-32 on natural numbers: no program in sight. -/
namespace Go.Proofs.Ytlckgnemmffdkaa

def crcBit (r : Nat) : Nat := if r % 2 = 1 then (r / 2) ^^^ 3988292384 else r / 2
def crcBits : Nat → Nat → Nat
  | 0, r => r
  | n + 1, r => crcBits n (crcBit r)
def crcByte (r : Nat) (c : UInt8) : Nat := crcBits 8 (r ^^^ c.toNat)
def crcMore (r : Nat) (l : List UInt8) : Nat := l.foldl crcByte r
/-- The sum of more bytes behind a sum. -/
def sumMore (s : Nat) (l : List UInt8) : Nat := 4294967295 - crcMore (4294967295 - s) l

theorem crcBit_lt {r : Nat} (h : r < 4294967296) : crcBit r < 4294967296 := by
  unfold crcBit; split
  · exact Nat.xor_lt_two_pow (n := 32) (by omega) (by omega)
  · omega
theorem crcBits_lt (n : Nat) : ∀ {r : Nat}, r < 4294967296 → crcBits n r < 4294967296 := by
  induction n with
  | zero => exact fun h => h
  | succ n ih => exact fun h => ih (crcBit_lt h)
theorem xor_byte_lt {r : Nat} (c : UInt8) (h : r < 4294967296) : r ^^^ c.toNat < 4294967296 :=
  Nat.xor_lt_two_pow (n := 32) (by omega) (by have := c.toNat_lt; omega)
theorem crcByte_lt {r : Nat} (c : UInt8) (h : r < 4294967296) : crcByte r c < 4294967296 := crcBits_lt 8 (xor_byte_lt c h)
theorem crcMore_lt (l : List UInt8) : ∀ {r : Nat}, r < 4294967296 → crcMore r l < 4294967296 := by
  induction l with
  | nil => exact fun h => h
  | cons c l ih => exact fun h => ih (crcByte_lt c h)
theorem crcBits_succ (n : Nat) : ∀ r, crcBits (n + 1) r = crcBit (crcBits n r) := by
  induction n with
  | zero => intro r; rfl
  | succ n ih => intro r; exact ih (crcBit r)
theorem crcBits_add (m n : Nat) : ∀ r, crcBits (m + n) r = crcBits n (crcBits m r) := by
  induction m with
  | zero => intro r; simp [crcBits]
  | succ m ih => intro r; rw [Nat.add_right_comm]; exact ih (crcBit r)
theorem crcMore_snoc (r : Nat) (l : List UInt8) (c : UInt8) : crcMore r (l ++ [c]) = crcByte (crcMore r l) c := by simp [crcMore]
theorem crcMore_append (r : Nat) (l m : List UInt8) : crcMore r (l ++ m) = crcMore (crcMore r l) m := by simp [crcMore]
theorem crcMore_take {l : List UInt8} {k : Nat} (r : Nat) (h : k < l.length) : crcMore r (l.take (k + 1)) = crcByte (crcMore r (l.take k)) l[k] := by
  rw [List.take_succ_eq_append_getElem h, crcMore_snoc]
theorem sumMore_lt (s : Nat) (l : List UInt8) : sumMore s l < 4294967296 := by unfold sumMore; omega
theorem sumMore_nil (s : Nat) (h : s ≤ 4294967295) : sumMore s [] = s := by unfold sumMore crcMore; simp only [List.foldl_nil]; omega
theorem sumMore_append {s : Nat} (l m : List UInt8) : sumMore s (l ++ m) = sumMore (sumMore s l) m := by
  have h := crcMore_lt l (r := 4294967295 - s) (by omega)
  unfold sumMore
  rw [crcMore_append, show 4294967295 - (4294967295 - crcMore (4294967295 - s) l) = crcMore (4294967295 - s) l from by omega]

theorem flat_take {α : Type} {ls : List (List α)} {k : Nat} (h : k < ls.length) : (ls.take (k + 1)).flatten = (ls.take k).flatten ++ ls[k] := by
  rw [List.take_succ_eq_append_getElem h, List.flatten_append, List.flatten_cons, List.flatten_nil, List.append_nil]

/-! The bits of a burst. -/
theorem crcBit_xor (a b : Nat) : crcBit (a ^^^ b) = crcBit a ^^^ crcBit b := by
  have hm : (a ^^^ b) % 2 = (a + b) % 2 := by
    have := Nat.xor_mod_two_pow (a := a) (b := b) (n := 1)
    rw [show (2 : Nat) ^ 1 = 2 from rfl] at this
    rw [this]
    rcases Nat.mod_two_eq_zero_or_one a with ha | ha <;> rcases Nat.mod_two_eq_zero_or_one b with hb | hb <;> rw [ha, hb] <;> simp <;> omega
  have hd : (a ^^^ b) / 2 = a / 2 ^^^ b / 2 := by
    have := Nat.shiftRight_xor_distrib (a := a) (b := b) (i := 1)
    simpa [Nat.shiftRight_eq_div_pow] using this
  unfold crcBit
  rw [hm, hd]
  by_cases ha : a % 2 = 1 <;> by_cases hb : b % 2 = 1
  · have : ¬ (a + b) % 2 = 1 := by omega
    rw [if_neg this, if_pos ha, if_pos hb]
    apply Nat.eq_of_testBit_eq; intro i; simp only [Nat.testBit_xor]
    cases (a / 2).testBit i <;> cases (b / 2).testBit i <;> cases Nat.testBit 3988292384 i <;> rfl
  · have : (a + b) % 2 = 1 := by omega
    rw [if_pos this, if_pos ha, if_neg hb]
    apply Nat.eq_of_testBit_eq; intro i; simp only [Nat.testBit_xor]
    cases (a / 2).testBit i <;> cases (b / 2).testBit i <;> cases Nat.testBit 3988292384 i <;> rfl
  · have : (a + b) % 2 = 1 := by omega
    rw [if_pos this, if_neg ha, if_pos hb]
    apply Nat.eq_of_testBit_eq; intro i; simp only [Nat.testBit_xor]
    cases (a / 2).testBit i <;> cases (b / 2).testBit i <;> cases Nat.testBit 3988292384 i <;> rfl
  · have : ¬ (a + b) % 2 = 1 := by omega
    rw [if_neg this, if_neg ha, if_neg hb]
theorem crcBits_xor (n : Nat) : ∀ a b, crcBits n (a ^^^ b) = crcBits n a ^^^ crcBits n b := by
  induction n with
  | zero => intro a b; rfl
  | succ n ih => intro a b; simp only [crcBits]; rw [crcBit_xor, ih]
theorem crcBits_shift (n : Nat) : ∀ v, crcBits n (v * 2 ^ n) = v := by
  induction n with
  | zero => intro v; simp [crcBits]
  | succ n ih =>
    intro v
    have : crcBit (v * 2 ^ (n + 1)) = v * 2 ^ n := by
      unfold crcBit
      have e : v * 2 ^ (n + 1) = 2 * (v * 2 ^ n) := by rw [Nat.pow_succ]; simp [Nat.mul_comm, Nat.mul_left_comm]
      rw [e, if_neg (by omega), Nat.mul_div_cancel_left _ (by omega)]
    simp only [crcBits]; rw [this, ih]
theorem crcBit_pos {r : Nat} (h0 : r ≠ 0) (h : r < 4294967296) : crcBit r ≠ 0 := by
  unfold crcBit
  split
  · intro e
    have e2 : r / 2 = 3988292384 := by
      have := congrArg (· ^^^ 3988292384) e
      simpa [Nat.xor_assoc] using this
    omega
  · omega
theorem crcBits_pos (n : Nat) : ∀ {r : Nat}, r ≠ 0 → r < 4294967296 → crcBits n r ≠ 0 := by
  induction n with
  | zero => exact fun h _ => h
  | succ n ih => exact fun h0 h => ih (crcBit_pos h0 h) (crcBit_lt h)

/-- Bytes as one number, the first byte lowest. -/
def val : List UInt8 → Nat
  | [] => 0
  | c :: l => c.toNat ^^^ (val l * 2 ^ 8)
theorem crcMore_val (l : List UInt8) : ∀ r, crcMore r l = crcBits (8 * l.length) (r ^^^ val l) := by
  induction l with
  | nil => intro r; simp [crcMore, val, crcBits]
  | cons c l ih =>
    intro r
    show crcMore (crcByte r c) l = _
    rw [ih, List.length_cons, Nat.mul_add, Nat.add_comm (8 * l.length), crcBits_add, val, ← Nat.xor_assoc, crcBits_xor 8, crcBits_shift]
    rfl
theorem val_xor_shift (a b n : Nat) : (a ^^^ b) * 2 ^ n = (a * 2 ^ n) ^^^ (b * 2 ^ n) := by
  simp only [← Nat.shiftLeft_eq]; exact Nat.shiftLeft_xor_distrib
theorem val_set (l : List UInt8) : ∀ (k : Nat) (h : k < l.length) (c : UInt8), val (l.set k (l[k] ^^^ c)) = val l ^^^ (c.toNat * 2 ^ (8 * k)) := by
  induction l with
  | nil => intro k h; simp at h
  | cons x l ih =>
    intro k h c
    cases k with
    | zero => simp [val]; rw [Nat.xor_assoc, Nat.xor_assoc, Nat.xor_comm c.toNat]
    | succ k =>
      simp only [List.set_cons_succ, List.getElem_cons_succ, val]
      rw [ih k (by simpa using h), val_xor_shift, Nat.xor_assoc, Nat.mul_assoc, ← Nat.pow_add]
      rfl
/-- A burst of at most 32 bits turns the sum. -/
theorem burst_ne {l m : List UInt8} {bits at_ : Nat} (hlen : m.length = l.length) (hb0 : bits ≠ 0) (hb : bits < 4294967296) (hat : at_ ≤ 8 * l.length)
    (hv : val m = val l ^^^ (bits * 2 ^ at_)) : sumMore 0 m ≠ sumMore 0 l := by
  intro e
  have hl := crcMore_lt l (r := 4294967295 - 0) (by omega)
  have hm := crcMore_lt m (r := 4294967295 - 0) (by omega)
  unfold sumMore at e
  have e2 : crcMore (4294967295 - 0) m = crcMore (4294967295 - 0) l := by omega
  rw [crcMore_val, crcMore_val, hlen, hv, ← Nat.xor_assoc, crcBits_xor] at e2
  have e3 : crcBits (8 * l.length) (bits * 2 ^ at_) = 0 := by
    have := congrArg (fun z => crcBits (8 * l.length) (4294967295 - 0 ^^^ val l) ^^^ z) e2
    simpa [← Nat.xor_assoc] using this
  obtain ⟨d, hd⟩ := Nat.le.dest hat
  rw [← hd, crcBits_add, crcBits_shift] at e3
  exact crcBits_pos d hb0 hb e3
end Go.Proofs.Ytlckgnemmffdkaa
