import Derived.Test.YtmihgdjnjfjjcaaWirThings
import Derived.Test.YtmihgdjnjfjjcaaPackFollowAsks1
set_option linter.unusedVariables false
set_option linter.unusedSimpArgs false
/- Rows of entries, in plain: what may be, the last one's term, the terms of all. -/
namespace Go.Proofs.Ytmihgdjnjfjjcaa

/-- May an entry be behind one of the term t? -/
def mayE (t : Int) (x : WEnt) : Bool := decide (1 ≤ x.term ∧ t ≤ x.term ∧ 0 ≤ x.stamp ∧ 0 ≤ x.kind ∧ x.kind ≤ 2 ∧ (x.kind = 1 ↔ x.set.toNat ≠ 0) ∧ (x.kind = 2 ∨ x.data.length = 0) ∧ x.data.length ≤ 16384)
def lastT : Int → List WEnt → Int
  | t, [] => t
  | _, x :: es => lastT x.term es
def goodEs : Int → List WEnt → Bool
  | _, [] => true
  | t, x :: es => mayE t x && goodEs x.term es
theorem lastT_append (xs ys : List WEnt) : ∀ t, lastT t (xs ++ ys) = lastT (lastT t xs) ys := by
  induction xs with
  | nil => exact fun _ => rfl
  | cons x xs ih => exact fun t => ih x.term
theorem goodEs_append (xs ys : List WEnt) : ∀ t, goodEs t (xs ++ ys) = (goodEs t xs && goodEs (lastT t xs) ys) := by
  induction xs with
  | nil => exact fun _ => rfl
  | cons x xs ih => intro t; show (mayE t x && goodEs x.term (xs ++ ys)) = _; rw [ih]; simp [goodEs, lastT, Bool.and_assoc]
theorem lastT_take {t : Int} {es : List WEnt} {k : Nat} (h : k < es.length) : lastT t (es.take (k + 1)) = es[k].term := by
  rw [List.take_succ_eq_append_getElem h, lastT_append]; rfl
theorem goodEs_take {t : Int} {es : List WEnt} {k : Nat} (h : k < es.length) : goodEs t (es.take (k + 1)) = (goodEs t (es.take k) && mayE (lastT t (es.take k)) es[k]) := by
  rw [List.take_succ_eq_append_getElem h, goodEs_append]; simp [goodEs]
theorem goodEs_not {t : Int} {es : List WEnt} {k : Nat} (h : k < es.length) (hm : mayE (lastT t (es.take k)) es[k] = false) : goodEs t es = false := by
  have e : es = es.take (k + 1) ++ es.drop (k + 1) := (List.take_append_drop _ _).symm
  rw [e, goodEs_append, goodEs_take h, hm]; simp
/-- Rows that may be: from b on, behind the term t. -/
def headR (b t : Int) (n : Nat) : Bool := decide (0 ≤ b ∧ n ≤ 4096 ∧ b ≤ 1099511627776 - (n : Int) ∧ 0 ≤ t ∧ (b = 0 ↔ t = 0))
def okR (b t : Int) (es : List WEnt) : Bool := headR b t es.length && goodEs t es
theorem okR_head {b t : Int} {es : List WEnt} (h : headR b t es.length = false) : okR b t es = false := by unfold okR; rw [h]; rfl
theorem okR_iff {b t : Int} {es : List WEnt} : okR b t es = true ↔ headR b t es.length = true ∧ goodEs t es = true := by unfold okR; rw [Bool.and_eq_true]
theorem headR_iff {b t : Int} {n : Nat} : headR b t n = true ↔ (0 ≤ b ∧ n ≤ 4096 ∧ b ≤ 1099511627776 - (n : Int) ∧ 0 ≤ t ∧ (b = 0 ↔ t = 0)) := by unfold headR; exact decide_eq_true_iff
theorem headR_not {b t : Int} {n : Nat} : headR b t n = false ↔ ¬ (0 ≤ b ∧ n ≤ 4096 ∧ b ≤ 1099511627776 - (n : Int) ∧ 0 ≤ t ∧ (b = 0 ↔ t = 0)) := by unfold headR; exact decide_eq_false_iff_not
/-- The terms of all that rows hold, of what they begin behind ahead. -/
def terms (t : Int) (es : List WEnt) : List Int := t :: es.map WEnt.term
theorem terms_length (t : Int) (es : List WEnt) : (terms t es).length = es.length + 1 := by simp [terms]
theorem terms_last (t : Int) (es : List WEnt) : lastT t es = (terms t es).getD es.length 0 := by
  induction es generalizing t with
  | nil => rfl
  | cons x es ih => show lastT x.term es = (terms x.term es).getD es.length 0; exact ih x.term
theorem terms_zero (t : Int) (es : List WEnt) : (terms t es).getD 0 0 = t := rfl
theorem terms_succ {t : Int} {es : List WEnt} {k : Nat} (h : k < es.length) : (terms t es).getD (k + 1) 0 = es[k].term := by
  show (es.map WEnt.term).getD k 0 = _
  rw [List.getD_eq_getElem?_getD, List.getElem?_map, List.getElem?_eq_getElem h]; rfl
theorem lastT_nil {t : Int} {es : List WEnt} (h : es.length = 0) : lastT t es = t := by
  rw [List.length_eq_zero_iff.1 h]; rfl
theorem lastT_get {t : Int} {es : List WEnt} (h : 0 < es.length) : lastT t es = (es[es.length - 1]'(by omega)).term := by
  rw [terms_last]
  have e : es.length = (es.length - 1) + 1 := by omega
  conv => lhs; rw [e]
  exact terms_succ (by omega)
/-- Term: what stands at an index of rows that may be. -/
def termR (b t : Int) (es : List WEnt) (i : Int) : Int := if b ≤ i ∧ i ≤ b + es.length then (terms t es).getD (i - b).toNat 0 else 0
def hasR (b : Int) (es : List WEnt) (i : Int) : Bool := decide (b ≤ i ∧ i ≤ b + es.length)
end Go.Proofs.Ytmihgdjnjfjjcaa

/- Progress and what is committed, in plain. -/
namespace Go.Proofs.Ytmihgdjnjfjjcaa

/-- The match of a node in a row of progress; 0 where it has none. -/
def matOf : List Prg → Int → Int
  | [], _ => 0
  | p :: l, k => if p.node = k then p.mat else matOf l k
/-- Is node k (1 to 7) in a set? -/
def inSet (set : Nat) (k : Nat) : Bool := decide (1 ≤ k ∧ k ≤ 7 ∧ set / 2 ^ (k - 1) % 2 = 1)
def mval (self last : Int) (l : List Prg) (k : Nat) : Int := if (k : Int) = self then last else min (matOf l k) last
/-- What the nodes 1 to j of a set match. -/
def mats (set : Nat) (self last : Int) (l : List Prg) : Nat → List Int
  | 0 => []
  | j + 1 => mats set self last l j ++ (if inSet set (j + 1) then [mval self last l (j + 1)] else [])
theorem mats_len (set : Nat) (self last : Int) (l : List Prg) : ∀ j, (mats set self last l j).length ≤ j
  | 0 => Nat.le_refl _
  | j + 1 => by
    have := mats_len set self last l j
    unfold mats
    split <;> simp <;> omega
/-- How many nodes, of 1 to j, are in a set. -/
def sizeS (set : Nat) : Nat → Nat
  | 0 => 0
  | j + 1 => sizeS set j + (if inSet set (j + 1) then 1 else 0)
theorem mats_length (set : Nat) (self last : Int) (l : List Prg) : ∀ j, (mats set self last l j).length = sizeS set j
  | 0 => rfl
  | j + 1 => by unfold mats sizeS; rw [List.length_append, mats_length]; split <;> rfl
theorem sizeS_le (set : Nat) : ∀ j, sizeS set j ≤ j
  | 0 => Nat.le_refl _
  | j + 1 => by have := sizeS_le set j; unfold sizeS; split <;> omega
/-- Does node k match up to i? -/
def yesS (set : Nat) (self : Int) (l : List Prg) (i : Int) (k : Nat) : Bool := inSet set k && (decide ((k : Int) = self) || decide (i ≤ matOf l k))
def cntS (set : Nat) (self : Int) (l : List Prg) (i : Int) : Nat → Nat
  | 0 => 0
  | j + 1 => cntS set self l i j + (if yesS set self l i (j + 1) then 1 else 0)
theorem cntS_le (set : Nat) (self : Int) (l : List Prg) (i : Int) : ∀ j, cntS set self l i j ≤ sizeS set j
  | 0 => Nat.le_refl _
  | j + 1 => by
    have := cntS_le set self l i j
    unfold cntS sizeS yesS
    cases inSet set (j + 1) <;> simp
    · exact this
    · split <;> omega
theorem cnt_mats (set : Nat) (self last : Int) (l : List Prg) (i : Int) (hi : i ≤ last) : ∀ j, (mats set self last l j).countP (fun m => decide (i ≤ m)) = cntS set self l i j
  | 0 => rfl
  | j + 1 => by
    unfold mats cntS
    rw [List.countP_append, cnt_mats set self last l i hi j]
    congr 1
    unfold yesS
    cases inSet set (j + 1)
    · rfl
    · simp only [if_true, Bool.true_and, List.countP_singleton, mval]
      by_cases hs : ((j + 1 : Nat) : Int) = self
      · rw [if_pos hs]; simp [hi, hs]
      · rw [if_neg hs]
        have e : decide (i ≤ min (matOf l (j + 1 : Nat)) last) = decide (i ≤ matOf l (j + 1 : Nat)) := by
          rw [decide_eq_decide]; omega
        have e2 : decide (((j + 1 : Nat) : Int) = self) = false := decide_eq_false hs
        rw [e, e2, Bool.false_or]
/-- In a row that falls, just the first ones are as great as any number. -/
theorem down_at {i : Int} : ∀ (s : List Int) (_ : s.Pairwise (fun a b => b ≤ a)) (j : Nat) (h : j < s.length), i ≤ s[j] ↔ j < s.countP (fun m => decide (i ≤ m))
  | [], _, j, h => absurd h (Nat.not_lt_zero _)
  | x :: s, hp, j, h => by
    obtain ⟨h1, h2⟩ := List.pairwise_cons.1 hp
    by_cases hx : i ≤ x
    · rw [List.countP_cons_of_pos (by simpa using hx)]
      cases j with
      | zero => simp [hx]
      | succ j => rw [List.getElem_cons_succ, down_at s h2 j (by simpa using h)]; omega
    · rw [List.countP_cons_of_neg (by simpa using hx)]
      have h0 : s.countP (fun m => decide (i ≤ m)) = 0 := by
        rw [List.countP_eq_zero]; intro y hy; have := h1 y hy; simp; omega
      rw [h0]
      cases j with
      | zero => simp; omega
      | succ j =>
        have := h1 (s[j]'(by simpa using h)) (List.getElem_mem _)
        simp; omega
theorem most_iff {s l : List Int} (hp : s.Perm l) (hs : s.Pairwise (fun a b => b ≤ a)) (h0 : 0 < l.length) (i : Int) :
    i ≤ s[l.length / 2]'(by rw [hp.length_eq]; omega) ↔ l.length < 2 * l.countP (fun m => decide (i ≤ m)) := by
  rw [down_at s hs, hp.countP_eq]; omega
/-- The greatest index from lo on, at most lo + j, of which f holds; c where there is none. -/
def bestUp (f : Int → Bool) (lo c : Int) : Nat → Int
  | 0 => c
  | j + 1 => if f (lo + (j + 1 : Nat)) then lo + (j + 1 : Nat) else bestUp f lo c j
theorem bestUp_skip {f : Int → Bool} {lo c : Int} {j : Nat} : ∀ n, (∀ m, j < m → m ≤ j + n → f (lo + (m : Nat)) = false) → bestUp f lo c (j + n) = bestUp f lo c j
  | 0, _ => rfl
  | n + 1, h => by
    show (if f (lo + (j + n + 1 : Nat)) then _ else bestUp f lo c (j + n)) = _
    rw [if_neg (by rw [h (j + n + 1) (by omega) (by omega)]; exact Bool.false_ne_true)]
    exact bestUp_skip n (fun m h1 h2 => h m h1 (by omega))
theorem bestUp_is {f : Int → Bool} {lo c : Int} : ∀ j, bestUp f lo c j = c ∨ (f (bestUp f lo c j) = true ∧ lo < bestUp f lo c j ∧ bestUp f lo c j ≤ lo + j)
  | 0 => .inl rfl
  | j + 1 => by
    unfold bestUp
    by_cases h : f (lo + (j + 1 : Nat)) = true
    · rw [if_pos h]; exact .inr ⟨h, by omega, by omega⟩
    · rw [if_neg h]
      rcases bestUp_is (f := f) (lo := lo) (c := c) j with h1 | ⟨h1, h2, h3⟩
      · exact .inl h1
      · exact .inr ⟨h1, h2, by omega⟩
/-- Is what stands at i committed, in the term: does a majority match it? -/
def comAt (b t : Int) (es : List WEnt) (set : Nat) (self term : Int) (l : List Prg) (i : Int) : Bool := decide (termR b t es i = term) && decide (sizeS set 7 < 2 * cntS set self l i 7)
def comR (b t : Int) (es : List WEnt) (set : Nat) (self term com : Int) (l : List Prg) : Int := bestUp (comAt b t es set self term l) (max com b) com (b + es.length - max com b).toNat
/-- Commit: the index, the error. -/
def commitF (b t : Int) (es : List WEnt) (set : Nat) (self term com : Int) (l : List Prg) : Int × Int :=
  if okR b t es = true then (if com < 0 ∨ b + es.length < com ∨ term < 1 ∨ sizeS set 7 = 0 then (0, 2) else (comR b t es set self term com l, 0)) else (0, 90)
end Go.Proofs.Ytmihgdjnjfjjcaa

/- A row sorted from the greatest on by inserting: in plain. -/
namespace Go.Proofs.Ytmihgdjnjfjjcaa

def sw (l : List Int) (j : Nat) : List Int := (l.set j (l.getD (j - 1) 0)).set (j - 1) (l.getD j 0)
theorem sw_length (l : List Int) (j : Nat) : (sw l j).length = l.length := by simp [sw]
theorem getD_of {l : List Int} {k : Nat} (h : k < l.length) : l.getD k 0 = l[k] := by
  rw [List.getD_eq_getElem?_getD, List.getElem?_eq_getElem h]; rfl
theorem sw_perm {l : List Int} {j : Nat} (h : j < l.length) : (sw l j).Perm l := by
  unfold sw
  rw [getD_of h, getD_of (show j - 1 < l.length by omega)]
  exact List.set_set_perm h (by omega)
theorem sw_at {l : List Int} {j : Nat} (h : j < l.length) (q : Nat) : (sw l j).getD q 0 = if q = j - 1 then l.getD j 0 else if q = j then l.getD (j - 1) 0 else l.getD q 0 := by
  have h1 : j - 1 < l.length := by omega
  unfold sw
  rw [List.getD_eq_getElem?_getD, List.getElem?_set]
  by_cases a : q = j - 1
  · rw [if_pos a.symm, if_pos a, if_pos (by rw [List.length_set]; omega)]; rfl
  · rw [if_neg (fun e => a e.symm), if_neg a, List.getElem?_set]
    by_cases b : q = j
    · rw [if_pos b.symm, if_pos b, if_pos (by omega)]; rfl
    · rw [if_neg (fun e => b e.symm), if_neg b, ← List.getD_eq_getElem?_getD]
/-- The first i + 1 fall, but for the one at j. -/
def SB (l : List Int) (i j : Nat) : Prop := ∀ p q, p < q → q ≤ i → q ≠ j → l.getD q 0 ≤ l.getD p 0
def Srt (l : List Int) (i : Nat) : Prop := ∀ p q, p < q → q ≤ i → l.getD q 0 ≤ l.getD p 0
theorem SB.step {l : List Int} {i j : Nat} (h : SB l i j) (h1 : 1 ≤ j) (h2 : j ≤ i) (h3 : i < l.length) (h4 : l.getD (j - 1) 0 < l.getD j 0) : SB (sw l j) i (j - 1) := by
  intro p q hpq hq hne
  rw [sw_at (by omega), sw_at (by omega), if_neg hne]
  by_cases a : q = j
  · rw [if_pos a]
    by_cases b : p = j - 1
    · rw [if_pos b]; omega
    · rw [if_neg b, if_neg (by omega)]
      exact h p (j - 1) (by omega) (by omega) (by omega)
  · rw [if_neg a]
    by_cases b : p = j - 1
    · rw [if_pos b]; exact h j q (by omega) hq a
    · rw [if_neg b]
      by_cases c : p = j
      · rw [if_pos c]; exact h (j - 1) q (by omega) hq a
      · rw [if_neg c]; exact h p q hpq hq a
theorem SB.done {l : List Int} {i j : Nat} (h : SB l i j) (h2 : j ≤ i) (h4 : j = 0 ∨ l.getD j 0 ≤ l.getD (j - 1) 0) : Srt l i := by
  intro p q hpq hq
  by_cases a : q = j
  · subst a
    rcases h4 with h4 | h4
    · omega
    · by_cases b : p = q - 1
      · subst b; exact h4
      · exact Int.le_trans h4 (h p (q - 1) (by omega) (by omega) (by omega))
  · exact h p q hpq hq a
theorem Srt.next {l : List Int} {i : Nat} (h : Srt l i) : SB l (i + 1) (i + 1) := fun p q hpq hq hne => h p q hpq (by omega)
theorem Srt.zero (l : List Int) : Srt l 0 := fun p q hpq hq => by omega
theorem Srt.pair {l : List Int} {i : Nat} (h : Srt l i) (hi : l.length ≤ i + 1) : l.Pairwise (fun a b => b ≤ a) := by
  rw [List.pairwise_iff_getElem]
  intro p q hp hq hpq
  have := h p q hpq (by omega)
  rw [getD_of hp, getD_of hq] at this
  exact this
end Go.Proofs.Ytmihgdjnjfjjcaa

/- What is committed, by the middle one of what is matched: in plain. -/
namespace Go.Proofs.Ytmihgdjnjfjjcaa

theorem mats_le (set : Nat) (self last : Int) (l : List Prg) : ∀ j, ∀ x ∈ mats set self last l j, x ≤ last
  | 0, x, h => by cases h
  | j + 1, x, h => by
    unfold mats at h
    rcases List.mem_append.1 h with h | h
    · exact mats_le set self last l j x h
    · split at h
      · rw [List.mem_singleton] at h; subst h
        unfold mval; split <;> omega
      · cases h
section
variable {b t : Int} {es : List WEnt} {set : Nat} {self term com : Int} {l : List Prg}
theorem com_at {s : List Int} (hp : s.Perm (mats set self (b + es.length) l 7)) (hs : s.Pairwise (fun a b => b ≤ a)) (h0 : 0 < sizeS set 7) {i : Int} (hi : i ≤ b + es.length) :
    comAt b t es set self term l i = (decide (termR b t es i = term) && decide (i ≤ s.getD (sizeS set 7 / 2) 0)) := by
  have hl : (mats set self (b + es.length) l 7).length = sizeS set 7 := mats_length _ _ _ _ _
  have hsl : s.length = sizeS set 7 := hp.length_eq.trans hl
  have hm := most_iff hp hs (by rw [hl]; exact h0) i
  rw [← getD_of, cnt_mats set self _ l i hi 7, hl] at hm
  unfold comAt
  congr 1
  rw [decide_eq_decide, ← hm]
theorem most_le {s : List Int} (hp : s.Perm (mats set self (b + es.length) l 7)) (h0 : 0 < sizeS set 7) : s.getD (sizeS set 7 / 2) 0 ≤ b + es.length := by
  have hl : (mats set self (b + es.length) l 7).length = sizeS set 7 := mats_length _ _ _ _ _
  have hsl : s.length = sizeS set 7 := hp.length_eq.trans hl
  rw [getD_of (by rw [hsl]; omega)]
  exact mats_le _ _ _ _ _ _ (hp.mem_iff.1 (List.getElem_mem _))
theorem comR_at {m : Int} (h1 : com < m) (h2 : b < m) (h3 : m ≤ b + es.length) (h4 : comAt b t es set self term l m = true) (h5 : ∀ i, m < i → i ≤ b + es.length → comAt b t es set self term l i = false) : comR b t es set self term com l = m := by
  unfold comR
  have e : (b + es.length - max com b).toNat = (m - max com b).toNat + (b + es.length - m).toNat := by omega
  rw [e, bestUp_skip _ (fun k hk1 hk2 => h5 _ (by omega) (by omega))]
  obtain ⟨k, hk⟩ : ∃ k, (m - max com b).toNat = k + 1 := ⟨(m - max com b).toNat - 1, by omega⟩
  rw [hk]
  have em : max com b + ((k + 1 : Nat) : Int) = m := by omega
  unfold bestUp
  rw [em, if_pos h4]
theorem comR_none (h5 : ∀ i, max com b < i → i ≤ b + es.length → comAt b t es set self term l i = false) : comR b t es set self term com l = com := by
  unfold comR
  have := bestUp_skip (f := comAt b t es set self term l) (lo := max com b) (c := com) (j := 0) (b + es.length - max com b).toNat (fun k hk1 hk2 => h5 _ (by omega) (by omega))
  rw [Nat.zero_add] at this
  exact this
end
theorem commitF_not {b t : Int} {es : List WEnt} {set : Nat} {self term com : Int} {l : List Prg} (h : okR b t es = false) : commitF b t es set self term com l = (0, 90) := if_neg (by rw [h]; exact Bool.false_ne_true)
theorem commitF_arg {b t : Int} {es : List WEnt} {set : Nat} {self term com : Int} {l : List Prg} (h : okR b t es = true) (h2 : com < 0 ∨ b + es.length < com ∨ term < 1 ∨ sizeS set 7 = 0) : commitF b t es set self term com l = (0, 2) := by
  unfold commitF; rw [if_pos h, if_pos h2]
theorem commitF_ok {b t : Int} {es : List WEnt} {set : Nat} {self term com : Int} {l : List Prg} (h : okR b t es = true) (h2 : ¬ (com < 0 ∨ b + es.length < com ∨ term < 1 ∨ sizeS set 7 = 0)) : commitF b t es set self term com l = (comR b t es set self term com l, 0) := by
  unfold commitF; rw [if_pos h, if_neg h2]
end Go.Proofs.Ytmihgdjnjfjjcaa
