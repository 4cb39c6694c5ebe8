import Derived.Test.YtkboojpkkhiceaaDoorHisTryP
set_option linter.unusedVariables false
set_option linter.unusedSimpArgs false
/- In plain: calls one behind the other fit just as a table answers them. -/
namespace Go.Proofs.YtkboojpkkhiceaaDoor

def tbl (xs : List HCmd) (j : Nat) : List Force := (xs.take j).foldl (fun t x => (doF t x).1) []
def ansW (w : Int) (j : Nat) (a : Ans) : Ans := if (j : Int) = w then ⟨a.e, a.rate, a.burst, a.lease, a.size + 1⟩ else a
def callW (xs : List HCmd) (w : Int) (j : Nat) : HCall := match xs[j]? with
  | some x => ⟨x, 2 * (j : Int) + 1, 2 * (j : Int) + 2, ansW w j (doF (tbl xs j) x).2⟩
  | none => ⟨⟨0, 0, 0, 0, 0, 0, 0, 0, 0, 0, 0, false, ⟨none, 0, 0⟩⟩, 0, 0, ⟨0, 0, 0, 0, 0⟩⟩
def callsW (xs : List HCmd) (w : Int) (n : Nat) : List HCall := (List.range n).map (callW xs w)
theorem callsW_len (xs : List HCmd) (w : Int) (n : Nat) : (callsW xs w n).length = n := by simp [callsW]
theorem callsW_succ (xs : List HCmd) (w : Int) (n : Nat) : callsW xs w (n + 1) = callsW xs w n ++ [callW xs w n] := by unfold callsW; rw [List.range_succ, List.map_append]; rfl
theorem tbl_zero (xs : List HCmd) : tbl xs 0 = [] := rfl
theorem tbl_succ {xs : List HCmd} {j : Nat} (h : j < xs.length) : tbl xs (j + 1) = (doF (tbl xs j) xs[j]).1 := by
  unfold tbl; rw [List.take_succ_eq_append_getElem h, List.foldl_append]; rfl
theorem callW_at {xs : List HCmd} {w : Int} {j : Nat} (h : j < xs.length) : callW xs w j = ⟨xs[j], 2 * (j : Int) + 1, 2 * (j : Int) + 2, ansW w j (doF (tbl xs j) xs[j]).2⟩ := by
  unfold callW; rw [List.getElem?_eq_getElem h]
theorem tbl_ok (xs : List HCmd) : ∀ j, tabOk (tbl xs j) = true := by
  intro j
  unfold tbl
  have key : ∀ (ys : List HCmd) (t : List Force), tabOk t = true → tabOk (ys.foldl (fun t x => (doF t x).1) t) = true := by
    intro ys
    induction ys with
    | nil => exact fun t h => h
    | cons y ys ih => exact fun t h => ih _ (tabOk_do h)
  exact key _ [] rfl
theorem do_size (t : List Force) (x : HCmd) : (doF t x).2.size = 0 := by
  unfold doF
  split
  · split
    · split <;> rfl
    · split
      · rfl
      · split <;> rfl
  · rfl
theorem bits_below (m j : Nat) : (2 ^ m - 1).testBit j = decide (j < m) := Nat.testBit_two_pow_sub_one m j
theorem bits_next (m : Nat) : (2 ^ m - 1) ||| 2 ^ m = 2 ^ (m + 1) - 1 := by
  apply Nat.eq_of_testBit_eq
  intro j
  rw [testBit_or, bits_below, bits_below]
  by_cases h1 : j < m
  · simp [h1]; omega
  · by_cases h2 : m = j
    · subst h2; simp
    · have h3 : ¬ j < m + 1 := by omega
      simp [h1, h2, h3]
theorem findSome_only {α : Type} {p : Nat → Option α} : ∀ {n m : Nat}, m < n → (∀ k, k < n → k ≠ m → p k = none) → (List.range n).findSome? p = p m
  | 0, _, h, _ => absurd h (Nat.not_lt_zero _)
  | n + 1, m, h, hn => by
    rw [List.range_succ, List.findSome?_append]
    by_cases e : m = n
    · subst e
      have h0 : (List.range m).findSome? p = none := List.findSome?_eq_none_iff.2 fun k hk => hn k (by have := List.mem_range.1 hk; omega) (by have := List.mem_range.1 hk; omega)
      rw [h0]; cases hp : p m <;> simp [hp]
    · rw [findSome_only (by omega : m < n) (fun k hk hne => hn k (by omega) hne)]
      have h0 := hn n (by omega) (fun h => e h.symm)
      cases hp : p m <;> simp [h0]
theorem one_to {xs : List HCmd} {w : Int} {n j : Nat} (hn : n ≤ xs.length) (hj : j < n) : toAt (callsW xs w n) j = 2 * (j : Int) + 2 ∧ frAt (callsW xs w n) j = 2 * (j : Int) + 1 := by
  have hl : j < (callsW xs w n).length := by rw [callsW_len]; exact hj
  have h : (callsW xs w n)[j] = callW xs w j := by simp [callsW]
  rw [toAt_eq hl, frAt_eq hl, h, callW_at (by omega)]
  exact ⟨rfl, rfl⟩
theorem one_S (xs : List HCmd) (w : Int) (hn : xs.length ≤ 12) : ∀ r m, m + r = xs.length → S (callsW xs w xs.length) (2 ^ m - 1) (tbl xs m) = if (m : Int) ≤ w ∧ w < (xs.length : Int) then none else some (List.range' m r)
  | 0, m, h => by
    have hm : m = xs.length := by omega
    rw [S_whole (by rw [callsW_len]; exact hn), if_neg (by omega)]
    · rfl
    · unfold wholeL
      rw [callsW_len, List.all_eq_true]
      intro j hj
      unfold wholeB
      rw [bits_below, decide_eq_true (by have := List.mem_range.1 hj; omega)]; simp
  | r + 1, m, h => by
    have hm : m < xs.length := by omega
    have hl : (callsW xs w xs.length).length ≤ 12 := by rw [callsW_len]; exact hn
    have hml : m < (callsW xs w xs.length).length := by rw [callsW_len]; exact hm
    have hmm : (callsW xs w xs.length)[m] = callW xs w m := by simp [callsW]
    have hto : ∀ {j : Nat}, j < xs.length → toAt (callsW xs w xs.length) j = 2 * (j : Int) + 2 ∧ frAt (callsW xs w xs.length) j = 2 * (j : Int) + 1 := fun hj => one_to (Nat.le_refl _) hj
    have hwh : wholeL (callsW xs w xs.length) (2 ^ m - 1) = false := by
      unfold wholeL
      refine range_all_bad hml ?_
      unfold wholeB
      rw [(hto hm).1, bits_below, decide_eq_false (by omega)]
      simp; omega
    have hb : (2 ^ m - 1).testBit m = false := by rw [bits_below]; exact decide_eq_false (by omega)
    have hwt : waitsL (callsW xs w xs.length) (2 ^ m - 1) m = false := by
      unfold waitsL
      rw [List.any_eq_false]
      intro j hj
      have hj2 : j < xs.length := by have := List.mem_range.1 hj; rw [callsW_len] at this; exact this
      unfold waitsB
      rw [(hto hj2).1, (hto hm).2, bits_below]
      simp
      intro h1 h2 _
      omega
    have hno : ∀ k, k < (callsW xs w xs.length).length → k ≠ m → tryK (callsW xs w xs.length) (S (callsW xs w xs.length)) (2 ^ m - 1) (tbl xs m) k = none := fun k hk hne => by
      have hk2 : k < xs.length := by rw [callsW_len] at hk; exact hk
      rcases Nat.lt_or_gt_of_ne hne with h1 | h1
      · exact try_bit (by rw [bits_below]; exact decide_eq_true h1)
      · refine try_wait ?_
        unfold waitsL
        refine range_any_hit hml ?_
        unfold waitsB
        rw [(hto hm).1, (hto hk2).2, bits_below]
        simp
        omega
    rw [T_end hl hwh]
    unfold T
    rw [findSome_only hml hno]
    by_cases hw : (m : Int) = w
    · rw [if_pos (by omega)]
      refine try_bad hml ?_ ?_
      · rw [hmm, callW_at hm]; show 2 * (m : Int) + 2 ≠ 0; omega
      · rw [hmm, callW_at hm]
        show (doF (tbl xs m) xs[m]).2 ≠ ansW w m _
        unfold ansW
        rw [if_pos hw]
        intro h2
        have h4 : (doF (tbl xs m) xs[m]).2.size = (doF (tbl xs m) xs[m]).2.size + 1 := congrArg Ans.size h2
        omega
    · rw [try_go hml hb hwt (.inr (by rw [hmm, callW_at hm]; show (doF (tbl xs m) xs[m]).2 = ansW w m _; unfold ansW; rw [if_neg hw])), bits_next, hmm, callW_at hm]
      show Option.map _ (S _ _ (doF (tbl xs m) xs[m]).1) = _
      rw [← tbl_succ hm, one_S xs w hn r (m + 1) (by omega)]
      by_cases h3 : ((m + 1 : Nat) : Int) ≤ w ∧ w < (xs.length : Int)
      · rw [if_pos h3, if_pos (by omega)]; rfl
      · rw [if_neg h3, if_neg (by omega)]; rfl
theorem one_chk (xs : List HCmd) (w : Int) (hn : xs.length ≤ 12) (ha : ∀ x ∈ xs, asksC x = true) : chkL (callsW xs w xs.length) = true := by
  unfold chkL
  rw [callsW_len, decide_eq_true hn, Bool.true_and, List.all_eq_true]
  intro x hx
  unfold callsW at hx
  obtain ⟨j, hj, rfl⟩ := List.mem_map.1 hx
  have hj2 := List.mem_range.1 hj
  rw [callW_at hj2]
  unfold callOk
  rw [ha _ (List.getElem_mem hj2), Bool.true_and]
  exact decide_eq_true ⟨by dsimp only; omega, .inr (by dsimp only; omega)⟩
end Go.Proofs.YtkboojpkkhiceaaDoor
