import Derived.Test.YtkboojpkkhiceaaDoorPackHistoryDoes1
set_option linter.unusedVariables false
set_option linter.unusedSimpArgs false
/- In plain: an order tried; what a search finds can be tried, and where it finds nothing no order can. -/
namespace Go.Proofs.YtkboojpkkhiceaaDoor

def runT (l : List HCall) : List Int → Nat → List Force → Bool
  | [], d, _ => wholeL l d
  | z :: ks, d, t => if z < 0 then false else match l[z.toNat]? with
    | none => false
    | some x => if d.testBit z.toNat || waitsL l d z.toNat then false else if x.to ≠ 0 ∧ (doF t x.cmd).2 ≠ x.ans then false else runT l ks (d ||| 2 ^ z.toNat) (doF t x.cmd).1
def tryF (l : List HCall) (os : List Int) : Bool × Int := if chkL l = true then (runT l os 0 [], 0) else (false, 2)
theorem run_out {l : List HCall} {z : Int} {ks : List Int} {d : Nat} {t : List Force} (h : z < 0 ∨ (l.length : Int) ≤ z) : runT l (z :: ks) d t = false := by
  unfold runT
  by_cases h0 : z < 0
  · rw [if_pos h0]
  · rw [if_neg h0, List.getElem?_eq_none (by omega)]
theorem run_no {l : List HCall} {k : Nat} {ks : List Int} {d : Nat} {t : List Force} (h : d.testBit k = true ∨ waitsL l d k = true) : runT l ((k : Int) :: ks) d t = false := by
  unfold runT
  rw [if_neg (by omega), Int.toNat_natCast]
  split
  · rfl
  · rw [if_pos (by rcases h with h | h <;> simp [h])]
theorem run_bad {l : List HCall} {k : Nat} {ks : List Int} {d : Nat} {t : List Force} (hk : k < l.length) (h1 : l[k].to ≠ 0) (h2 : (doF t l[k].cmd).2 ≠ l[k].ans) : runT l ((k : Int) :: ks) d t = false := by
  unfold runT
  rw [if_neg (by omega), Int.toNat_natCast, List.getElem?_eq_getElem hk]
  dsimp only
  split
  · rfl
  · rw [if_pos ⟨h1, h2⟩]
theorem run_go {l : List HCall} {k : Nat} {ks : List Int} {d : Nat} {t : List Force} (hk : k < l.length) (h0 : d.testBit k = false) (hw : waitsL l d k = false) (h1 : l[k].to = 0 ∨ (doF t l[k].cmd).2 = l[k].ans) : runT l ((k : Int) :: ks) d t = runT l ks (d ||| 2 ^ k) (doF t l[k].cmd).1 := by
  conv => lhs; unfold runT
  rw [if_neg (by omega), Int.toNat_natCast, List.getElem?_eq_getElem hk]
  dsimp only
  rw [if_neg (by simp [h0, hw]), if_neg (by rintro ⟨a, b⟩; rcases h1 with h | h; exact a h; exact b h)]
theorem run_drop {l : List HCall} {os : List Int} {i d : Nat} {t : List Force} (h : i < os.length) : runT l (os.drop i) d t = runT l (os[i] :: os.drop (i + 1)) d t := by rw [List.drop_eq_getElem_cons h]
theorem tryK_some {l : List HCall} {f : Nat → List Force → Option (List Nat)} {d : Nat} {t : List Force} {k : Nat} {r : List Nat} (h : tryK l f d t k = some r) :
    ∃ hk : k < l.length, ∃ rr, d.testBit k = false ∧ waitsL l d k = false ∧ (l[k].to = 0 ∨ (doF t l[k].cmd).2 = l[k].ans) ∧ f (d ||| 2 ^ k) (doF t l[k].cmd).1 = some rr ∧ r = k :: rr := by
  unfold tryK at h
  split at h
  · cases h
  · rename_i hb
    simp only [Bool.or_eq_true, not_or, Bool.not_eq_true] at hb
    split at h
    · cases h
    · rename_i x hx
      obtain ⟨hk, rfl⟩ := List.getElem?_eq_some_iff.1 hx
      split at h
      · cases h
      · rename_i hn
        obtain ⟨rr, h1, h2⟩ := Option.map_eq_some_iff.1 h
        exact ⟨hk, rr, hb.1, hb.2, by by_cases h0 : l[k].to = 0; exact .inl h0; exact .inr (Classical.byContradiction fun h3 => hn ⟨h0, h3⟩), h1, h2.symm⟩
/-- What is found can be tried. -/
theorem srch_run {l : List HCall} : ∀ (f d : Nat) (t : List Force) (r : List Nat), srch l f d t = some r → runT l (r.map fun k : Nat => (k : Int)) d t = true
  | 0, _, _, _, h => by cases h
  | f + 1, d, t, r, h => by
    have h2 : (if wholeL l d then some [] else (List.range l.length).findSome? (tryK l (srch l f) d t)) = some r := h
    split at h2
    · rename_i hw
      cases h2
      exact hw
    · obtain ⟨k, _, hk⟩ := List.exists_of_findSome?_eq_some h2
      obtain ⟨hlt, rr, h0, hw, h1, hf, rfl⟩ := tryK_some hk
      rw [List.map_cons, run_go hlt h0 hw h1]
      exact srch_run f _ _ rr hf
/-- Where some order can be tried something is found. -/
theorem run_srch {l : List HCall} : ∀ (f d : Nat) (t : List Force) (os : List Int), undone l d < f → runT l os d t = true → srch l f d t ≠ none
  | 0, _, _, _, h, _ => absurd h (Nat.not_lt_zero _)
  | f + 1, d, t, os, hu, h => by
    intro hn
    have h2 : (if wholeL l d then some [] else (List.range l.length).findSome? (tryK l (srch l f) d t)) = none := hn
    split at h2
    · cases h2
    · rename_i hw
      cases os with
      | nil => exact hw h
      | cons z os =>
        rcases Int.lt_or_le z 0 with h0 | h0
        · rw [run_out (.inl h0)] at h; cases h
        · obtain ⟨k, rfl⟩ : ∃ k : Nat, z = (k : Int) := ⟨z.toNat, by omega⟩
          by_cases hk : k < l.length
          · cases hb : d.testBit k with
            | true => rw [run_no (.inl hb)] at h; cases h
            | false =>
              cases hwt : waitsL l d k with
              | true => rw [run_no (.inr hwt)] at h; cases h
              | false =>
                by_cases h1 : l[k].to = 0 ∨ (doF t l[k].cmd).2 = l[k].ans
                · rw [run_go hk hb hwt h1] at h
                  have hlt := undone_lt hk hb
                  have h3 := run_srch f _ _ os (by omega) h
                  have h4 := (List.findSome?_eq_none_iff.1 h2) k (List.mem_range.2 hk)
                  rw [try_go hk hb hwt h1] at h4
                  rw [Option.map_eq_none_iff] at h4
                  exact h3 h4
                · rw [run_bad hk (fun h3 => h1 (.inl h3)) (fun h3 => h1 (.inr h3))] at h; cases h
          · rw [run_out (.inr (by omega))] at h; cases h
theorem S_run {l : List HCall} {d : Nat} {t : List Force} {r : List Nat} (h : S l d t = some r) : runT l (r.map fun k : Nat => (k : Int)) d t = true := srch_run _ d t r h
theorem S_none_run {l : List HCall} (hl : l.length ≤ 12) {d : Nat} {t : List Force} (h : S l d t = none) (os : List Int) : runT l os d t = false := by
  cases hr : runT l os d t with
  | false => rfl
  | true => exact absurd h (run_srch _ d t os (Nat.lt_succ_of_le (Nat.le_trans (undone_le l d) hl)) hr)
end Go.Proofs.YtkboojpkkhiceaaDoor
