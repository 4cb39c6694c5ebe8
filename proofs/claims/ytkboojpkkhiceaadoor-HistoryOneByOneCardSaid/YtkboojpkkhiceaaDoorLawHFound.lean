import Derived.Test.YtkboojpkkhiceaaDoorHisWakes
import Derived.Test.YtkboojpkkhiceaaDoorHisTry
set_option linter.unusedVariables false
set_option linter.unusedSimpArgs false
/- What is found fits; where nothing is found nothing fits: the walk of HistoryFound. (printed by gen_hisfound.py) -/
namespace Go.Proofs.YtkboojpkkhiceaaDoor
open Go.ChangeShapes Go.WideShapes Go.ChangeAt Go.RowKit
set_option maxRecDepth 100000

theorem srch_len {l : List HCall} : ∀ (f d : Nat) (t : List Force) (r : List Nat), srch l f d t = some r → r.length ≤ f
  | 0, _, _, _, h => by cases h
  | f + 1, d, t, r, h => by
    have h2 : (if wholeL l d then some [] else (List.range l.length).findSome? (tryK l (srch l f) d t)) = some r := h
    split at h2
    · cases h2; exact Nat.zero_le _
    · obtain ⟨k, _, hk⟩ := List.exists_of_findSome?_eq_some h2
      obtain ⟨hlt, rr, h0, hw, h1, hf, rfl⟩ := tryK_some hk
      have := srch_len f _ _ rr hf
      simp only [List.length_cons]; omega
theorem S_len {l : List HCall} {d : Nat} {t : List Force} {r : List Nat} (h : S l d t = some r) : r.length ≤ 13 := srch_len _ d t r h
theorem row_far {w : World} {a : Option Addr} {l : List HCall} (hr : LRow layCal w a l) : l = [] ∨ ∀ b o s, a = some ⟨b, o, s⟩ → b < w.heap.size := by
  by_cases h0 : l = []
  · exact .inl h0
  · refine .inr fun b o s e => ?_
    have hne : l.flatMap layCal.cells ≠ [] := fun h => by
      have h4 := congrArg List.length h
      rw [layCal.length, List.length_nil, Nat.mul_eq_zero] at h4
      have := layCal.pos
      rcases h4 with h4 | h4
      · exact h0 (List.eq_nil_of_length_eq_zero h4)
      · omega
    rcases hr with h | ⟨b', o', h, hc⟩
    · exact absurd h hne
    · rw [e] at h
      simp only [Option.some.injEq, Addr.mk.injEq] at h
      obtain ⟨rfl, rfl, rfl⟩ := h
      exact Row.lt (.inr ⟨_, _, rfl, hc⟩) hne
theorem nums_cast (r : List Nat) : nums r = (r.map fun k : Nat => (k : Int)).map (Value.int .i64) := by unfold nums; rw [List.map_map]; rfl
set_option maxHeartbeats 8000000 in
theorem law_hfound (a1 a2 : Option Addr) (l : List HCall) (os : List Int) (n1 c1 n2 c2 : Nat) (w : World) (h1 : l.length = n1) (h2 : os.length = n2) (r1 : LRow layCal w a1 l) (r2 : Row w a2 (os.map (Value.int .i64)))
    (z1 : n1 ≤ maxLen) (z2 : n2 ≤ maxLen) (htab : Lib.TabIs Tryd.prog w "internal/strconv.uint64pow10" .u64 Lib.pow10Tab) :
    Calls Tryd.prog 7 #[.slice a1 n1 c1, .slice a2 n2 c2] w fun e w' => e = .returned (.bool true) ∧ Below w.heap.size w w' := by
  subst h1 h2
  have hz1 := lt_maxLen z1
  have hz2 := lt_maxLen z2
  have WK := Lib.hid (fun w' (hb : Below w.heap.size w w') => wakes_any w' ((Lib.tabBelow_of_tabIs htab).on hb).here)
  have HB0 : Hid (Below w.heap.size w w) := Below.refl _ _
  have HC := Lib.hid (fun w' (hb : Below w.heap.size w w') => hcheck_any l a1 l.length c1 w' rfl z1 (LRow.below r1 hb))
  by_cases hs1 : 7 < l.length
  · have d1 : decide ((7 : Int) < (l.length : Int)) = true := decide_eq_true (by omega)
    clear r1 r2 htab
    go_enter Tryd.func7, Tryd.ntmps7
    go_wp2_with (go_at_call 8; ((with_reducible refine (WK.out _ HB0.out).mono ?_); rintro e w9 ⟨rfl, hb⟩; have HB9 := Lib.hid (HB0.out.trans (hb.mono HB0.out.size)); clear hb))
    go_returns
    exact ⟨rfl, HB9.out⟩
  have d1 : decide ((7 : Int) < (l.length : Int)) = false := decide_eq_false (by omega)
  by_cases hs2 : 60 < os.length
  · have d2 : decide ((60 : Int) < (os.length : Int)) = true := decide_eq_true (by omega)
    clear r1 r2 htab
    go_enter Tryd.func7, Tryd.ntmps7
    go_wp2_with (go_at_call 8; ((with_reducible refine (WK.out _ HB0.out).mono ?_); rintro e w9 ⟨rfl, hb⟩; have HB9 := Lib.hid (HB0.out.trans (hb.mono HB0.out.size)); clear hb))
    go_returns
    exact ⟨rfl, HB9.out⟩
  have d2 : decide ((60 : Int) < (os.length : Int)) = false := decide_eq_false (by omega)
  cases hck : chkL l with
  | false =>
    rw [hck] at HC
    clear r1 r2 htab hck
    go_enter Tryd.func7, Tryd.ntmps7
    go_wp2_with (first
      | (go_at_call 12; ((with_reducible refine (HC.out _ HB0.out).mono ?_); rintro e w1 ⟨rfl, hb⟩; have HB1 := Lib.hid (HB0.out.trans (hb.mono HB0.out.size)); clear hb))
      | (go_at_call 8; ((with_reducible refine (WK.out _ HB1.out).mono ?_); rintro e w9 ⟨rfl, hb⟩; have HB9 := Lib.hid (HB1.out.trans (hb.mono HB1.out.size)); clear hb)))
    go_returns
    exact ⟨rfl, HB9.out⟩
  | true =>
  rw [hck] at HC
  have HF := Lib.hid (fun w' (hb : Below w.heap.size w w') => hfits_any l a1 l.length c1 w' rfl (by omega) (LRow.below r1 hb) ((row_far r1).imp id (fun h b o s e => Nat.lt_of_lt_of_le (h b o s e) hb.size)) ((Lib.tabBelow_of_tabIs htab).on hb).here)
  cases hS : S l 0 [] with
  | none =>
    have HFF := Lib.hid (fits_none hck hS)
    have hno : tryF l os = (false, 0) := by unfold tryF; rw [if_pos hck, S_none_run (by omega) hS os]
    have HT := Lib.hid (fun w' (hb : Below w.heap.size w w') => htry_any l os a1 a2 l.length c1 os.length c2 w' rfl rfl z1 z2 (LRow.below r1 hb) (Row.below r2 hb))
    rw [hno] at HT
    clear r1 r2 htab hck hS hno
    go_enter Tryd.func7, Tryd.ntmps7
    go_wp2_with (first
      | (go_at_call 12; ((with_reducible refine (HC.out _ HB0.out).mono ?_); rintro e w1 ⟨rfl, hb⟩; have HB1 := Lib.hid (HB0.out.trans (hb.mono HB0.out.size)); clear hb))
      | (go_at_call 14; ((with_reducible refine (HF.out _ HB1.out).mono ?_); intro e w2 hret; rw [RetFits, HFF.out] at hret; obtain ⟨a8, c8, rfl, hr2, hc2, hb⟩ := hret; have HB2 := Lib.hid (HB1.out.trans (hb.mono HB1.out.size)); have HR2 := Lib.hid hr2; clear hb hr2))
      | (go_at_call 16; ((with_reducible refine (HT.out _ HB2.out).mono ?_); rintro e w3 ⟨rfl, hb⟩; have HB3 := Lib.hid (HB2.out.trans (hb.mono HB2.out.size)); clear hb))
      | (go_at_call 8; ((with_reducible refine (WK.out _ HB3.out).mono ?_); rintro e w9 ⟨rfl, hb⟩; have HB9 := Lib.hid (HB3.out.trans (hb.mono HB3.out.size)); clear hb)))
    go_returns
    exact ⟨rfl, HB9.out⟩
  | some r =>
    have HFF := Lib.hid (fits_some hck hS)
    have hyes : tryF l (r.map fun k : Nat => (k : Int)) = (true, 0) := by unfold tryF; rw [if_pos hck, S_run hS]
    have hlen := S_len hS
    have HT := Lib.hid (fun w' (hb : Below w.heap.size w w') a c (hr : Row w' a (nums r)) => htry_any l (r.map fun k : Nat => (k : Int)) a1 a l.length c1 r.length c w' rfl (List.length_map _) z1 (le_maxLen (by omega)) (LRow.below r1 hb) (by rw [← nums_cast]; exact hr))
    rw [hyes] at HT
    clear r1 r2 htab hck hS hyes
    go_enter Tryd.func7, Tryd.ntmps7
    go_wp2_with (first
      | (go_at_call 12; ((with_reducible refine (HC.out _ HB0.out).mono ?_); rintro e w1 ⟨rfl, hb⟩; have HB1 := Lib.hid (HB0.out.trans (hb.mono HB0.out.size)); clear hb))
      | (go_at_call 14; ((with_reducible refine (HF.out _ HB1.out).mono ?_); intro e w2 hret; rw [RetFits, HFF.out] at hret; obtain ⟨a8, c8, rfl, hr2, hc2, hb⟩ := hret; have HB2 := Lib.hid (HB1.out.trans (hb.mono HB1.out.size)); have HR2 := Lib.hid hr2; clear hb hr2))
      | (go_at_call 16; ((with_reducible refine (HT.out _ HB2.out _ _ HR2.out).mono ?_); rintro e w3 ⟨rfl, hb⟩; have HB3 := Lib.hid (HB2.out.trans (hb.mono HB2.out.size)); clear hb))
      | (go_at_call 8; ((with_reducible refine (WK.out _ HB3.out).mono ?_); rintro e w9 ⟨rfl, hb⟩; have HB9 := Lib.hid (HB3.out.trans (hb.mono HB3.out.size)); clear hb)))
    go_returns
    exact ⟨rfl, HB9.out⟩
end Go.Proofs.YtkboojpkkhiceaaDoor
