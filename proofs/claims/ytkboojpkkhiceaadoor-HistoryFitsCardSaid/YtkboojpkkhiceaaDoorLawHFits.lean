import Derived.Test.YtkboojpkkhiceaaDoorHisWakes
import Derived.Test.YtkboojpkkhiceaaDoorHisFitsR
set_option linter.unusedVariables false
set_option linter.unusedSimpArgs false
/- Whether there is an order, and the first one: the walk of HistoryFits. (printed by gen_hislfits.py) -/
namespace Go.Proofs.YtkboojpkkhiceaaDoor
open Go.ChangeShapes Go.WideShapes Go.ChangeAt Go.RowKit
set_option maxRecDepth 100000

theorem fits_len (l : List HCall) : (fitsF l).1.length ≤ 13 := by
  unfold fitsF
  split
  · split
    · rename_i r hS; exact srch_le l 13 0 [] r hS
    · simp
  · simp
theorem cals_far {w : World} {a : Option Addr} {l : List HCall} (hr : LRow layCal w a l) : l = [] ∨ ∀ b o s, a = some ⟨b, o, s⟩ → b < w.heap.size := by
  by_cases h0 : l = []
  · exact .inl h0
  · refine .inr fun b o s e => ?_
    have hne : l.flatMap layCal.cells ≠ [] := fun h => by
      have h4 := congrArg List.length h
      rw [layCal.length, List.length_nil, Nat.mul_eq_zero] at h4
      have := layCal.pos
      rcases h4 with h4 | h4
      · exact h0 (List.eq_nil_of_length_eq_zero h4)
      · omega
    rcases hr with h | ⟨b', o', h, hc⟩
    · exact absurd h hne
    · rw [e] at h
      simp only [Option.some.injEq, Addr.mk.injEq] at h
      obtain ⟨rfl, rfl, rfl⟩ := h
      exact Row.lt (.inr ⟨_, _, rfl, hc⟩) hne
theorem nums_at {r : List Nat} {k : Nat} (h : k < r.length) : (nums r)[k]? = some (.int .i64 (r[k] : Nat)) := by unfold nums; rw [List.getElem?_map, List.getElem?_eq_getElem h]; rfl
set_option maxHeartbeats 8000000 in
theorem law_hfits (a0 : Option Addr) (l : List HCall) (n0 c0 : Nat) (w : World) (h1 : l.length = n0) (r1 : LRow layCal w a0 l)
    (z1 : n0 ≤ maxLen) (htab : Lib.TabIs Tryd.prog w "internal/strconv.uint64pow10" .u64 Lib.pow10Tab) :
    Calls Tryd.prog 4 #[.slice a0 n0 c0] w fun e w' => e = .returned (.bool true) ∧ Below w.heap.size w w' := by
  subst h1
  have hz1 := lt_maxLen z1
  have WK := Lib.hid (fun w' (hb : Below w.heap.size w w') => wakes_any w' ((Lib.tabBelow_of_tabIs htab).on hb).here)
  have HB0 : Hid (Below w.heap.size w w) := Below.refl _ _
  by_cases hs2 : 60 < l.length
  · have d0 : decide ((7 : Int) < (l.length : Int)) = true := decide_eq_true (by omega)
    have d1 : decide ((l.length : Int) ≤ 12) = false := decide_eq_false (by omega)
    have d2 : decide ((60 : Int) < (l.length : Int)) = true := decide_eq_true (by omega)
    clear r1 htab
    go_enter Tryd.func4, Tryd.ntmps4
    go_wp2_with (first
      | (go_at_call 8; ((with_reducible refine (WK.out _ HB0.out).mono ?_); rintro e w9 ⟨rfl, hb⟩; have HB9 := Lib.hid (HB0.out.trans (hb.mono HB0.out.size)); clear hb)))
    go_returns
    exact ⟨rfl, HB9.out⟩
  have d2 : decide ((60 : Int) < (l.length : Int)) = false := decide_eq_false (by omega)
  by_cases hs1 : 7 < l.length ∧ l.length ≤ 12
  · have d0 : decide ((7 : Int) < (l.length : Int)) = true := decide_eq_true (by omega)
    have d1 : decide ((l.length : Int) ≤ 12) = true := decide_eq_true (by omega)
    clear r1 htab
    go_enter Tryd.func4, Tryd.ntmps4
    go_wp2_with (first
      | (go_at_call 8; ((with_reducible refine (WK.out _ HB0.out).mono ?_); rintro e w9 ⟨rfl, hb⟩; have HB9 := Lib.hid (HB0.out.trans (hb.mono HB0.out.size)); clear hb)))
    go_returns
    exact ⟨rfl, HB9.out⟩
  have hk7 : chkL l = true → l.length ≤ 7 := fun h => by
    unfold chkL at h
    simp only [Bool.and_eq_true, decide_eq_true_eq] at h
    have := h.1; omega
  have HF := Lib.hid (hfits_any l a0 l.length c0 w rfl (by omega) r1 (cals_far r1) htab)
  have HG := Lib.hid (fun w' (hb : Below w.heap.size w w') => rfits_any l a0 l.length c0 w' rfl (by omega) hk7 (LRow.below r1 hb) (cals_far (LRow.below r1 hb)))
  obtain ⟨r, rok, re, hff⟩ : ∃ r rok re, fitsF l = (r, rok, re) := ⟨_, _, _, rfl⟩
  have hr13 : r.length ≤ 13 := by have := fits_len l; rw [hff] at this; exact this
  have HFF := Lib.hid hff
  clear hff hk7 r1 htab
  by_cases hs3 : 7 < l.length
  · have d0 : decide ((7 : Int) < (l.length : Int)) = true := decide_eq_true (by omega)
    have d1 : decide ((l.length : Int) ≤ 12) = false := decide_eq_false (by omega)
    clear hs1 hs2 hs3
    go_enter Tryd.func4, Tryd.ntmps4
    go_wp2_with (first
      | (go_at_call 14; ((with_reducible refine HF.out.mono ?_); intro e w1 hret; rw [RetFits, HFF.out] at hret; obtain ⟨a1, c1, rfl, hr1, -, hb1⟩ := hret; have HB1 := Lib.hid hb1; have HR1 := Lib.hid hr1; clear hb1 hr1))
      | (go_at_call 15; ((with_reducible refine (HG.out _ HB1.out).mono ?_); intro e w2 hret; rw [RetFitsR, HFF.out] at hret; obtain ⟨a2, c2, rfl, hr2, hb2⟩ := hret; have HB2 := Lib.hid (HB1.out.trans (hb2.mono HB1.out.size)); have HS1 : Hid (Row w2 a1 (nums r)) := Row.below HR1.out hb2; have HR2 := Lib.hid hr2; clear hb2 hr2)))
    clear HF HG
    go_loopw [53] (fun i wr => ∃ k : Nat, k ≤ r.length ∧ i = .int .i64 k ∧ Hid (Below w2.heap.size w2 wr)) (fun i _ => r.length - (intOf i).toNat)
    case atStart => exact ⟨0, by omega, rfl, Below.refl _ _⟩
    case round =>
      obtain ⟨k, hk, rfl, HBK⟩ := hrel
      by_cases hlt : k < r.length
      · obtain ⟨b1, o1, e1, hc1⟩ := HS1.out.getBelow (k := k) (x := .int .i64 (r[k] : Nat)) (nums_at hlt)
        obtain ⟨b2, o2, e2, hc2⟩ := HR2.out.getBelow (k := k) (x := .int .i64 (r[k] : Nat)) (nums_at hlt)
        subst e1 e2
        have i1 := hc1 _ HBK.out
        have i2 := hc2 _ HBK.out
        clear hc1 hc2
        generalize r[k] = z at i1 i2
        have g0 : decide ((0 : Int) ≤ (k : Int)) = true := decide_eq_true (by omega)
        have g1 : decide ((k : Int) < (r.length : Int)) = true := decide_eq_true (by omega)
        go_wp2_with fail
        (try simp only [Act.put])
        refine wp_region_quiet_lit (by kernel_rfl) (by kernel_rfl) ?_
        repeat (go_big_quiet_step (fail))
        refine wpQuiet_nil ?_
        intro _ hw'
        obtain ⟨nq, hw2⟩ := hw'
        subst hw2
        go_wp2_with fail
        go_roundw
        case rel => exact ⟨k + 1, by omega, by go_num, below_drewN HBK.out _⟩
        case measure => simp [intOf]; omega
      · obtain rfl : k = r.length := by omega
        have g1 : decide ((r.length : Int) < (r.length : Int)) = false := decide_eq_false (by omega)
        have HBW : Hid (Below w.heap.size w wr) := HB2.out.trans (HBK.out.mono HB2.out.size)
        go_wp2_with (first
          | (go_at_call 8; ((with_reducible refine (WK.out _ HBW.out).mono ?_); rintro e w9 ⟨rfl, hb⟩; have HB9 := Lib.hid (HBW.out.trans (hb.mono HBW.out.size)); clear hb)))
        go_returns
        exact ⟨rfl, HB9.out⟩
  · have d0 : decide ((7 : Int) < (l.length : Int)) = false := decide_eq_false (by omega)
    clear hs1 hs2 hs3
    go_enter Tryd.func4, Tryd.ntmps4
    go_wp2_with (first
      | (go_at_call 14; ((with_reducible refine HF.out.mono ?_); intro e w1 hret; rw [RetFits, HFF.out] at hret; obtain ⟨a1, c1, rfl, hr1, -, hb1⟩ := hret; have HB1 := Lib.hid hb1; have HR1 := Lib.hid hr1; clear hb1 hr1))
      | (go_at_call 15; ((with_reducible refine (HG.out _ HB1.out).mono ?_); intro e w2 hret; rw [RetFitsR, HFF.out] at hret; obtain ⟨a2, c2, rfl, hr2, hb2⟩ := hret; have HB2 := Lib.hid (HB1.out.trans (hb2.mono HB1.out.size)); have HS1 : Hid (Row w2 a1 (nums r)) := Row.below HR1.out hb2; have HR2 := Lib.hid hr2; clear hb2 hr2)))
    clear HF HG
    go_loopw [53] (fun i wr => ∃ k : Nat, k ≤ r.length ∧ i = .int .i64 k ∧ Hid (Below w2.heap.size w2 wr)) (fun i _ => r.length - (intOf i).toNat)
    case atStart => exact ⟨0, by omega, rfl, Below.refl _ _⟩
    case round =>
      obtain ⟨k, hk, rfl, HBK⟩ := hrel
      by_cases hlt : k < r.length
      · obtain ⟨b1, o1, e1, hc1⟩ := HS1.out.getBelow (k := k) (x := .int .i64 (r[k] : Nat)) (nums_at hlt)
        obtain ⟨b2, o2, e2, hc2⟩ := HR2.out.getBelow (k := k) (x := .int .i64 (r[k] : Nat)) (nums_at hlt)
        subst e1 e2
        have i1 := hc1 _ HBK.out
        have i2 := hc2 _ HBK.out
        clear hc1 hc2
        generalize r[k] = z at i1 i2
        have g0 : decide ((0 : Int) ≤ (k : Int)) = true := decide_eq_true (by omega)
        have g1 : decide ((k : Int) < (r.length : Int)) = true := decide_eq_true (by omega)
        go_wp2_with fail
        (try simp only [Act.put])
        refine wp_region_quiet_lit (by kernel_rfl) (by kernel_rfl) ?_
        repeat (go_big_quiet_step (fail))
        refine wpQuiet_nil ?_
        intro _ hw'
        obtain ⟨nq, hw2⟩ := hw'
        subst hw2
        go_wp2_with fail
        go_roundw
        case rel => exact ⟨k + 1, by omega, by go_num, below_drewN HBK.out _⟩
        case measure => simp [intOf]; omega
      · obtain rfl : k = r.length := by omega
        have g1 : decide ((r.length : Int) < (r.length : Int)) = false := decide_eq_false (by omega)
        have HBW : Hid (Below w.heap.size w wr) := HB2.out.trans (HBK.out.mono HB2.out.size)
        go_wp2_with (first
          | (go_at_call 8; ((with_reducible refine (WK.out _ HBW.out).mono ?_); rintro e w9 ⟨rfl, hb⟩; have HB9 := Lib.hid (HBW.out.trans (hb.mono HBW.out.size)); clear hb)))
        go_returns
        exact ⟨rfl, HB9.out⟩
end Go.Proofs.YtkboojpkkhiceaaDoor
