import Derived.Test.YtkboojpkkhiceaaDoorHisWakes
import Derived.Test.YtkboojpkkhiceaaDoorPackHistoryDoes3
import Derived.Test.YtkboojpkkhiceaaDoorHisRefCheck
set_option linter.unusedVariables false
set_option linter.unusedSimpArgs false
/- What any table answers, and which histories may be: the walk. (printed by gen_hislaws.py) -/
namespace Go.Proofs.YtkboojpkkhiceaaDoor
open Go.ChangeShapes Go.WideShapes Go.ChangeAt Go.RowKit
set_option maxRecDepth 100000

theorem aeq_same (y : Ans) (w : World) : (binOp .eql 31 y.agg y.agg).run Tryd.prog w = .ok (.bool true) w := by
  have h := aeql_run y y w
  rw [decide_eq_true rfl] at h; exact h
set_option maxHeartbeats 8000000 in
theorem law_hdoes (a1 a2 : Option Addr) (t : List Force) (x : HCmd) (l : List HCall) (n1 c1 n2 c2 : Nat) (w : World) (h1 : t.length = n1) (k1 : a1 = none → c1 = 0) (m1 : n1 ≤ c1) (r1 : LRow layFce w a1 t) (h2 : l.length = n2) (r2 : LRow layCal w a2 l)
    (z1 : n1 ≤ maxLen) (z2 : n2 ≤ maxLen) (htab : Lib.TabIs Tryd.prog w "internal/strconv.uint64pow10" .u64 Lib.pow10Tab) :
    Calls Tryd.prog 3 #[.slice a1 n1 c1, x.agg, .slice a2 n2 c2] w fun e w' => e = .returned (.bool true) ∧ Below w.heap.size w w' := by
  subst h1 h2
  obtain ⟨k, x1, x2, te, ra, bu, x6, x7, x8, x9, x10, x11, ⟨la, ln, lc⟩⟩ := x
  have hz1 := lt_maxLen z1
  have hz2 := lt_maxLen z2
  have WK := Lib.hid (fun w' (hb : Below w.heap.size w w') => wakes_any w' ((Lib.tabBelow_of_tabIs htab).on hb).here)
  have HB0 : Hid (Below w.heap.size w (w.alloc (.cells #[.int .i8 k, .int .i64 x1, .int .i64 x2, .int .i64 te, .int .i64 ra, .int .i64 bu, .int .i64 x6, .int .i64 x7, .int .i64 x8, .int .i64 x9, .int .i64 x10, .bool x11, (⟨la, ln, lc⟩ : Slc).v] 26))) := mid_alloc' (Below.refl _ _)
  clear htab
  by_cases hs1 : 60 < t.length
  · have d1 : decide ((60 : Int) < (t.length : Int)) = true := decide_eq_true (by omega)
    clear r1 r2
    go_enter Tryd.func3, Tryd.ntmps3
    go_wp2_with (go_at_call 8; ((with_reducible refine (WK.out _ HB0.out).mono ?_); rintro e w9 ⟨rfl, hb⟩; have HB9 := Lib.hid (HB0.out.trans (hb.mono HB0.out.size)); clear hb))
    go_returns
    exact ⟨rfl, HB9.out⟩
  have d1 : decide ((60 : Int) < (t.length : Int)) = false := decide_eq_false (by omega)
  by_cases hs2 : 60 < l.length
  · have d2 : decide ((60 : Int) < (l.length : Int)) = true := decide_eq_true (by omega)
    clear r1 r2
    go_enter Tryd.func3, Tryd.ntmps3
    go_wp2_with (go_at_call 8; ((with_reducible refine (WK.out _ HB0.out).mono ?_); rintro e w9 ⟨rfl, hb⟩; have HB9 := Lib.hid (HB0.out.trans (hb.mono HB0.out.size)); clear hb))
    go_returns
    exact ⟨rfl, HB9.out⟩
  have d2 : decide ((60 : Int) < (l.length : Int)) = false := decide_eq_false (by omega)
  have HX0 : Hid (Box (w.alloc (.cells #[.int .i8 k, .int .i64 x1, .int .i64 x2, .int .i64 te, .int .i64 ra, .int .i64 bu, .int .i64 x6, .int .i64 x7, .int .i64 x8, .int .i64 x9, .int .i64 x10, .bool x11, (⟨la, ln, lc⟩ : Slc).v] 26)) w.heap.size [.int .i8 k, .int .i64 x1, .int .i64 x2, .int .i64 te, .int .i64 ra, .int .i64 bu, .int .i64 x6, .int .i64 x7, .int .i64 x8, .int .i64 x9, .int .i64 x10, .bool x11, (⟨la, ln, lc⟩ : Slc).v]) := Box.of_alloc (w := w) (cs := [.int .i8 k, .int .i64 x1, .int .i64 x2, .int .i64 te, .int .i64 ra, .int .i64 bu, .int .i64 x6, .int .i64 x7, .int .i64 x8, .int .i64 x9, .int .i64 x10, .bool x11, (⟨la, ln, lc⟩ : Slc).v]) (t := 26) (Below.refl _ _)
  have HD := Lib.hid (fun w' (hb : Below w.heap.size w w') => hdo_any t ⟨k, x1, x2, te, ra, bu, x6, x7, x8, x9, x10, x11, ⟨la, ln, lc⟩⟩ a1 t.length c1 w' rfl (by omega) k1 m1 (LRow.below r1 hb))
  have HE := Lib.hid (fun w' (hb : Below w.heap.size w w') => refdo_any t ⟨k, x1, x2, te, ra, bu, x6, x7, x8, x9, x10, x11, ⟨la, ln, lc⟩⟩ a1 t.length c1 w' rfl (by omega) (LRow.below r1 hb))
  have HC := Lib.hid (fun w' (hb : Below w.heap.size w w') => hcheck_any l a2 l.length c2 w' rfl z2 (LRow.below r2 hb))
  have HF := Lib.hid (fun w' (hb : Below w.heap.size w w') => refhcheck_any l a2 l.length c2 w' rfl z2 (LRow.below r2 hb))
  have HTL : Hid ((doF t ⟨k, x1, x2, te, ra, bu, x6, x7, x8, x9, x10, x11, ⟨la, ln, lc⟩⟩).1.length ≤ 1000000) := by
    show _ ≤ _
    unfold doF
    split
    · split
      · split
        · have := insK_length (key := Force.tenant) (⟨0, te, ra, bu⟩ : Force) t; dsimp only; omega
        · dsimp only; omega
      · split
        · dsimp only; omega
        · split
          · dsimp only; omega
          · have := List.length_filter_le (fun y : Force => decide (y.tenant ≠ te)) t; dsimp only; omega
    · dsimp only; omega
  generalize hdo : doF t ⟨k, x1, x2, te, ra, bu, x6, x7, x8, x9, x10, x11, ⟨la, ln, lc⟩⟩ = res at HD HE HTL
  clear hdo
  obtain ⟨t5, y⟩ := res
  dsimp only at HD HE HTL
  generalize chkL l = ck at HC HF
  have hq := fun w => aeq_same y w
  clear r1 r2
  go_enter Tryd.func3, Tryd.ntmps3
  go_wp2_with (first
    | (refine wpList_load_as layHcm rfl (.tmp 4) rfl w.heap.size 0 rfl ⟨k, x1, x2, te, ra, bu, x6, x7, x8, x9, x10, x11, ⟨la, ln, lc⟩⟩ (HCmd.agg ⟨k, x1, x2, te, ra, bu, x6, x7, x8, x9, x10, x11, ⟨la, ln, lc⟩⟩) rfl HX0.out.range ?_)
    | (go_at_call 9; ((with_reducible refine (HD.out _ HB0.out).mono ?_); rintro e w1 ⟨a5, c5, rfl, -, -, hr5, -, hb⟩; have HX1 := Lib.hid (HX0.out.next (by simp) hb); have HB1 := Lib.hid (HB0.out.trans (hb.mono HB0.out.size)); have HR1 := Lib.hid hr5; clear hb hr5))
    | (refine wpList_store_box layAns rfl (.tmp 8) (.tmp 25) rfl y rfl rfl rfl ?_; intro w2 hw2 ht2 hb2 hs2; have HY2 : Hid (Box w2 w1.heap.size y.cells) := ⟨hw2, ht2⟩; have HX2 := Lib.hid (HX1.out.next (by simp) hb2); have HB2 := Lib.hid (HB1.out.trans (hb2.mono HB1.out.size)); have HR2 := Lib.hid (LRow.below HR1.out hb2); clear hw2 ht2 hb2 hs2)
    | (refine wpList_load_as layHcm rfl (.tmp 4) rfl w.heap.size 0 rfl ⟨k, x1, x2, te, ra, bu, x6, x7, x8, x9, x10, x11, ⟨la, ln, lc⟩⟩ (HCmd.agg ⟨k, x1, x2, te, ra, bu, x6, x7, x8, x9, x10, x11, ⟨la, ln, lc⟩⟩) rfl HX2.out.range ?_)
    | (go_at_call 10; ((with_reducible refine (HE.out _ HB2.out).mono ?_); rintro e w3 ⟨a6, c6, rfl, -, -, hr6, -, hb⟩; have HX3 := Lib.hid (HX2.out.next (by simp) hb); have HB3 := Lib.hid (HB2.out.trans (hb.mono HB2.out.size)); have HY3 := Lib.hid (HY2.out.next (by simp) hb); have HR3 := Lib.hid (LRow.below HR2.out hb); have HS3 := Lib.hid hr6; clear hb hr6))
    | (refine wpList_store_box layAns rfl (.tmp 10) (.tmp 31) rfl y rfl rfl rfl ?_; intro w4 hw4 ht4 hb4 hs4; have HZ4 : Hid (Box w4 w3.heap.size y.cells) := ⟨hw4, ht4⟩; have HX4 := Lib.hid (HX3.out.next (by simp) hb4); have HB4 := Lib.hid (HB3.out.trans (hb4.mono HB3.out.size)); have HY4 := Lib.hid (HY3.out.next (by simp) hb4); have HR4 := Lib.hid (LRow.below HR3.out hb4); have HS4 := Lib.hid (LRow.below HS3.out hb4); clear hw4 ht4 hb4 hs4)
    | (go_at_call 11; ((with_reducible refine (table_any t5 a5 a6 t5.length c5 c6 w4 rfl HTL.out HR4.out HS4.out).mono ?_); rintro e w5 ⟨rfl, hb⟩; have HX5 := Lib.hid (HX4.out.next (by simp) hb); have HB5 := Lib.hid (HB4.out.trans (hb.mono HB4.out.size)); have HY5 := Lib.hid (HY4.out.next (by simp) hb); have HZ5 := Lib.hid (HZ4.out.next (by simp) hb); clear hb))
    | (refine wpList_strip (by rfl) ?_; refine wpList_load_as layAns rfl (.tmp 8) rfl w1.heap.size 0 rfl y y.agg rfl HY5.out.range ?_)
    | (refine wpList_strip (by rfl) ?_; refine wpList_load_as layAns rfl (.tmp 10) rfl w3.heap.size 0 rfl y y.agg rfl HZ5.out.range ?_)
    | (go_at_call 12; ((with_reducible refine (HC.out _ HB5.out).mono ?_); rintro e w6 ⟨rfl, hb⟩; have HX6 := Lib.hid (HX5.out.next (by simp) hb); have HB6 := Lib.hid (HB5.out.trans (hb.mono HB5.out.size)); clear hb))
    | (go_at_call 13; ((with_reducible refine (HF.out _ HB6.out).mono ?_); rintro e w7 ⟨rfl, hb⟩; have HX7 := Lib.hid (HX6.out.next (by simp) hb); have HB7 := Lib.hid (HB6.out.trans (hb.mono HB6.out.size)); clear hb))
    | (go_at_call 8; ((with_reducible refine (WK.out _ HB7.out).mono ?_); rintro e w9 ⟨rfl, hb⟩; have HB9 := Lib.hid (HB7.out.trans (hb.mono HB7.out.size)); clear hb)))
  go_returns
  exact ⟨rfl, HB9.out⟩
end Go.Proofs.YtkboojpkkhiceaaDoor
