import Derived.Test.YtkboojpkkhiceaaDoorHisMay
import Derived.Test.YtkboojpkkhiceaaDoorPackHistoryDoes1
set_option linter.unusedVariables false
set_option linter.unusedSimpArgs false
/- Which histories may be, the program's side. -/
namespace Go.Proofs.YtkboojpkkhiceaaDoor
open Go.ChangeShapes Go.WideShapes Go.ChangeAt Go.RowKit
set_option maxRecDepth 100000

set_option maxHeartbeats 4000000 in
theorem check1_any (x : HCall) (w : World) : Calls Tryd.prog 32 #[x.agg] w fun e w' => e = .returned (.bool (!callOk x)) ∧ Below w.heap.size w w' := by
  obtain ⟨⟨k, a1, a2, t, a4, a5, a6, a7, a8, a9, a10, a11, a12⟩, f, o, ⟨b0, b1, b2, b3, b4⟩⟩ := x
  obtain ⟨W, hW⟩ : ∃ W, W = w.alloc (.cells #[.int .i8 k, .int .i64 a1, .int .i64 a2, .int .i64 t, .int .i64 a4, .int .i64 a5, .int .i64 a6, .int .i64 a7, .int .i64 a8, .int .i64 a9, .int .i64 a10, .bool a11, a12.v, .int .i64 f, .int .i64 o, .int .i64 b0, .int .i64 b1, .int .i64 b2, .int .i64 b3, .int .i64 b4] 41) := ⟨_, rfl⟩
  have HB : Hid (Below w.heap.size w W) := by subst hW; exact mid_alloc' (Below.refl _ _)
  have HX : Box W w.heap.size [.int .i8 k, .int .i64 a1, .int .i64 a2, .int .i64 t, .int .i64 a4, .int .i64 a5, .int .i64 a6, .int .i64 a7, .int .i64 a8, .int .i64 a9, .int .i64 a10, .bool a11, a12.v, .int .i64 f, .int .i64 o, .int .i64 b0, .int .i64 b1, .int .i64 b2, .int .i64 b3, .int .i64 b4] := by
    subst hW; exact Box.of_alloc (w := w) (t := 41) (Below.refl _ _)
  have HA := Lib.hid (asks_any ⟨k, a1, a2, t, a4, a5, a6, a7, a8, a9, a10, a11, a12⟩ w.heap.size 0 W (HX.cell (j := 0) rfl) (HX.cell (j := 3) rfl))
  have HW := Lib.hid hW
  clear HX hW
  unfold callOk
  simp only
  generalize asksC ⟨k, a1, a2, t, a4, a5, a6, a7, a8, a9, a10, a11, a12⟩ = r at HA ⊢
  cases r with
  | false =>
    go_enter Tryd.func32, Tryd.ntmps32
    go_wp2_with (go_at_call 21; rw [← HW.out]; ((with_reducible refine HA.out.mono ?_); rintro e w1 ⟨rfl, rfl⟩))
    go_returns
    exact ⟨ret_bool (by simp), HB.out⟩
  | true =>
    by_cases h1 : f < 1
    · have d1 : decide (f < 1) = true := decide_eq_true h1
      go_enter Tryd.func32, Tryd.ntmps32
      go_wp2_with (go_at_call 21; rw [← HW.out]; ((with_reducible refine HA.out.mono ?_); rintro e w1 ⟨rfl, rfl⟩; have k0 := (Box.of_alloc (w := w) (t := 41) (cs := [.int .i8 k, .int .i64 a1, .int .i64 a2, .int .i64 t, .int .i64 a4, .int .i64 a5, .int .i64 a6, .int .i64 a7, .int .i64 a8, .int .i64 a9, .int .i64 a10, .bool a11, a12.v, .int .i64 f, .int .i64 o, .int .i64 b0, .int .i64 b1, .int .i64 b2, .int .i64 b3, .int .i64 b4]) (show Below _ _ W from by rw [HW.out]; exact Below.refl _ _)); have k1 := k0.cell (j := 13) rfl; have k2 := k0.cell (j := 14) rfl; clear k0))
      go_returns
      exact ⟨ret_bool (by rw [Bool.eq_iff_iff]; simp; omega), HB.out⟩
    have d1 : decide (f < 1) = false := decide_eq_false h1
    by_cases h2 : (o != 0) = true
    · have H2 : Hid (o ≠ 0) := by show o ≠ 0; simpa using h2
      by_cases h3 : o ≤ f
      · have d3 : decide (o ≤ f) = true := decide_eq_true h3
        go_enter Tryd.func32, Tryd.ntmps32
        go_wp2_with (go_at_call 21; rw [← HW.out]; ((with_reducible refine HA.out.mono ?_); rintro e w1 ⟨rfl, rfl⟩; have k0 := (Box.of_alloc (w := w) (t := 41) (cs := [.int .i8 k, .int .i64 a1, .int .i64 a2, .int .i64 t, .int .i64 a4, .int .i64 a5, .int .i64 a6, .int .i64 a7, .int .i64 a8, .int .i64 a9, .int .i64 a10, .bool a11, a12.v, .int .i64 f, .int .i64 o, .int .i64 b0, .int .i64 b1, .int .i64 b2, .int .i64 b3, .int .i64 b4]) (show Below _ _ W from by rw [HW.out]; exact Below.refl _ _)); have k1 := k0.cell (j := 13) rfl; have k2 := k0.cell (j := 14) rfl; clear k0))
        go_returns
        exact ⟨ret_bool (by rw [Bool.eq_iff_iff]; simp; have := H2.out; omega), HB.out⟩
      · have d3 : decide (o ≤ f) = false := decide_eq_false h3
        go_enter Tryd.func32, Tryd.ntmps32
        go_wp2_with (go_at_call 21; rw [← HW.out]; ((with_reducible refine HA.out.mono ?_); rintro e w1 ⟨rfl, rfl⟩; have k0 := (Box.of_alloc (w := w) (t := 41) (cs := [.int .i8 k, .int .i64 a1, .int .i64 a2, .int .i64 t, .int .i64 a4, .int .i64 a5, .int .i64 a6, .int .i64 a7, .int .i64 a8, .int .i64 a9, .int .i64 a10, .bool a11, a12.v, .int .i64 f, .int .i64 o, .int .i64 b0, .int .i64 b1, .int .i64 b2, .int .i64 b3, .int .i64 b4]) (show Below _ _ W from by rw [HW.out]; exact Below.refl _ _)); have k1 := k0.cell (j := 13) rfl; have k2 := k0.cell (j := 14) rfl; clear k0))
        go_returns
        exact ⟨ret_bool (by rw [Bool.eq_iff_iff]; simp; have := H2.out; omega), HB.out⟩
    · have d2 : (o != 0) = false := by simpa using h2
      have H2 : Hid (o = 0) := by show o = 0; simpa using h2
      go_enter Tryd.func32, Tryd.ntmps32
      go_wp2_with (go_at_call 21; rw [← HW.out]; ((with_reducible refine HA.out.mono ?_); rintro e w1 ⟨rfl, rfl⟩; have k0 := (Box.of_alloc (w := w) (t := 41) (cs := [.int .i8 k, .int .i64 a1, .int .i64 a2, .int .i64 t, .int .i64 a4, .int .i64 a5, .int .i64 a6, .int .i64 a7, .int .i64 a8, .int .i64 a9, .int .i64 a10, .bool a11, a12.v, .int .i64 f, .int .i64 o, .int .i64 b0, .int .i64 b1, .int .i64 b2, .int .i64 b3, .int .i64 b4]) (show Below _ _ W from by rw [HW.out]; exact Below.refl _ _)); have k1 := k0.cell (j := 13) rfl; have k2 := k0.cell (j := 14) rfl; clear k0))
      go_returns
      exact ⟨ret_bool (by rw [Bool.eq_iff_iff]; simp; have := H2.out; omega), HB.out⟩
theorem enter_check1 (args : Array Value) (w : World) : (callFunc 32 args).run Tryd.prog w = .ok (.enter 32 args) w := by kernel_rfl
theorem contains_any (l : List HCall) (a : Option Addr) (n c : Nat) (w : World) (hn : l.length = n) (hl : n ≤ maxLen) (hr : LRow layCal w a l) :
    Calls Tryd.prog 31 #[.slice a n c, .func (.func 32) #[] #[]] w fun e w' => e = .returned (.bool (!l.all callOk)) ∧ Below w.heap.size w w' := by
  have hcf := enter_check1
  have HI := Lib.hid (indexFuncCal l a n c 32 #[] (fun x => !callOk x) w hn hl hr hcf (fun x _ w' _ => check1_any x w'))
  have HY : Hid (0 ≤ idxL (fun x => !callOk x) l → (!l.all callOk) = true) := fun h => by
    rcases idxL_ways (fun x => !callOk x) l with ⟨h1, _⟩ | ⟨k, hk, _, h2, _⟩
    · omega
    · rw [Bool.not_eq_true', List.all_eq_false]; exact ⟨l[k], List.getElem_mem hk, by simpa using h2⟩
  have HN : Hid (idxL (fun x => !callOk x) l < 0 → (!l.all callOk) = false) := fun h => by
    rcases idxL_ways (fun x => !callOk x) l with ⟨_, h1⟩ | ⟨k, hk, h1, _⟩
    · rw [Bool.not_eq_false', List.all_eq_true]; exact fun x hx => by simpa using h1 x hx
    · omega
  generalize idxL (fun x => !callOk x) l = i at HI HY HN
  generalize (!l.all callOk) = r at HY HN ⊢
  clear hn hl hr
  by_cases h0 : 0 ≤ i
  · obtain rfl := HY.out h0
    go_enter Tryd.func31, Tryd.ntmps31
    go_wp2_with (go_at_call 40; ((with_reducible refine HI.out.mono ?_); rintro e w1 ⟨rfl, hb⟩))
    go_returns
    exact ⟨ret_bool (by simp), hb⟩
  · obtain rfl := HN.out (by omega)
    go_enter Tryd.func31, Tryd.ntmps31
    go_wp2_with (go_at_call 40; ((with_reducible refine HI.out.mono ?_); rintro e w1 ⟨rfl, hb⟩))
    go_returns
    exact ⟨ret_bool (by simp; omega), hb⟩
theorem hcheck_any (l : List HCall) (a : Option Addr) (n c : Nat) (w : World) (hn : l.length = n) (hl : n ≤ maxLen) (hr : LRow layCal w a l) :
    Calls Tryd.prog 12 #[.slice a n c] w fun e w' => e = .returned (.bool (chkL l)) ∧ Below w.heap.size w w' := by
  have HC := Lib.hid (contains_any l a n c w hn hl hr)
  unfold chkL
  rw [hn]
  generalize l.all callOk = r at HC ⊢
  clear hn hl hr
  by_cases h12 : n ≤ 12
  · rw [decide_eq_true h12]
    cases r
    all_goals
      go_enter Tryd.func12, Tryd.ntmps12
      go_wp2_with (go_at_call 31; ((with_reducible refine HC.out.mono ?_); rintro e w1 ⟨rfl, hb⟩))
      go_returns
      exact ⟨ret_bool (by simp), hb⟩
  · rw [decide_eq_false h12]
    go_enter Tryd.func12, Tryd.ntmps12
    go_wp2_with fail
    go_returns
    exact ⟨ret_bool (by simp), Below.refl _ _⟩
end Go.Proofs.YtkboojpkkhiceaaDoor
