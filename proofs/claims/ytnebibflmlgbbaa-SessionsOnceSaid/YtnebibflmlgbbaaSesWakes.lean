import Derived.Test.YtnebibflmlgbbaaSesRefKeep
import Derived.Test.YtnebibflmlgbbaaSesRefAsk
namespace Go.Proofs.Ytnebibflmlgbbaa
open Go.ChangeShapes Go.WideShapes Go.ChangeAt Go.RowKit

abbrev s1 : Session := ⟨1, 1, ⟨0, 0, 0, 5, 0⟩⟩
abbrev s2 : Session := ⟨1, 3, ⟨0, 0, 0, 0, 0⟩⟩
theorem wk1_eq : keepS [] 1 1 ⟨0, 0, 0, 5, 0⟩ = ([s1], 0) := by decide
theorem wk2_eq : askS [s1] 1 1 = (⟨0, 0, 0, 5, 0⟩, false, 0) := by decide
theorem wk3_eq : askS [s1] 1 3 = (⟨0, 0, 0, 0, 0⟩, true, 0) := by decide
theorem wk4_eq : keepS [s1] 1 3 ⟨0, 0, 0, 0, 0⟩ = ([s2], 0) := by decide
theorem wk5_eq : askS [s2] 1 2 = (⟨0, 0, 0, 0, 0⟩, false, 150) := by decide
theorem wk6_eq : lastS [s2] 1 = 3 := by decide

theorem wkKeep1 (w : World) : Calls Try.prog 14 #[.slice none 0 0, .int .i64 1, .int .i64 1, .agg #[.int .i64 0, .int .i64 0, .int .i64 0, .int .i64 5, .int .i64 0]] w (RetKeep w ([s1], 0)) := by
  rw [← wk1_eq]; exact keep_ses [] none 0 0 1 1 ⟨0, 0, 0, 5, 0⟩ w rfl (by omega) (fun _ => rfl) (Nat.le_refl _) (Row.nil _ _)
theorem wkAsk1 (w : World) (a : Option Addr) (c : Nat) (hr : LRow laySes w a [s1]) : Calls Try.prog 8 #[.slice a 1 c, .int .i64 1, .int .i64 1] w (RetAsk w (⟨0, 0, 0, 5, 0⟩, false, 0)) := by
  rw [← wk2_eq]; exact ask_ses [s1] a 1 c 1 1 w rfl (by omega) hr
theorem wkAsk2 (w : World) (a : Option Addr) (c : Nat) (hr : LRow laySes w a [s1]) : Calls Try.prog 8 #[.slice a 1 c, .int .i64 1, .int .i64 3] w (RetAsk w (⟨0, 0, 0, 0, 0⟩, true, 0)) := by
  rw [← wk3_eq]; exact ask_ses [s1] a 1 c 1 3 w rfl (by omega) hr
theorem wkKeep2 (w : World) (a : Option Addr) (c : Nat) (hc : a = none → c = 0) (hnc : 1 ≤ c) (hr : LRow laySes w a [s1]) : Calls Try.prog 14 #[.slice a 1 c, .int .i64 1, .int .i64 3, .agg #[.int .i64 0, .int .i64 0, .int .i64 0, .int .i64 0, .int .i64 0]] w (RetKeep w ([s2], 0)) := by
  rw [← wk4_eq]; exact keep_ses [s1] a 1 c 1 3 ⟨0, 0, 0, 0, 0⟩ w rfl (by omega) hc hnc hr
theorem wkAsk3 (w : World) (a : Option Addr) (c : Nat) (hr : LRow laySes w a [s2]) : Calls Try.prog 8 #[.slice a 1 c, .int .i64 1, .int .i64 2] w (RetAsk w (⟨0, 0, 0, 0, 0⟩, false, 150)) := by
  rw [← wk5_eq]; exact ask_ses [s2] a 1 c 1 2 w rfl (by omega) hr
theorem wkLast (w : World) (a : Option Addr) (c : Nat) (hr : LRow laySes w a [s2]) : Calls Try.prog 12 #[.slice a 1 c, .int .i64 1] w fun e w' => e = .returned (.int .i64 3) ∧ Below w.heap.size w w' := by
  have := last_ses [s2] a 1 c 1 w rfl (by omega) hr (wf_small (by omega) (by omega))
  rw [wk6_eq] at this; exact this

set_option maxHeartbeats 4000000 in
theorem wakes_ses (w : World) : Calls Try.prog 7 #[] w fun e w' => e = .returned (.bool true) ∧ Below w.heap.size w w' := by
  go_enter Try.func7, Try.ntmps7
  go_wp2_with (first
    | (go_at_call 14; ((with_reducible refine (wkKeep1 _).mono ?_); rintro e w1 ⟨a1, c1, rfl, hc1, _, hn1, hr1, hb1⟩; replace hc1 : 1 ≤ c1 := hc1; replace hr1 : LRow laySes w1 a1 [s1] := hr1))
    | (go_at_call 8; ((with_reducible refine (wkAsk1 _ _ _ (LRow.below hr1 (by repeat' (first | (with_reducible exact Below.refl _ _) | (with_reducible assumption) | (with_reducible refine Below.drew ?_) | (with_reducible refine Below.more ?_ _) | (with_reducible refine Below.put ?_ ?_ _) | (with_reducible refine Below.next ?_ (by with_reducible assumption)) | (with_reducible exact Nat.le_refl _) | (with_reducible refine Below.size' ?_) | omega)))).mono ?_); rintro e w2 ⟨rfl, hb2⟩))
    | (go_at_call 8; ((with_reducible refine (wkAsk2 _ _ _ (LRow.below hr1 (by repeat' (first | (with_reducible exact Below.refl _ _) | (with_reducible assumption) | (with_reducible refine Below.drew ?_) | (with_reducible refine Below.more ?_ _) | (with_reducible refine Below.put ?_ ?_ _) | (with_reducible refine Below.next ?_ (by with_reducible assumption)) | (with_reducible exact Nat.le_refl _) | (with_reducible refine Below.size' ?_) | omega)))).mono ?_); rintro e w3 ⟨rfl, hb3⟩))
    | (go_at_call 14; ((with_reducible refine (wkKeep2 _ _ _ hn1 hc1 (LRow.below hr1 (by repeat' (first | (with_reducible exact Below.refl _ _) | (with_reducible assumption) | (with_reducible refine Below.drew ?_) | (with_reducible refine Below.more ?_ _) | (with_reducible refine Below.put ?_ ?_ _) | (with_reducible refine Below.next ?_ (by with_reducible assumption)) | (with_reducible exact Nat.le_refl _) | (with_reducible refine Below.size' ?_) | omega)))).mono ?_); rintro e w4 ⟨a4, c4, rfl, hc4, _, hn4, hr4, hb4⟩; replace hr4 : LRow laySes w4 a4 [s2] := hr4))
    | (go_at_call 8; ((with_reducible refine (wkAsk3 _ _ _ (LRow.below hr4 (by repeat' (first | (with_reducible exact Below.refl _ _) | (with_reducible assumption) | (with_reducible refine Below.drew ?_) | (with_reducible refine Below.more ?_ _) | (with_reducible refine Below.put ?_ ?_ _) | (with_reducible refine Below.next ?_ (by with_reducible assumption)) | (with_reducible exact Nat.le_refl _) | (with_reducible refine Below.size' ?_) | omega)))).mono ?_); rintro e w5 ⟨rfl, hb5⟩; have qx5 : Below (World.alloc w2 (.cells #[.int .i64 0, .int .i64 0, .int .i64 0, .int .i64 5, .int .i64 0] 26)).heap.size (World.alloc w2 (.cells #[.int .i64 0, .int .i64 0, .int .i64 0, .int .i64 5, .int .i64 0] 26)) w5 := (by repeat' (first | (with_reducible exact Below.refl _ _) | (with_reducible assumption) | (with_reducible refine Below.drew ?_) | (with_reducible refine Below.more ?_ _) | (with_reducible refine Below.put ?_ ?_ _) | (with_reducible refine Below.next ?_ (by with_reducible assumption)) | (with_reducible exact Nat.le_refl _) | (with_reducible refine Below.size' ?_) | omega)); have hx5 := own_cells qx5; have zx5 := own_frozen qx5; have sx5 := Below.boxed qx5; clear qx5))
    | (go_at_call 12; ((with_reducible refine (wkLast _ _ _ (LRow.below hr4 (by repeat' (first | (with_reducible exact Below.refl _ _) | (with_reducible assumption) | (with_reducible refine Below.drew ?_) | (with_reducible refine Below.more ?_ _) | (with_reducible refine Below.put ?_ ?_ _) | (with_reducible refine Below.next ?_ (by with_reducible assumption)) | (with_reducible exact Nat.le_refl _) | (with_reducible refine Below.size' ?_) | omega)))).mono ?_); rintro e w6 ⟨rfl, hb6⟩)))
  go_returns
  exact ⟨rfl, (by repeat' (first | (with_reducible exact Below.refl _ _) | (with_reducible assumption) | (with_reducible refine Below.drew ?_) | (with_reducible refine Below.more ?_ _) | (with_reducible refine Below.put ?_ ?_ _) | (with_reducible refine Below.next ?_ (by with_reducible assumption)) | (with_reducible exact Nat.le_refl _) | (with_reducible refine Below.size' ?_) | omega))⟩
end Go.Proofs.Ytnebibflmlgbbaa
