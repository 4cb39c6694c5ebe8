import Derived.Test.YtnpbajmpenpnbaaRefDelete
namespace Go.Proofs.Ytnpbajmpenpnbaa
open Go.ChangeShapes Go.WideShapes Go.ChangeAt Go.RowKit

def wk1 : List Tenant × Ans := putS [] 3 1000 500 0
theorem wk1_eq : wk1 = ([⟨3, 1000, 500, 0, false⟩], ⟨0, 1000, 500, 0, 0⟩) := by decide
theorem wk2_eq : getS [⟨3, 1000, 500, 0, false⟩] 3 = ⟨0, 1000, 500, 0, 0⟩ := by decide
theorem wk3_eq : putS [⟨3, 1, 500, 400000, false⟩] 3 1 10 4 = ([⟨3, 1, 10, 6000, false⟩], ⟨0, 1, 10, 0, 0⟩) := by decide
theorem wk4_eq : deleteS [⟨3, 1, 10, 6000, false⟩] 3 4 = ([⟨3, 0, 0, 0, true⟩], ⟨0, 0, 0, 0, 0⟩) := by decide
theorem wk5_eq : findT [⟨3, 0, 0, 0, true⟩] 3 = (⟨3, 0, 0, 0, true⟩, true) := by decide
theorem wk6_eq : getS [⟨3, 0, 0, 0, true⟩] 3 = ⟨161, 0, 0, 0, 0⟩ := by decide

def RetB (w : World) (v : Bool) (e : Ending) (w' : World) : Prop := e = .returned (.bool v) ∧ Below w.heap.size w w'

abbrev tn1 : Tenant := ⟨3, 1000, 500, 0, false⟩
abbrev tn2 : Tenant := ⟨3, 1, 500, 400000, false⟩
abbrev tn3 : Tenant := ⟨3, 1, 10, 6000, false⟩
abbrev tn4 : Tenant := ⟨3, 0, 0, 0, true⟩
theorem wkPut1 (w : World) : Calls Try.prog 9 #[.slice none 0 0, .int .i64 3, .int .i64 1000, .int .i64 500, .int .i64 0] w (RetTA w none ([tn1], ⟨0, 1000, 500, 0, 0⟩)) := by
  rw [← wk1_eq]
  exact pput_any [] none 0 0 3 1000 500 0 w rfl (by simp) (fun _ => rfl) (Nat.le_refl _) (.inl rfl)
theorem wkGet1 (w : World) (a : Option Addr) (c : Nat) (hr : TRow w a [tn1]) : Calls Try.prog 16 #[.slice a 1 c, .int .i64 3] w (RetA w ⟨0, 1000, 500, 0, 0⟩) := by
  rw [← wk2_eq]
  exact pget_any [tn1] a 1 c 3 w rfl (by simp [maxLen_eq]) hr
theorem wkPut2 (w : World) (a : Option Addr) (c : Nat) (hc : a = none → c = 0) (hnc : 1 ≤ c) (hr : TRow w a [tn2]) : Calls Try.prog 9 #[.slice a 1 c, .int .i64 3, .int .i64 1, .int .i64 10, .int .i64 4] w (RetTA w a ([tn3], ⟨0, 1, 10, 0, 0⟩)) := by
  rw [← wk3_eq]
  exact pput_any [tn2] a 1 c 3 1 10 4 w rfl (by simp) hc hnc hr
theorem wkDelete (w : World) (a : Option Addr) (c : Nat) (hc : a = none → c = 0) (hnc : 1 ≤ c) (hr : TRow w a [tn3]) : Calls Try.prog 14 #[.slice a 1 c, .int .i64 3, .int .i64 4] w (RetTA w a ([tn4], ⟨0, 0, 0, 0, 0⟩)) := by
  rw [← wk4_eq]
  exact pdelete_any [tn3] a 1 c 3 4 w rfl (by simp) hc hnc hr
theorem wkFind (w : World) (a : Option Addr) (c : Nat) (hr : TRow w a [tn4]) : Calls Try.prog 19 #[.slice a 1 c, .int .i64 3] w (RetTF w (tn4, true)) := by
  rw [← wk5_eq]
  exact pfind_any [tn4] a 1 c 3 w rfl (by simp [maxLen_eq]) hr
theorem wkGet2 (w : World) (a : Option Addr) (c : Nat) (hr : TRow w a [tn4]) : Calls Try.prog 16 #[.slice a 1 c, .int .i64 3] w (fun e w2 => e = .returned (.agg #[.int .i64 161, .int .i64 0, .int .i64 0, .int .i64 0, .int .i64 0]) ∧ Below w.heap.size w w2) := by
  have h := pget_any [tn4] a 1 c 3 w rfl (by simp [maxLen_eq]) hr
  rw [wk6_eq] at h
  exact h

theorem bstep {w w' w'' : World} {o : Obj} (h : Below w.heap.size w w') (h2 : Below (w'.alloc o).heap.size (w'.alloc o) w'') : Below w.heap.size w w'' :=
  (h.alloc h.size o).trans (h2.mono (by have := h.size; simp; omega))
theorem Row.new1 (w : World) (o : Obj) (cs : Array Value) (e : TypeId) (f : Nat × Nat) : Row ((w.alloc o).alloc (.cells cs e f)) (some ⟨w.heap.size + 1, 0, none⟩) cs.toList := by
  have := Row.new (w.alloc o) cs e f
  simpa using this

theorem row_tn2 (w : World) (o : Obj) : TRow ((w.alloc o).alloc (.cells #[.int .i64 3, .int .i64 1, .int .i64 500, .int .i64 400000, .bool false] 38)) (some ⟨w.heap.size + 1, 0, none⟩) [tn2] := Row.new1 _ _ _ _ _

theorem afield_run (e : Int) (v1 v2 v3 v4 : Value) (w : World) : Sem.run Try.prog (Instr.field 27 (.agg #[.int .i64 e, v1, v2, v3, v4]) 0) w = .ok (.int .i64 e) w := by
  simp [Instr.field, go_sem, asAgg]

set_option maxHeartbeats 4000000 in
theorem wakes_any (w : World) : Calls Try.prog 8 #[] w (RetB w true) := by
  have HAF := afield_run
  go_enter Try.func8, Try.ntmps8
  go_wp2_with (first
    | (go_at_call 9; ((with_reducible refine (wkPut1 _).mono ?_); rintro e w1 ⟨a1, c1, rfl, hc1, hn1, _, hr1, hb1⟩))
    | (go_at_call 9; ((with_reducible refine (wkPut2 _ _ _ (fun h => by cases h) (Nat.le_refl _) (row_tn2 _ _)).mono ?_); rintro e w3 ⟨a3, c3, rfl, hc3, hn3, _, hr3, hb3⟩; replace hc3 : 1 ≤ c3 := hc3; have h23 := bstep (Below.refl _ _) hb3; have h13 := bstep hb2 h23))
    | (go_at_call 16; ((with_reducible refine (wkGet1 _ _ _ (Row.alloc hr1 _)).mono ?_); rintro e w2 ⟨rfl, hb2⟩))
    | (go_at_call 14; ((with_reducible refine (wkDelete _ _ _ hn3 hc3 (Row.alloc hr3 _)).mono ?_); rintro e w4 ⟨a4, c4, rfl, hc4, hn4, _, hr4, hb4⟩; replace hc4 : 1 ≤ c4 := hc4; have h24 := bstep h23 hb4; have h14 := bstep h13 hb4))
    | (go_at_call 19; ((with_reducible refine (wkFind _ _ _ (Row.alloc hr4 _)).mono ?_); rintro e w5 ⟨rfl, hb5⟩; have h25 := bstep h24 hb5; have h15 := bstep h14 hb5; have h35 := bstep hb4 hb5; have k1 := h15.alloc h15.size (.cells #[.int .i64 3, .int .i64 0, .int .i64 0, .int .i64 0, .bool true] 38); have k2 := h25.alloc h25.size (.cells #[.int .i64 3, .int .i64 0, .int .i64 0, .int .i64 0, .bool true] 38); have k3 := h35.alloc h35.size (.cells #[.int .i64 3, .int .i64 0, .int .i64 0, .int .i64 0, .bool true] 38); have k4 := hb5.alloc hb5.size (.cells #[.int .i64 3, .int .i64 0, .int .i64 0, .int .i64 0, .bool true] 38); have c1 := own_cells k1; have c2 := own_cells k2; have c3 := own_cells k3; have c4 := own_cells k4; have q1 := ((Below.refl w1.heap.size w1).alloc (Nat.le_refl _) _).trans (k1.mono (by simp)); have q3 := ((Below.refl w3.heap.size w3).alloc (Nat.le_refl _) _).trans (k3.mono (by simp)); obtain ⟨p1, o1, rfl, hcs1⟩ := TRow.at hr1 (k := 0) (by simp); obtain ⟨p3, o3, rfl, hcs3⟩ := TRow.at hr3 (k := 0) (by simp); obtain ⟨_, _, _, x1, _⟩ := hcs1 _ q1; obtain ⟨_, _, _, x3, _⟩ := hcs3 _ q3; clear hcs1 hcs3; simp at x1 x3))
    | (go_at_call 16; ((with_reducible refine (wkGet2 _ _ _ (Row.alloc (Row.below hr4 (((Below.refl w4.heap.size w4).alloc (Nat.le_refl _) _).trans (hb5.mono (by simp)))) _)).mono ?_); rintro e w6 ⟨rfl, hb6⟩; have k6 := k1.trans (hb6.mono k1.size))))
  go_returns
  exact ⟨rfl, ((Below.refl w.heap.size w).trans (hb1.trans ((((Below.refl w1.heap.size w1).alloc (Nat.le_refl _) _).trans (k6.mono (by simp))).mono hb1.size)))⟩
end Go.Proofs.Ytnpbajmpenpnbaa
