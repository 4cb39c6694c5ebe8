import Derived.Test.YtmihgdjnjfjjcaaRwMem
set_option linter.unusedVariables false
set_option linter.unusedSimpArgs false
/- May an entry be, by the document (weirref09.entry). (printed by gen_rwref.py) -/
namespace Go.Proofs.Ytmihgdjnjfjjcaa
open Go.ChangeShapes Go.WideShapes Go.ChangeAt Go.RowKit
set_option maxRecDepth 100000

set_option maxHeartbeats 4000000 in
theorem refentry_any (x : WEnt) (p : Option Addr × Nat) (t : Int) (w : World) :
    Calls Try.prog 34 #[.agg #[.int .i64 x.term, .int .i8 x.kind, .int .i64 x.stamp, B x.set, .slice p.1 x.data.length p.2], .int .i64 t] w (RetSame w (mayE t x)) := by
  obtain ⟨x0, x1, x2, x3, x4⟩ := x
  obtain ⟨p0, p1⟩ := p
  have hmt := @may_t t ⟨x0, x1, x2, x3, x4⟩
  have hmf := @may_f t ⟨x0, x1, x2, x3, x4⟩
  simp only at hmt hmf ⊢
  generalize mayE t ⟨x0, x1, x2, x3, x4⟩ = r at hmt hmf ⊢
  have HT := Lib.hid hmt
  have HF := Lib.hid hmf
  clear hmt hmf
  rcases f1 : decide (x0 < 1) with _ | _
  rotate_left
  · (go_enter Try.func34, Try.ntmps34; go_wp2_with fail)
    all_goals (go_ret; first | exact ⟨congrArg (fun b => Ending.returned (.bool b)) (HF.out (by simp only [beq_eq_false_iff_ne, beq_iff_eq, bne_iff_ne, bne_eq_false_iff_eq, decide_eq_true_eq, decide_eq_false_iff_not, ne_eq] at f1; omega)).symm, mid_alloc' (Below.refl _ _)⟩ | exact ⟨congrArg (fun b => Ending.returned (.bool b)) (HT.out (by simp only [beq_eq_false_iff_ne, beq_iff_eq, bne_iff_ne, bne_eq_false_iff_eq, decide_eq_true_eq, decide_eq_false_iff_not, ne_eq] at f1; omega)).symm, mid_alloc' (Below.refl _ _)⟩)
  rcases f2 : decide (x0 < t) with _ | _
  rotate_left
  · (go_enter Try.func34, Try.ntmps34; go_wp2_with fail)
    all_goals (go_ret; first | exact ⟨congrArg (fun b => Ending.returned (.bool b)) (HF.out (by simp only [beq_eq_false_iff_ne, beq_iff_eq, bne_iff_ne, bne_eq_false_iff_eq, decide_eq_true_eq, decide_eq_false_iff_not, ne_eq] at f2; omega)).symm, mid_alloc' (Below.refl _ _)⟩ | exact ⟨congrArg (fun b => Ending.returned (.bool b)) (HT.out (by simp only [beq_eq_false_iff_ne, beq_iff_eq, bne_iff_ne, bne_eq_false_iff_eq, decide_eq_true_eq, decide_eq_false_iff_not, ne_eq] at f2; omega)).symm, mid_alloc' (Below.refl _ _)⟩)
  rcases f3 : decide (x2 < 0) with _ | _
  rotate_left
  · (go_enter Try.func34, Try.ntmps34; go_wp2_with fail)
    all_goals (go_ret; first | exact ⟨congrArg (fun b => Ending.returned (.bool b)) (HF.out (by simp only [beq_eq_false_iff_ne, beq_iff_eq, bne_iff_ne, bne_eq_false_iff_eq, decide_eq_true_eq, decide_eq_false_iff_not, ne_eq] at f3; omega)).symm, mid_alloc' (Below.refl _ _)⟩ | exact ⟨congrArg (fun b => Ending.returned (.bool b)) (HT.out (by simp only [beq_eq_false_iff_ne, beq_iff_eq, bne_iff_ne, bne_eq_false_iff_eq, decide_eq_true_eq, decide_eq_false_iff_not, ne_eq] at f3; omega)).symm, mid_alloc' (Below.refl _ _)⟩)
  rcases f4 : decide (x1 < 0) with _ | _
  rotate_left
  · (go_enter Try.func34, Try.ntmps34; go_wp2_with fail)
    all_goals (go_ret; first | exact ⟨congrArg (fun b => Ending.returned (.bool b)) (HF.out (by simp only [beq_eq_false_iff_ne, beq_iff_eq, bne_iff_ne, bne_eq_false_iff_eq, decide_eq_true_eq, decide_eq_false_iff_not, ne_eq] at f4; omega)).symm, mid_alloc' (Below.refl _ _)⟩ | exact ⟨congrArg (fun b => Ending.returned (.bool b)) (HT.out (by simp only [beq_eq_false_iff_ne, beq_iff_eq, bne_iff_ne, bne_eq_false_iff_eq, decide_eq_true_eq, decide_eq_false_iff_not, ne_eq] at f4; omega)).symm, mid_alloc' (Below.refl _ _)⟩)
  rcases f5 : decide ((2 : Int) < x1) with _ | _
  rotate_left
  · (go_enter Try.func34, Try.ntmps34; go_wp2_with fail)
    all_goals (go_ret; first | exact ⟨congrArg (fun b => Ending.returned (.bool b)) (HF.out (by simp only [beq_eq_false_iff_ne, beq_iff_eq, bne_iff_ne, bne_eq_false_iff_eq, decide_eq_true_eq, decide_eq_false_iff_not, ne_eq] at f5; omega)).symm, mid_alloc' (Below.refl _ _)⟩ | exact ⟨congrArg (fun b => Ending.returned (.bool b)) (HT.out (by simp only [beq_eq_false_iff_ne, beq_iff_eq, bne_iff_ne, bne_eq_false_iff_eq, decide_eq_true_eq, decide_eq_false_iff_not, ne_eq] at f5; omega)).symm, mid_alloc' (Below.refl _ _)⟩)
  have HS := Lib.hid (And.intro f1 (And.intro f2 (And.intro f3 (And.intro f4 f5))))
  rcases e1 : (x1 == 1) with _ | _ <;> rcases e3 : ((x3.toNat : Int) != 0) with _ | _ <;> rcases e2 : (x1 == 2) with _ | _ <;> rcases e4 : ((x4.length : Int) == 0) with _ | _ <;> rcases e5 : decide ((x4.length : Int) ≤ 16384) with _ | _
  all_goals
    (go_enter Try.func34, Try.ntmps34; go_wp2_with fail)
    all_goals (go_ret; first | exact ⟨congrArg (fun b => Ending.returned (.bool b)) (HF.out (by simp only [beq_eq_false_iff_ne, beq_iff_eq, bne_iff_ne, bne_eq_false_iff_eq, decide_eq_true_eq, decide_eq_false_iff_not, ne_eq] at f1 f2 f3 f4 f5 e1 e2 e3 e4 e5; omega)).symm, mid_alloc' (Below.refl _ _)⟩ | exact ⟨congrArg (fun b => Ending.returned (.bool b)) (HT.out (by simp only [beq_eq_false_iff_ne, beq_iff_eq, bne_iff_ne, bne_eq_false_iff_eq, decide_eq_true_eq, decide_eq_false_iff_not, ne_eq] at f1 f2 f3 f4 f5 e1 e2 e3 e4 e5; omega)).symm, mid_alloc' (Below.refl _ _)⟩)
end Go.Proofs.Ytmihgdjnjfjjcaa
