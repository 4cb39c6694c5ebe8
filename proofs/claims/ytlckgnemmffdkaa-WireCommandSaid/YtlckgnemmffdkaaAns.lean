import Derived.Test.YtlckgnemmffdkaaLay
import Derived.Test.YtlckgnemmffdkaaAnsMath
namespace Go.Proofs.Ytlckgnemmffdkaa
open Go.ChangeShapes Go.WideShapes Go.ChangeAt Go.RowKit
set_option maxRecDepth 100000

abbrev Ans.agg (a : Ans) : Value := .agg #[.int .i64 a.e, .int .i64 a.rate, .int .i64 a.burst, .int .i64 a.lease, .int .i64 a.size]
abbrev Ans.cells (t : Ans) : List Value := [.int .i64 t.e, .int .i64 t.rate, .int .i64 t.burst, .int .i64 t.lease, .int .i64 t.size]
def layAns : Lay Try.prog 42 Ans := Lay.struct Ans.cells 5 40 (fun _ => rfl) (by decide) (by decide) (fun x u hu => by simp at hu; rcases hu with h | h | h | h | h <;> subst h <;> rfl) (by kernel_rfl) _ Try.underlying42 rfl
theorem cellsAns {w : World} {b o : Nat} {t : Ans} (h : w.rangeAt b o t.cells) : w.cell? ⟨b, o, none⟩ = some (.int .i64 t.e) ∧ w.cell? ⟨b, o + 1, none⟩ = some (.int .i64 t.rate) ∧ w.cell? ⟨b, o + 2, none⟩ = some (.int .i64 t.burst) ∧ w.cell? ⟨b, o + 3, none⟩ = some (.int .i64 t.lease) ∧ w.cell? ⟨b, o + 4, none⟩ = some (.int .i64 t.size) :=
  ⟨h 0 _ rfl, h 1 _ rfl, h 2 _ rfl, h 3 _ rfl, h 4 _ rfl⟩
theorem aeq_run (t u : Ans) (w : World) : (Op.equalIn 10000 42 t.agg u.agg).run Try.prog w = .ok (decide (t = u)) w := by
  obtain ⟨t0, t1, t2, t3, t4⟩ := t
  obtain ⟨u0, u1, u2, u3, u4⟩ := u
  have hp : Try.prog.stoodInHeld 42 = false := by kernel_rfl
  have hi := fun (d : Nat) (a b : Int) (w : World) => run_equalIn_int (P := Try.prog) w d 3 .i64 .i64 a b Try.underlying3
  have he := fun (d : Nat) (a b : Int) (w : World) => run_equalIn_int (P := Try.prog) w d 24 .i64 .i64 a b Try.underlying24
  simp [go_sem, hp, hi, he]
  by_cases e0 : t0 = u0 <;> by_cases e1 : t1 = u1 <;> by_cases e2 : t2 = u2 <;> by_cases e3 : t3 = u3 <;> by_cases e4 : t4 = u4 <;> simp [e0, e1, e2, e3, e4]
theorem aeql_run (t u : Ans) (w : World) : (binOp .eql 42 t.agg u.agg).run Try.prog w = .ok (.bool (decide (t = u))) w := by
  rw [run_eql_struct, aeq_run]; rfl

theorem aeql_same (e r b l s : Int) (w : World) : (binOp .eql 42 (.agg #[.int .i64 e, .int .i64 r, .int .i64 b, .int .i64 l, .int .i64 s]) (.agg #[.int .i64 e, .int .i64 r, .int .i64 b, .int .i64 l, .int .i64 s])).run Try.prog w = .ok (.bool true) w := by
  have h := aeql_run ⟨e, r, b, l, s⟩ ⟨e, r, b, l, s⟩ w
  simpa using h

theorem aneq_same (e r b l s : Int) (w : World) : (binOp .neq 42 (.agg #[.int .i64 e, .int .i64 r, .int .i64 b, .int .i64 l, .int .i64 s]) (.agg #[.int .i64 e, .int .i64 r, .int .i64 b, .int .i64 l, .int .i64 s])).run Try.prog w = .ok (.bool false) w := by
  have h := aeq_run ⟨e, r, b, l, s⟩ ⟨e, r, b, l, s⟩ w
  rw [run_neq_struct, h]
  simp

end Go.Proofs.Ytlckgnemmffdkaa
