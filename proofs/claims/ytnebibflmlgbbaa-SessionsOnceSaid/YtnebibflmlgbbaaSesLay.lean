import Derived.Test.YtnebibflmlgbbaaLay
import Derived.Test.YtnebibflmlgbbaaAns
namespace Go.Proofs.Ytnebibflmlgbbaa
open Go.ChangeShapes Go.WideShapes Go.ChangeAt Go.RowKit

structure Session where
  client : Int
  number : Int
  answer : Ans
  deriving DecidableEq
abbrev Session.cells (t : Session) : List Value := [.int .i64 t.client, .int .i64 t.number, .int .i64 t.answer.e, .int .i64 t.answer.rate, .int .i64 t.answer.burst, .int .i64 t.answer.lease, .int .i64 t.answer.size]
abbrev Session.agg (t : Session) : Value := .agg #[.int .i64 t.client, .int .i64 t.number, .int .i64 t.answer.e, .int .i64 t.answer.rate, .int .i64 t.answer.burst, .int .i64 t.answer.lease, .int .i64 t.answer.size]
def laySes : Lay Try.prog 44 Session := Lay.struct Session.cells 7 56 (fun _ => rfl) (by decide) (by decide) (fun x u hu => by simp at hu; rcases hu with h | h | h | h | h | h | h <;> subst h <;> rfl) (by kernel_rfl) _ Try.underlying44 rfl
theorem laySes_val (t : Session) : laySes.val t = t.agg := rfl
theorem cellsSes {w : World} {b o : Nat} {t : Session} (h : w.rangeAt b o t.cells) : w.cell? ⟨b, o, none⟩ = some (.int .i64 t.client) ∧ w.cell? ⟨b, o + 1, none⟩ = some (.int .i64 t.number) ∧ w.cell? ⟨b, o + 2, none⟩ = some (.int .i64 t.answer.e) ∧ w.cell? ⟨b, o + 3, none⟩ = some (.int .i64 t.answer.rate) ∧ w.cell? ⟨b, o + 4, none⟩ = some (.int .i64 t.answer.burst) ∧ w.cell? ⟨b, o + 5, none⟩ = some (.int .i64 t.answer.lease) ∧ w.cell? ⟨b, o + 6, none⟩ = some (.int .i64 t.answer.size) :=
  ⟨h 0 _ rfl, h 1 _ rfl, h 2 _ rfl, h 3 _ rfl, h 4 _ rfl, h 5 _ rfl, h 6 _ rfl⟩
theorem atSes {w : World} {a : Option Addr} {ts : List Session} (h : LRow laySes w a ts) {k : Nat} (hk : k < ts.length) :
    ∃ b o, a = some ⟨b, o, none⟩ ∧ ∀ w', Below w.heap.size w w' → w'.cell? ⟨b, o + k * 7, none⟩ = some (.int .i64 ts[k].client) ∧ w'.cell? ⟨b, o + k * 7 + 1, none⟩ = some (.int .i64 ts[k].number) ∧ w'.cell? ⟨b, o + k * 7 + 2, none⟩ = some (.int .i64 ts[k].answer.e) ∧ w'.cell? ⟨b, o + k * 7 + 3, none⟩ = some (.int .i64 ts[k].answer.rate) ∧ w'.cell? ⟨b, o + k * 7 + 4, none⟩ = some (.int .i64 ts[k].answer.burst) ∧ w'.cell? ⟨b, o + k * 7 + 5, none⟩ = some (.int .i64 ts[k].answer.lease) ∧ w'.cell? ⟨b, o + k * 7 + 6, none⟩ = some (.int .i64 ts[k].answer.size) := by
  obtain ⟨b, o, rfl, hc⟩ := LRow.range h hk
  exact ⟨b, o, rfl, fun w' hb => cellsSes (hc w' hb)⟩
theorem eqSes_run (t u : Session) (w : World) : (Op.equalIn 10000 44 t.agg u.agg).run Try.prog w = .ok (decide (t = u)) w := by
  obtain ⟨t0, t1, ⟨t2e, t2rate, t2burst, t2lease, t2size⟩⟩ := t
  obtain ⟨u0, u1, ⟨u2e, u2rate, u2burst, u2lease, u2size⟩⟩ := u
  have hp : Try.prog.stoodInHeld 44 = false := by kernel_rfl
  have herrno := fun (d : Nat) (a b : Int) (w : World) => run_equalIn_int (P := Try.prog) w d 24 .i64 .i64 a b Try.underlying24
  have hint := fun (d : Nat) (a b : Int) (w : World) => run_equalIn_int (P := Try.prog) w d 3 .i64 .i64 a b Try.underlying3
  have hpAns : Try.prog.stoodInHeld 26 = false := by kernel_rfl
  simp [go_sem, hp, herrno, hint, hpAns]
  by_cases e0 : t0 = u0 <;> by_cases e1 : t1 = u1 <;> by_cases e2 : t2e = u2e <;> by_cases e3 : t2rate = u2rate <;> by_cases e4 : t2burst = u2burst <;> by_cases e5 : t2lease = u2lease <;> by_cases e6 : t2size = u2size <;> simp [e0, e1, e2, e3, e4, e5, e6]
theorem eqlSes_run (t u : Session) (w : World) : (binOp .eql 44 t.agg u.agg).run Try.prog w = .ok (.bool (decide (t = u))) w := by
  rw [run_eql_struct, eqSes_run]; rfl
theorem neqSes_run (t u : Session) (w : World) : (binOp .neq 44 t.agg u.agg).run Try.prog w = .ok (.bool (!decide (t = u))) w := by
  rw [run_neq_struct, eqSes_run]; rfl
end Go.Proofs.Ytnebibflmlgbbaa
