import Derived.Test.YtmihgdjnjfjjcaaPackFollowAsks1
import Derived.Test.YtmihgdjnjfjjcaaPackFollowAsks2
import Derived.Deep.QuietTactic
import Derived.BigQuiet
import Derived.Lib.Hide
set_option linter.unusedVariables false
set_option linter.unusedSimpArgs false
/- Rows of entries in memory; may an entry be (rows.may, weirref09.entry). -/
namespace Go.Proofs.Ytmihgdjnjfjjcaa
open Go.ChangeShapes Go.WideShapes Go.ChangeAt Go.RowKit
set_option maxRecDepth 100000

/-- An entry, and where its bytes lie. -/
abbrev RwE := WEnt × (Option Addr × Nat)
abbrev cellsRw (x : RwE) : List Value := [.int .i64 x.1.term, .int .i8 x.1.kind, .int .i64 x.1.stamp, B x.1.set, .slice x.2.1 x.1.data.length x.2.2]
abbrev ents (es : List RwE) : List WEnt := es.map Prod.fst
theorem rowsAt {α : Type} {cells : α → List Value} {size : Nat} (hs : ∀ x, (cells x).length = size) {w : World} {a : Option Addr} {xs : List α} (h : Row w a (xs.flatMap cells)) {k : Nat} (hk : k < xs.length) (h0 : 0 < size) : ∃ b o, a = some ⟨b, o, none⟩ ∧ ∀ r, r < size → w.cell? ⟨b, o + k * size + r, none⟩ = (cells xs[k])[r]? := by
  have hle : k * size + size ≤ xs.length * size := by rw [← Nat.succ_mul]; exact Nat.mul_le_mul_right _ hk
  have hl : (xs.flatMap cells).length = xs.length * size := flatMap_len hs xs
  have h2 : k * size < (xs.flatMap cells).length := by omega
  obtain ⟨b, o, ha, hc⟩ := Row.at h h2
  refine ⟨b, o, ha, fun r hr => ?_⟩
  have h3 : k * size + r < (xs.flatMap cells).length := by omega
  have h1 := flatMap_at (cells := cells) hs (xs := xs) (i := k) hr
  rw [List.getElem?_eq_getElem hk, Option.bind_some] at h1
  rw [Nat.add_assoc, hc _ h3, ← h1, List.getElem?_eq_getElem h3]
/-- An entry's five cells at a place. -/
structure EntAt (w : World) (b q : Nat) (x : WEnt) (p : Option Addr × Nat) : Prop where
  c0 : w.cell? ⟨b, q, none⟩ = some (.int .i64 x.term)
  c1 : w.cell? ⟨b, q + 1, none⟩ = some (.int .i8 x.kind)
  c2 : w.cell? ⟨b, q + 2, none⟩ = some (.int .i64 x.stamp)
  c3 : w.cell? ⟨b, q + 3, none⟩ = some (B x.set)
  c4 : w.cell? ⟨b, q + 4, none⟩ = some (.slice p.1 x.data.length p.2)
theorem entAt {w : World} {a : Option Addr} {es : List RwE} (h : Row w a (es.flatMap cellsRw)) {k : Nat} (hk : k < es.length) : ∃ b o, a = some ⟨b, o, none⟩ ∧ EntAt w b (o + k * 5) es[k].1 es[k].2 := by
  obtain ⟨b, o, ha, hc⟩ := rowsAt (size := 5) (cells := cellsRw) (fun _ => rfl) h hk (by decide)
  exact ⟨b, o, ha, hc 0 (by decide), hc 1 (by decide), hc 2 (by decide), hc 3 (by decide), hc 4 (by decide)⟩
theorem may_t {t : Int} {x : WEnt} (h : 1 ≤ x.term ∧ t ≤ x.term ∧ 0 ≤ x.stamp ∧ 0 ≤ x.kind ∧ x.kind ≤ 2 ∧ (x.kind = 1 ↔ x.set.toNat ≠ 0) ∧ (x.kind = 2 ∨ x.data.length = 0) ∧ x.data.length ≤ 16384) : mayE t x = true := decide_eq_true h
theorem may_f {t : Int} {x : WEnt} (h : ¬ (1 ≤ x.term ∧ t ≤ x.term ∧ 0 ≤ x.stamp ∧ 0 ≤ x.kind ∧ x.kind ≤ 2 ∧ (x.kind = 1 ↔ x.set.toNat ≠ 0) ∧ (x.kind = 2 ∨ x.data.length = 0) ∧ x.data.length ≤ 16384)) : mayE t x = false := decide_eq_false h
def RetMay (w : World) (r : Bool) (e : Ending) (w' : World) : Prop := e = .returned (.bool r) ∧ ∃ n, w' = w.drewN n
def RetSame (w : World) (r : Bool) (e : Ending) (w' : World) : Prop := e = .returned (.bool r) ∧ Below w.heap.size w w'
theorem ret_may {w w' : World} {r b : Bool} (h : r = b) (n : Nat) (hw : w' = w.drewN n) : RetMay w r (.returned (.bool b)) w' := ⟨by rw [h], n, hw⟩
set_option maxHeartbeats 4000000 in
theorem may_any (b q : Nat) (x : WEnt) (p : Option Addr × Nat) (t : Int) (w : World) (h : EntAt w b q x p) :
    Calls Try.prog 41 #[.pointer (some ⟨b, q, none⟩), .int .i64 t] w (RetMay w (mayE t x)) := by
  obtain ⟨h0, h1, h2, h3, h4⟩ := h
  obtain ⟨x0, x1, x2, x3, x4⟩ := x
  obtain ⟨p0, p1⟩ := p
  simp only at h0 h1 h2 h3 h4
  have hmt := @may_t t ⟨x0, x1, x2, x3, x4⟩
  have hmf := @may_f t ⟨x0, x1, x2, x3, x4⟩
  simp only at hmt hmf
  generalize mayE t ⟨x0, x1, x2, x3, x4⟩ = r at hmt hmf ⊢
  have HT := Lib.hid hmt
  have HF := Lib.hid hmf
  clear hmt hmf
  obtain ⟨b1, e1⟩ : ∃ b1, (x1 == 1) = b1 := ⟨_, rfl⟩
  obtain ⟨b2, e2⟩ : ∃ b2, (x1 != 2) = b2 := ⟨_, rfl⟩
  obtain ⟨b3, e3⟩ : ∃ b3, ((x3.toNat : Int) != 0) = b3 := ⟨_, rfl⟩
  cases b1 <;> cases b2 <;> cases b3
  all_goals
    go_enter Try.func41, Try.ntmps41
    go_wp2_with fail
    all_goals first
      | (go_ret; first | exact ret_may (HF.out (by simp at e1 e2 e3; omega)) 0 rfl | exact ret_may (HT.out (by simp at e1 e2 e3; omega)) 0 rfl | exact ret_may (HF.out (by simp at e1 e2 e3; omega)) _ rfl | exact ret_may (HT.out (by simp at e1 e2 e3; omega)) _ rfl | exact ret_may (by by_cases hc : x4.length ≤ 16384 <;> first | (rw [HT.out (by simp at e1 e2 e3; omega)]; exact (decide_eq_true (by omega)).symm) | (rw [HF.out (by simp at e1 e2 e3; omega)]; exact (decide_eq_false (by omega)).symm)) _ rfl)
      | (go_quiet (fail); go_wp2_with fail; all_goals (go_ret; first | exact ret_may (HF.out (by simp at e1 e2 e3; omega)) 0 rfl | exact ret_may (HT.out (by simp at e1 e2 e3; omega)) 0 rfl | exact ret_may (HF.out (by simp at e1 e2 e3; omega)) _ rfl | exact ret_may (HT.out (by simp at e1 e2 e3; omega)) _ rfl | exact ret_may (by by_cases hc : x4.length ≤ 16384 <;> first | (rw [HT.out (by simp at e1 e2 e3; omega)]; exact (decide_eq_true (by omega)).symm) | (rw [HF.out (by simp at e1 e2 e3; omega)]; exact (decide_eq_false (by omega)).symm)) _ rfl))
end Go.Proofs.Ytmihgdjnjfjjcaa
