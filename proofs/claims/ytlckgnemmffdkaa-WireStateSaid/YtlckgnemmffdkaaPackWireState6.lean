import Derived.Test.YtlckgnemmffdkaaPackWireState1
import Derived.Test.YtlckgnemmffdkaaWirSt
import Derived.Test.YtlckgnemmffdkaaPackWireState5
set_option linter.unusedVariables false
set_option linter.unusedSimpArgs false
/- An argument opened: weir/api.State. (printed by gen_wopen.py) -/
namespace Go.Proofs.Ytlckgnemmffdkaa
open Go.ChangeShapes Go.WideShapes Go.ChangeAt Go.RowKit
set_option maxRecDepth 100000

theorem open_wst {H : Type} {enc : TypeId × Value → H} {w : World} {cs : List Value} (h : Rd enc Try.prog w 56 cs) : ∃ (v : WSt) (p : PSt), cs = cellsSt v p ∧ goodWSt v ∧ LowSt w.heap.size w v p ∧ v.tens.length ≤ 1000000000000000 ∧ v.leas.length ≤ 1000000000000000 ∧ v.sess.length ≤ 1000000000000000 ∧ v.dsks.length ≤ 1000000000000000 := by
  obtain ⟨hl, hf⟩ := h.struct Try.underlying56
  rw [show Try.prog.cellsOf 56 = 7 by kernel_rfl] at hl
  match cs, hl with
  | [v0, v1, v2, v3, v4, v5, v6], _ =>
    have f0 : Rd enc Try.prog w 3 ((([v0, v1, v2, v3, v4, v5, v6] : List Value).drop 0).take (Try.prog.cellsOf 3)) := hf 0 _ rfl
    rw [show Try.prog.cellsOf 3 = 1 by kernel_rfl] at f0
    replace f0 : Rd enc Try.prog w 3 [v0] := f0
    have f1 : Rd enc Try.prog w 3 ((([v0, v1, v2, v3, v4, v5, v6] : List Value).drop 1).take (Try.prog.cellsOf 3)) := hf 1 _ rfl
    rw [show Try.prog.cellsOf 3 = 1 by kernel_rfl] at f1
    replace f1 : Rd enc Try.prog w 3 [v1] := f1
    have f2 : Rd enc Try.prog w 3 ((([v0, v1, v2, v3, v4, v5, v6] : List Value).drop 2).take (Try.prog.cellsOf 3)) := hf 2 _ rfl
    rw [show Try.prog.cellsOf 3 = 1 by kernel_rfl] at f2
    replace f2 : Rd enc Try.prog w 3 [v2] := f2
    have f3 : Rd enc Try.prog w 51 ((([v0, v1, v2, v3, v4, v5, v6] : List Value).drop 3).take (Try.prog.cellsOf 51)) := hf 3 _ rfl
    rw [show Try.prog.cellsOf 51 = 1 by kernel_rfl] at f3
    replace f3 : Rd enc Try.prog w 51 [v3] := f3
    have f4 : Rd enc Try.prog w 52 ((([v0, v1, v2, v3, v4, v5, v6] : List Value).drop 4).take (Try.prog.cellsOf 52)) := hf 4 _ rfl
    rw [show Try.prog.cellsOf 52 = 1 by kernel_rfl] at f4
    replace f4 : Rd enc Try.prog w 52 [v4] := f4
    have f5 : Rd enc Try.prog w 53 ((([v0, v1, v2, v3, v4, v5, v6] : List Value).drop 5).take (Try.prog.cellsOf 53)) := hf 5 _ rfl
    rw [show Try.prog.cellsOf 53 = 1 by kernel_rfl] at f5
    replace f5 : Rd enc Try.prog w 53 [v5] := f5
    have f6 : Rd enc Try.prog w 54 ((([v0, v1, v2, v3, v4, v5, v6] : List Value).drop 6).take (Try.prog.cellsOf 54)) := hf 6 _ rfl
    rw [show Try.prog.cellsOf 54 = 1 by kernel_rfl] at f6
    replace f6 : Rd enc Try.prog w 54 [v6] := f6
    obtain ⟨x0, e0, g0⟩ := f0.int Try.underlying3
    replace g0 := bounds_i64 g0
    simp only [List.cons.injEq, and_true] at e0
    subst e0
    obtain ⟨x1, e1, g1⟩ := f1.int Try.underlying3
    replace g1 := bounds_i64 g1
    simp only [List.cons.injEq, and_true] at e1
    subst e1
    obtain ⟨x2, e2, g2⟩ := f2.int Try.underlying3
    replace g2 := bounds_i64 g2
    simp only [List.cons.injEq, and_true] at e2
    subst e2
    have hs3 : ∃ a n c, v3 = .slice a n c := by
      rcases f3.slice Try.underlying51 with h1 | ⟨a, n, c, h1, _⟩
      · simp at h1; exact ⟨_, _, _, h1⟩
      · simp at h1; exact ⟨_, _, _, h1⟩
    obtain ⟨a3, n3, c3, rfl⟩ := hs3
    obtain ⟨l3, m3, nc3, cm3, bb3, -, g3, r3⟩ := Rd.rows (α := WTen) (cells := cellsWTen) (size := 5) (good := goodWTen) (fun _ => rfl) (by decide) Try.underlying51 (by kernel_rfl) (fun cs hcs => open_wten hcs) f3
    rw [show Try.prog.bytesOf 115 = 40 by kernel_rfl] at bb3
    subst m3
    have hs4 : ∃ a n c, v4 = .slice a n c := by
      rcases f4.slice Try.underlying52 with h1 | ⟨a, n, c, h1, _⟩
      · simp at h1; exact ⟨_, _, _, h1⟩
      · simp at h1; exact ⟨_, _, _, h1⟩
    obtain ⟨a4, n4, c4, rfl⟩ := hs4
    obtain ⟨l4, m4, nc4, cm4, bb4, -, g4, r4⟩ := Rd.rows (α := WLea) (cells := cellsWLea) (size := 7) (good := goodWLea) (fun _ => rfl) (by decide) Try.underlying52 (by kernel_rfl) (fun cs hcs => open_wlea hcs) f4
    rw [show Try.prog.bytesOf 118 = 56 by kernel_rfl] at bb4
    subst m4
    have hs5 : ∃ a n c, v5 = .slice a n c := by
      rcases f5.slice Try.underlying53 with h1 | ⟨a, n, c, h1, _⟩
      · simp at h1; exact ⟨_, _, _, h1⟩
      · simp at h1; exact ⟨_, _, _, h1⟩
    obtain ⟨a5, n5, c5, rfl⟩ := hs5
    obtain ⟨l5, m5, nc5, cm5, bb5, -, g5, r5⟩ := Rd.rows (α := WSes) (cells := cellsWSes) (size := 7) (good := goodWSes) (fun _ => rfl) (by decide) Try.underlying53 (by kernel_rfl) (fun cs hcs => open_wses hcs) f5
    rw [show Try.prog.bytesOf 120 = 56 by kernel_rfl] at bb5
    subst m5
    have hs6 : ∃ a n c, v6 = .slice a n c := by
      rcases f6.slice Try.underlying54 with h1 | ⟨a, n, c, h1, _⟩
      · simp at h1; exact ⟨_, _, _, h1⟩
      · simp at h1; exact ⟨_, _, _, h1⟩
    obtain ⟨a6, n6, c6, rfl⟩ := hs6
    obtain ⟨l6, m6, nc6, cm6, bb6, -, g6, r6⟩ := Rd.rows (α := WDsk) (cells := cellsWDsk) (size := 8) (good := goodWDsk) (fun _ => rfl) (by decide) Try.underlying54 (by kernel_rfl) (fun cs hcs => open_wdsk hcs) f6
    rw [show Try.prog.bytesOf 122 = 64 by kernel_rfl] at bb6
    subst m6
    have hh : l3.length ≤ 1000000000000000 ∧ l4.length ≤ 1000000000000000 ∧ l5.length ≤ 1000000000000000 ∧ l6.length ≤ 1000000000000000 := by unfold reachBytes at bb3 bb4 bb5 bb6; omega
    exact ⟨⟨x0, x1, x2, l3, l4, l5, l6⟩, (a3, c3, a4, c4, a5, c5, a6, c6), rfl, ⟨inI_of g0, inI_of g1, inI_of g2, ⟨short_of nc3 cm3, g3⟩, ⟨short_of nc4 cm4, g4⟩, ⟨short_of nc5 cm5, g5⟩, ⟨short_of nc6 cm6, g6⟩⟩, ⟨LowRow.of r3 (Nat.le_refl _), LowRow.of r4 (Nat.le_refl _), LowRow.of r5 (Nat.le_refl _), LowRow.of r6 (Nat.le_refl _)⟩, hh⟩
end Go.Proofs.Ytlckgnemmffdkaa

/- A state too great for the law; the lengths of a state read. -/
namespace Go.Proofs.Ytlckgnemmffdkaa
open Go.ChangeShapes Go.WideShapes Go.ChangeAt Go.RowKit
set_option maxRecDepth 100000

theorem enc_lists {x : WSt} {n : Nat} (h : (encWSt x).length ≤ n) : x.tens.length ≤ n ∧ x.leas.length ≤ n ∧ x.sess.length ≤ n ∧ x.dsks.length ≤ n := by
  simp only [encWSt, List.length_append] at h
  have a0 := flat_len (f := encWTen) (fun x => by have := encWTen_size x; omega) x.tens
  have a1 := flat_len (f := encWLea) (fun x => by have := encWLea_size x; omega) x.leas
  have a2 := flat_len (f := encWSes) (fun x => by have := encWSes_size x; omega) x.sess
  have a3 := flat_len (f := encWDsk) (fun x => by have := encWDsk_size x; omega) x.dsks
  omega
theorem read_lists (l : List UInt8) (hl : l.length ≤ 1000000) : (readP zSt wStP l).1.tens.length ≤ 1000000 ∧ (readP zSt wStP l).1.leas.length ≤ 1000000 ∧ (readP zSt wStP l).1.sess.length ≤ 1000000 ∧ (readP zSt wStP l).1.dsks.length ≤ 1000000 := by
  have hz : zSt.tens.length ≤ 1000000 ∧ zSt.leas.length ≤ 1000000 ∧ zSt.sess.length ≤ 1000000 ∧ zSt.dsks.length ≤ 1000000 := by simp [zSt]
  unfold readP
  rw [if_neg (by omega)]
  cases h0 : wStP l 0 with
  | error e => exact hz
  | ok y =>
    obtain ⟨x, q⟩ := y
    obtain ⟨-, -, he, -⟩ := wSt_wrote l 0 x q (Nat.zero_le _) h0
    have h1 := congrArg List.length he
    rw [List.length_take, List.length_drop] at h1
    have h2 : (encWSt x).length ≤ 1000000 := by omega
    simp only
    split
    · exact hz
    · exact enc_lists h2
/-- Rows in new memory lie ahead of what comes later. -/
theorem MemSt.low {W w : World} {v : WSt} {p : PSt} (h : MemSt W w v p) : LowSt w.heap.size w v p := ⟨LowRow.of h.row0.row (Nat.le_refl _), LowRow.of h.row1.row (Nat.le_refl _), LowRow.of h.row2.row (Nat.le_refl _), LowRow.of h.row3.row (Nat.le_refl _)⟩
theorem flat_le {α : Type} {f : α → List UInt8} {n : Nat} (hf : ∀ x, (f x).length ≤ n) (xs : List α) : (xs.flatMap f).length ≤ xs.length * n := by
  induction xs with
  | nil => simp
  | cons x xs ih => rw [List.flatMap_cons, List.length_append, List.length_cons, Nat.succ_mul]; have := hf x; omega
theorem ok_st {x : WSt} (h : x.tens.length + x.leas.length + x.sess.length + x.dsks.length ≤ 300) : OkSt x := ⟨by
  simp only [encWSt, List.length_append, be8_length]
  have a0 := flat_le (f := encWTen) (n := 64) (fun x => by simp [encWTen, be8_length]) x.tens
  have a1 := flat_le (f := encWLea) (n := 64) (fun x => by simp [encWLea, be8_length]) x.leas
  have a2 := flat_le (f := encWSes) (n := 64) (fun x => by simp [encWSes, encWAns, be8_length]) x.sess
  have a3 := flat_le (f := encWDsk) (n := 64) (fun x => by simp [encWDsk, encWAns, be8_length]) x.dsks
  omega⟩
theorem great_state (v : WSt) (p : PSt) (w : World) (h : v.tens.length ≤ 1000000000000000 ∧ v.leas.length ≤ 1000000000000000 ∧ v.sess.length ≤ 1000000000000000 ∧ v.dsks.length ≤ 1000000000000000) :
    Calls Try.prog 28 #[valSt v p] w (fun e w' => e = .returned (.bool (decide (300 < v.tens.length + v.leas.length + v.sess.length + v.dsks.length))) ∧ Below w.heap.size w w') := by
  obtain ⟨t0, t1, t2, l0, l1, l2, l3⟩ := v
  obtain ⟨p0, p0', p1, p1', p2, p2', p3, p3'⟩ := p
  simp only at h ⊢
  have e1 : IntKind.i64.wrap ((l0.length : Int) + l1.length) = l0.length + l1.length := IntWalk.i64_in _ (by omega)
  have e2 : IntKind.i64.wrap ((l0.length : Int) + l1.length + l2.length) = l0.length + l1.length + l2.length := IntWalk.i64_in _ (by omega)
  have e3 : IntKind.i64.wrap ((l0.length : Int) + l1.length + l2.length + l3.length) = l0.length + l1.length + l2.length + l3.length := IntWalk.i64_in _ (by omega)
  have HB : Hid (Below w.heap.size w (w.alloc (.cells #[.int .i64 t0, .int .i64 t1, .int .i64 t2, .slice p0 l0.length p0', .slice p1 l1.length p1', .slice p2 l2.length p2', .slice p3 l3.length p3'] 56))) := Lib.hid (mid_alloc' (Below.refl _ _))
  have HD : Hid (∀ b, decide ((300 : Int) < (l0.length : Int) + l1.length + l2.length + l3.length) = b → decide (300 < l0.length + l1.length + l2.length + l3.length) = b) := fun b hb => by rw [← hb]; apply decide_eq_decide.2; omega
  clear h
  generalize decide (300 < l0.length + l1.length + l2.length + l3.length) = g at HD ⊢
  unfold valSt
  simp only
  go_enter Try.func28, Try.ntmps28
  go_wp2
  go_returns
  exact ⟨by rw [HD.out _ rfl]; rfl, HB.out⟩
end Go.Proofs.Ytlckgnemmffdkaa
