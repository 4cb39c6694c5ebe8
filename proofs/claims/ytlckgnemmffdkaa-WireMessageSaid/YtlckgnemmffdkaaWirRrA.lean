import Derived.Test.YtlckgnemmffdkaaWirRrE
set_option linter.unusedVariables false
set_option linter.unusedSimpArgs false
/- The document's reader: an answer. (printed by gen_wirrefr.py) -/
namespace Go.Proofs.Ytlckgnemmffdkaa
open Go.ChangeShapes Go.WideShapes Go.ChangeAt Go.RowKit
set_option maxRecDepth 100000

abbrev PAns := Unit
def valAns (v : WAns) (_ : PAns) : Value := .agg #[.int .i64 v.e, .int .i64 v.rate, .int .i64 v.burst, .int .i64 v.lease, .int .i64 v.size]
structure MemAns (W w : World) (v : WAns) (p : PAns) : Prop where
  any : True
theorem MemAns.keep {S : Nat → Prop} {W w w' : World} {v : WAns} {p : PAns} (_ : MemAns W w v p) (_ : Keep S w w') (_ : ∀ k, S k → k < W.heap.size) : MemAns W w' v p := ⟨trivial⟩
theorem MemAns.mono {W W' w : World} {v : WAns} {p : PAns} (_ : MemAns W w v p) (_ : W'.heap.size ≤ W.heap.size) : MemAns W' w v p := ⟨trivial⟩
theorem MemAns.below {W w w' : World} {v : WAns} {p : PAns} (_ : MemAns W w v p) (_ : Below w.heap.size w w') : MemAns W w' v p := ⟨trivial⟩
theorem MemAns.turnE {W w w' : World} {v : WAns} {p : PAns} {g : Nat} (_ : MemAns W w v p) (_ : Turn g g w w') (_ : g < W.heap.size) : MemAns W w' v p := ⟨trivial⟩
def zAns : WAns := ⟨0, 0, 0, 0, 0⟩
def pzAns : PAns := ()
theorem memzAns (W w : World) : MemAns W w zAns pzAns := ⟨trivial⟩
def RetRdAns (w : World) (r : WAns × Nat × Int) (e : Ending) (w' : World) : Prop := ∃ p, e = .returned (.tuple #[valAns r.1 p, .int .i64 r.2.1, .int .i64 r.2.2]) ∧ MemAns w w' r.1 p ∧ Below w.heap.size w w'
def AnsE (w : World) (v : WAns) (e : Ending) (w' : World) : Prop := ∃ p, e = .returned (valAns v p) ∧ MemAns w w' v p
set_option maxHeartbeats 4000000 in
theorem answer_rr (g c : Nat) (a : Option Addr) (bs : List UInt8) (st : Except Nat Nat) (w : World) (hl : bs.length ≤ 2000000) (h : Rs w g a c bs st) :
    Calls Try.prog 60 #[.pointer (some ⟨g, 0, none⟩)] w (RetRf w g a c bs wAnsP st (AnsE w)) := by
  have hB : Below w.heap.size w ((w.alloc (.cells #[.int .i64 0, .int .i64 0, .int .i64 0, .int .i64 0, .int .i64 0] 42)).alloc (.cells #[.int .i64 0, .int .i64 0, .int .i64 0, .int .i64 0, .int .i64 0] 42)) := mid_alloc' (mid_alloc' (Below.refl _ _))
  have hgl := h.lt
  have HX := Lib.hid (Box.of_alloc1 (w := w) (o := .cells #[.int .i64 0, .int .i64 0, .int .i64 0, .int .i64 0, .int .i64 0] 42) (cs := [.int .i64 0, .int .i64 0, .int .i64 0, .int .i64 0, .int .i64 0]) (t := 42) (Below.refl _ _))
  have HRB := Lib.hid (Box.of_alloc (w := w) (cs := [.int .i64 0, .int .i64 0, .int .i64 0, .int .i64 0, .int .i64 0]) (t := 42) (mid_alloc' (Below.refl _ _) : Below (w.alloc (.cells #[.int .i64 0, .int .i64 0, .int .i64 0, .int .i64 0, .int .i64 0] 42)).heap.size (w.alloc (.cells #[.int .i64 0, .int .i64 0, .int .i64 0, .int .i64 0, .int .i64 0] 42)) ((w.alloc (.cells #[.int .i64 0, .int .i64 0, .int .i64 0, .int .i64 0, .int .i64 0] 42)).alloc (.cells #[.int .i64 0, .int .i64 0, .int .i64 0, .int .i64 0, .int .i64 0] 42))))
  have HS := Lib.hid (h.below hB)
  have HT := Lib.hid (Turn.below (g := g) (gx := g) hB)
  have HO := Lib.hid (And.intro (h.new (k := w.heap.size + 1) (by omega)) (And.intro (h.new (k := w.heap.size) (Nat.le_refl _)) (And.intro (show w.heap.size + 1 ≠ w.heap.size by omega) (show w.heap.size ≤ w.heap.size + 1 by omega))))
  have HO2 := Lib.hid hgl
  have HZ := Lib.hid (show w.heap.size + 2 ≤ ((w.alloc (.cells #[.int .i64 0, .int .i64 0, .int .i64 0, .int .i64 0, .int .i64 0] 42)).alloc (.cells #[.int .i64 0, .int .i64 0, .int .i64 0, .int .i64 0, .int .i64 0] 42)).heap.size by simp)
  clear h hB hgl
  go_enter Try.func60, Try.ntmps60
  go_wp2_with (first
    | (have hgq := HKv3; clear hgq; go_at_call 55; ((with_reducible refine (number_rr g c a bs _ _ hl (HS.out.put HO.out.1)).mono ?_); rintro en w1 ⟨ht, v4, st1, hk, hs, rfl⟩; clear yc yz; replace HX := Lib.hid ((HX.out.set (i := 3) (by simp) (.int .i64 v3)).turn ht (by simp) HO.out.1.ne); replace HRB := Lib.hid ((HRB.out.far (p := ⟨_, 3, none⟩) HO.out.2.2.1 (.int .i64 v3)).turn ht (by simp) HO.out.2.1.ne); replace HT := Lib.hid (Turn.next (HT.out.set ⟨_, 3, none⟩ (.int .i64 v3) (.inr (.inr HO.out.2.2.2))) ht); have HKv4 := Lib.hid hk; replace HS := Lib.hid hs; replace HZ := Lib.hid (Nat.le_trans HZ.out (by have := ht.size; first | exact this | (simp at this; omega))); have x0 := HX.out.cell (j := 0) rfl; have xz0 := HX.out.froz (j := 0) (by simp); have r0 := HRB.out.cell (j := 0) rfl; have rz0 := HRB.out.froz (j := 0) (by simp); have x1 := HX.out.cell (j := 1) rfl; have xz1 := HX.out.froz (j := 1) (by simp); have r1 := HRB.out.cell (j := 1) rfl; have rz1 := HRB.out.froz (j := 1) (by simp); have x2 := HX.out.cell (j := 2) rfl; have xz2 := HX.out.froz (j := 2) (by simp); have r2 := HRB.out.cell (j := 2) rfl; have rz2 := HRB.out.froz (j := 2) (by simp); have x3 := HX.out.cell (j := 3) rfl; have xz3 := HX.out.froz (j := 3) (by simp); have r3 := HRB.out.cell (j := 3) rfl; have rz3 := HRB.out.froz (j := 3) (by simp); have x4 := HX.out.cell (j := 4) rfl; have xz4 := HX.out.froz (j := 4) (by simp); have r4 := HRB.out.cell (j := 4) rfl; have rz4 := HRB.out.froz (j := 4) (by simp); clear ht hk hs))
    | (have hgq := HKv2; clear hgq; go_at_call 55; ((with_reducible refine (number_rr g c a bs _ _ hl (HS.out.put HO.out.1)).mono ?_); rintro en w1 ⟨ht, v3, st1, hk, hs, rfl⟩; clear yc yz; replace HX := Lib.hid ((HX.out.set (i := 2) (by simp) (.int .i64 v2)).turn ht (by simp) HO.out.1.ne); replace HRB := Lib.hid ((HRB.out.far (p := ⟨_, 2, none⟩) HO.out.2.2.1 (.int .i64 v2)).turn ht (by simp) HO.out.2.1.ne); replace HT := Lib.hid (Turn.next (HT.out.set ⟨_, 2, none⟩ (.int .i64 v2) (.inr (.inr HO.out.2.2.2))) ht); have HKv3 := Lib.hid hk; replace HS := Lib.hid hs; replace HZ := Lib.hid (Nat.le_trans HZ.out (by have := ht.size; first | exact this | (simp at this; omega))); have yc := HX.out.cell (j := 3) rfl; have yz := HX.out.froz (j := 3) (by simp); clear ht hk hs))
    | (have hgq := HKv1; clear hgq; go_at_call 55; ((with_reducible refine (number_rr g c a bs _ _ hl (HS.out.put HO.out.1)).mono ?_); rintro en w1 ⟨ht, v2, st1, hk, hs, rfl⟩; clear yc yz; replace HX := Lib.hid ((HX.out.set (i := 1) (by simp) (.int .i64 v1)).turn ht (by simp) HO.out.1.ne); replace HRB := Lib.hid ((HRB.out.far (p := ⟨_, 1, none⟩) HO.out.2.2.1 (.int .i64 v1)).turn ht (by simp) HO.out.2.1.ne); replace HT := Lib.hid (Turn.next (HT.out.set ⟨_, 1, none⟩ (.int .i64 v1) (.inr (.inr HO.out.2.2.2))) ht); have HKv2 := Lib.hid hk; replace HS := Lib.hid hs; replace HZ := Lib.hid (Nat.le_trans HZ.out (by have := ht.size; first | exact this | (simp at this; omega))); have yc := HX.out.cell (j := 2) rfl; have yz := HX.out.froz (j := 2) (by simp); clear ht hk hs))
    | (have hgq := HKv0; clear hgq; go_at_call 55; ((with_reducible refine (number_rr g c a bs _ _ hl (HS.out.put HO.out.1)).mono ?_); rintro en w1 ⟨ht, v1, st1, hk, hs, rfl⟩; clear yc yz; replace HX := Lib.hid ((HX.out.set (i := 0) (by simp) (.int .i64 v0)).turn ht (by simp) HO.out.1.ne); replace HRB := Lib.hid ((HRB.out.far (p := ⟨_, 0, none⟩) HO.out.2.2.1 (.int .i64 v0)).turn ht (by simp) HO.out.2.1.ne); replace HT := Lib.hid (Turn.next (HT.out.set ⟨_, 0, none⟩ (.int .i64 v0) (.inr (.inr HO.out.2.2.2))) ht); have HKv1 := Lib.hid hk; replace HS := Lib.hid hs; replace HZ := Lib.hid (Nat.le_trans HZ.out (by have := ht.size; first | exact this | (simp at this; omega))); have yc := HX.out.cell (j := 1) rfl; have yz := HX.out.froz (j := 1) (by simp); clear ht hk hs))
    | (go_at_call 55; ((with_reducible refine (number_rr g c a bs _ _ hl HS.out).mono ?_); rintro en w1 ⟨ht, v0, st1, hk, hs, rfl⟩; replace HX := Lib.hid (HX.out.turn ht (by simp) HO.out.1.ne); replace HRB := Lib.hid (HRB.out.turn ht (by simp) HO.out.2.1.ne); replace HT := Lib.hid (Turn.next HT.out ht); have HKv0 := Lib.hid hk; replace HS := Lib.hid hs; replace HZ := Lib.hid (Nat.le_trans HZ.out (by have := ht.size; first | exact this | (simp at this; omega))); have yc := HX.out.cell (j := 0) rfl; have yz := HX.out.froz (j := 0) (by simp); clear ht hk hs)))
  obtain ⟨w3, hw3⟩ : ∃ w3, w3 = (w1.setCell ⟨w.heap.size + 1, 4, none⟩ (.int .i64 v4)).setCells w.heap.size 0 [.int .i64 v0, .int .i64 v1, .int .i64 v2, .int .i64 v3, .int .i64 v4] := ⟨_, rfl⟩
  have hS3 : Rs w3 g a c bs st1 := by rw [hw3]; exact Rs.keep (HS.out.put HO.out.1) (Keep.sets (S := fun k => k = w.heap.size) rfl _ 0 (Keep.refl _ _)) (fun k e => by subst e; exact HO.out.2.1)
  have hT3 : Turn g g w w3 := by rw [hw3]; exact Keep.sets (.inr (.inr (Nat.le_refl _))) _ 0 (HT.out.set ⟨w.heap.size + 1, 4, none⟩ (.int .i64 v4) (.inr (.inr HO.out.2.2.2)))
  have hk3 : Keep (fun k => k = w.heap.size ∨ k = w.heap.size + 1) w1 w3 := by rw [hw3]; exact Keep.sets (S := fun k => k = w.heap.size ∨ k = w.heap.size + 1) (.inl rfl) _ 0 ((Keep.refl _ w1).set _ _ (.inr rfl))
  have hX3 : Box w3 w.heap.size [.int .i64 v0, .int .i64 v1, .int .i64 v2, .int .i64 v3, .int .i64 v4] := by rw [hw3]; exact Box.whole (HRB.out.far (p := ⟨w.heap.size + 1, 4, none⟩) HO.out.2.2.1 (.int .i64 v4)) rfl
  show bodyPost _ _ _ _ _ ((w1.setCell ⟨w.heap.size + 1, 4, none⟩ (.int .i64 v4)).setCells w.heap.size 0 [.int .i64 v0, .int .i64 v1, .int .i64 v2, .int .i64 v3, .int .i64 v4])
  rw [← hw3]
  have c0 := hX3.cell (j := 0) rfl
  have c1 := hX3.cell (j := 1) rfl
  have c2 := hX3.cell (j := 2) rfl
  have c3 := hX3.cell (j := 3) rfl
  have c4 := hX3.cell (j := 4) rfl
  refine bodyPost_ret (v := .agg #[.int .i64 v0, .int .i64 v1, .int .i64 v2, .int .i64 v3, .int .i64 v4]) (by simp [results, Try.results60, go_sem, c0, c1, c2, c3, c4]) rfl ?_
  refine ⟨hT3, ⟨v0, v1, v2, v3, v4⟩, st1, ?_, hS3, (), rfl, ⟨trivial⟩⟩
  have h4 := HKv4.out.map (fun v4 => (⟨v0, v1, v2, v3, v4⟩ : WAns))
  have h3 := Link.bind (F := fun v3 l p => bindP (numP l p) fun v4 p => .ok ((⟨v0, v1, v2, v3, v4⟩ : WAns), p)) HKv3.out h4
  have h2 := Link.bind (F := fun v2 l p => bindP (numP l p) fun v3 p => bindP (numP l p) fun v4 p => .ok ((⟨v0, v1, v2, v3, v4⟩ : WAns), p)) HKv2.out h3
  have h1 := Link.bind (F := fun v1 l p => bindP (numP l p) fun v2 p => bindP (numP l p) fun v3 p => bindP (numP l p) fun v4 p => .ok ((⟨v0, v1, v2, v3, v4⟩ : WAns), p)) HKv1.out h2
  have h0 := Link.bind (F := fun v0 l p => bindP (numP l p) fun v1 p => bindP (numP l p) fun v2 p => bindP (numP l p) fun v3 p => bindP (numP l p) fun v4 p => .ok ((⟨v0, v1, v2, v3, v4⟩ : WAns), p)) HKv0.out h1
  exact h0
end Go.Proofs.Ytlckgnemmffdkaa
