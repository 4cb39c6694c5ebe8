/- The document's ReadAnswer. (printed by gen_wirrefread.py) -/
import Derived.Test.YtlckgnemmffdkaaWirRrZ
import Derived.Test.YtlckgnemmffdkaaWirRrA
namespace Go.Proofs.Ytlckgnemmffdkaa
open Go.ChangeShapes Go.WideShapes Go.ChangeAt Go.RowKit
set_option maxRecDepth 100000

set_option maxHeartbeats 4000000 in
theorem refreadanswer_any (a : Option Addr) (c : Nat) (bs : List UInt8) (w : World) (hr : RowB w a bs) (hc : bs.length ≤ c) (hl : bs.length ≤ 1048576) :
    Calls Try.prog 22 #[.slice a bs.length c] w (RetRdAns w (readP zAns wAnsP bs)) := by
  have hB1 : Below w.heap.size w (w.alloc (.cells #[.int .i64 0, .int .i64 0, .int .i64 0, .int .i64 0, .int .i64 0] 42)) := mid_alloc' (Below.refl _ _)
  have HR0 := Lib.hid (Box.of_alloc (w := w) (cs := [.int .i64 0, .int .i64 0, .int .i64 0, .int .i64 0, .int .i64 0]) (t := 42) (Below.refl _ _))
  have HBE := Lib.hid (begin_any a c bs (w.alloc (.cells #[.int .i64 0, .int .i64 0, .int .i64 0, .int .i64 0, .int .i64 0] 42)) (hr.below hB1) hc hl)
  have HB1 := Lib.hid hB1
  clear hB1 hr
  go_enter Try.func22, Try.ntmps22
  go_wp2_with (first
    | (go_at_call 46; ((with_reducible refine HBE.out.mono ?_); rintro e w1 ⟨rfl, hs, hb⟩; rw [World.size_alloc] at hs; have HG1 := Lib.hid hs.lt; have hrs := HR0.out.next (by simp) hb; have HRB := Lib.hid hrs; have HS := Lib.hid hs; have HSZ := Lib.hid (show w.heap.size + 1 ≤ w1.heap.size by have := hb.size; simp at this; omega); have HGS := Lib.hid (show (w.alloc (.cells #[.int .i64 0, .int .i64 0, .int .i64 0, .int .i64 0, .int .i64 0] 42)).heap.size = w.heap.size + 1 by simp); have HBB := Lib.hid (HB1.out.trans (hb.mono HB1.out.size)); clear hs hb hrs))
    | (go_at_call 60; ((with_reducible refine (answer_rr _ c a bs _ _ (by omega) HS.out).mono ?_); rintro e w2 ⟨ht, ⟨v0, v1, v2, v3, v4⟩, st, hk, hs, ⟨⟩, rfl, hm⟩; have hg2 := hs.lt; have HM := Lib.hid hm; replace HRB := Lib.hid (HRB.out.turn ht (by simp) (by omega)); have HK := Lib.hid hk; have hba : Below w2.heap.size w2 (w2.alloc (.cells #[.int .i64 v0, .int .i64 v1, .int .i64 v2, .int .i64 v3, .int .i64 v4] 42)) := mid_alloc' (Below.refl _ _); replace HRB := Lib.hid (HRB.out.next (by simp) hba); have HXA := Lib.hid (Box.of_alloc (w := w2) (cs := [.int .i64 v0, .int .i64 v1, .int .i64 v2, .int .i64 v3, .int .i64 v4]) (t := 42) (Below.refl _ _)); have HT := Lib.hid (Turn.next ht (Turn.below hba)); have HMA := Lib.hid (HM.out.below hba); have HEND := Lib.hid (end_any _ c a bs st (w2.alloc (.cells #[.int .i64 v0, .int .i64 v1, .int .i64 v2, .int .i64 v3, .int .i64 v4] 42)) (by omega) (hs.below hba)); have HG2 := Lib.hid hg2; clear ht hk hs hm hba hg2; unfold valAns))
    | (go_at_call 48; ((with_reducible refine HEND.out.mono ?_); rintro e w3 ⟨ht, ⟨f, rfl, he⟩ | ⟨rfl, p, he, hp⟩⟩ <;> replace HRB := Lib.hid (HRB.out.turn ht (by simp) (by omega)) <;> have HXB := Lib.hid (HXA.out.turn ht (by simp) (by have := HG2.out; omega)) <;> replace HT := Lib.hid (Turn.next HT.out ht) <;> have HE := Lib.hid he <;> have HM3 := Lib.hid (HMA.out.turnE ht HG1.out) <;> clear ht he <;> (have r0 := HRB.out.cell (j := 0) rfl; have rz0 := HRB.out.froz (j := 0) (by simp); have y0 := HXB.out.cell (j := 0) rfl; have r1 := HRB.out.cell (j := 1) rfl; have rz1 := HRB.out.froz (j := 1) (by simp); have y1 := HXB.out.cell (j := 1) rfl; have r2 := HRB.out.cell (j := 2) rfl; have rz2 := HRB.out.froz (j := 2) (by simp); have y2 := HXB.out.cell (j := 2) rfl; have r3 := HRB.out.cell (j := 3) rfl; have rz3 := HRB.out.froz (j := 3) (by simp); have y3 := HXB.out.cell (j := 3) rfl; have r4 := HRB.out.cell (j := 4) rfl; have rz4 := HRB.out.froz (j := 4) (by simp); have y4 := HXB.out.cell (j := 4) rfl))))
  · rw [read_bad (z := zAns) HK.out hl HE.out]
    obtain ⟨w4, hw4⟩ : ∃ w4, w4 = w3.setCells w.heap.size 0 [.int .i64 0, .int .i64 0, .int .i64 0, .int .i64 0, .int .i64 0] := ⟨_, rfl⟩
    have hk4 : Keep (fun k => k = w.heap.size) w3 w4 := by rw [hw4]; exact Keep.sets (S := fun k => k = w.heap.size) rfl _ 0 (Keep.refl _ _)
    have hX4 : Box w4 w.heap.size [.int .i64 0, .int .i64 0, .int .i64 0, .int .i64 0, .int .i64 0] := by rw [hw4]; exact HRB.out.whole rfl
    show bodyPost _ _ _ _ _ (w3.setCells w.heap.size 0 [.int .i64 0, .int .i64 0, .int .i64 0, .int .i64 0, .int .i64 0])
    rw [← hw4]
    have c0 := hX4.cell (j := 0) rfl
    have c1 := hX4.cell (j := 1) rfl
    have c2 := hX4.cell (j := 2) rfl
    have c3 := hX4.cell (j := 3) rfl
    have c4 := hX4.cell (j := 4) rfl
    refine bodyPost_ret (v := .tuple #[.agg #[.int .i64 0, .int .i64 0, .int .i64 0, .int .i64 0, .int .i64 0], .int .i64 f, .int .i64 50]) (by simp [results, Try.results22, go_sem, c0, c1, c2, c3, c4]) rfl ⟨pzAns, rfl, memzAns _ _, ?_⟩
    exact HBB.out.trans (((HT.out.mono (S' := fun k => w.heap.size ≤ k) (fun k _ e => by have := HSZ.out; have := HGS.out; omega)).trans (hk4.mono (S' := fun k => w.heap.size ≤ k) (fun k _ e => by omega))).bel HBB.out.size (fun k e => e))
  · obtain ⟨rfl, hnl⟩ := And.intro HE.out hp
    rw [read_ok (z := zAns) HK.out hl hnl]
    obtain ⟨w4, hw4⟩ : ∃ w4, w4 = w3.setCells w.heap.size 0 [.int .i64 v0, .int .i64 v1, .int .i64 v2, .int .i64 v3, .int .i64 v4] := ⟨_, rfl⟩
    have hk4 : Keep (fun k => k = w.heap.size) w3 w4 := by rw [hw4]; exact Keep.sets (S := fun k => k = w.heap.size) rfl _ 0 (Keep.refl _ _)
    have hX4 : Box w4 w.heap.size [.int .i64 v0, .int .i64 v1, .int .i64 v2, .int .i64 v3, .int .i64 v4] := by rw [hw4]; exact HRB.out.whole rfl
    show bodyPost _ _ _ _ _ (w3.setCells w.heap.size 0 [.int .i64 v0, .int .i64 v1, .int .i64 v2, .int .i64 v3, .int .i64 v4])
    rw [← hw4]
    have c0 := hX4.cell (j := 0) rfl
    have c1 := hX4.cell (j := 1) rfl
    have c2 := hX4.cell (j := 2) rfl
    have c3 := hX4.cell (j := 3) rfl
    have c4 := hX4.cell (j := 4) rfl
    refine bodyPost_ret (v := .tuple #[.agg #[.int .i64 v0, .int .i64 v1, .int .i64 v2, .int .i64 v3, .int .i64 v4], .int .i64 0, .int .i64 0]) (by simp [results, Try.results22, go_sem, c0, c1, c2, c3, c4]) rfl ⟨⟨⟩, rfl, (HM3.out.keep hk4 (fun k e => by have := HSZ.out; omega)).mono (by have := HSZ.out; omega), ?_⟩
    exact HBB.out.trans (((HT.out.mono (S' := fun k => w.heap.size ≤ k) (fun k _ e => by have := HSZ.out; have := HGS.out; omega)).trans (hk4.mono (S' := fun k => w.heap.size ≤ k) (fun k _ e => by omega))).bel HBB.out.size (fun k e => e))
end Go.Proofs.Ytlckgnemmffdkaa
