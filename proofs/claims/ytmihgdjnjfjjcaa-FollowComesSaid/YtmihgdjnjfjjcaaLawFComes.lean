import Derived.Test.YtmihgdjnjfjjcaaFolWakes
import Derived.Deep.RegionHeld3
set_option linter.unusedVariables false
set_option linter.unusedSimpArgs false
/- Answers leave what is sent next above what is matched, and refusals come to it: the walk. -/
namespace Go.Proofs.Ytmihgdjnjfjjcaa
open Go.ChangeShapes Go.WideShapes Go.ChangeAt Go.RowKit
set_option maxRecDepth 100000

theorem told_node (p : Prg) (ok : Bool) (i : Int) : (toldF p ok i).node = p.node := by unfold toldF; split <;> rfl
def GoodP (p : Prg) : Prop := 0 ≤ p.mat ∧ p.mat ≤ 1099511627776 ∧ p.mat < p.next ∧ p.next ≤ 1099511627777
theorem told_good (p : Prg) (ok : Bool) (i : Int) : GoodP (toldF p ok i) := by
  unfold GoodP toldF cl
  split <;> simp only <;> omega
theorem told_yes {p : Prg} (i : Int) (h : GoodP p) : p.mat ≤ (toldF p true i).mat := by
  unfold GoodP at h; unfold toldF cl; simp only [if_true]; omega
theorem told_no {p : Prg} (i : Int) (h : GoodP p) : (toldF p false i).mat = p.mat ∧ (toldF p false i).next ≤ p.next ∧ ((toldF p false i).next = p.next → p.next = p.mat + 1) := by
  unfold GoodP at h; unfold toldF cl; simp only [Bool.false_eq_true, if_false]; omega
set_option maxHeartbeats 16000000 in
theorem law_comes (p : Prg) (oks : List Bool) (a1 : Option Addr) (n1 c1 : Nat) (ids : List Int) (a2 : Option Addr) (n2 c2 : Nat) (w : World) (hn1 : oks.length = n1) (hr1 : Row w a1 (oks.map Value.bool)) (hl1 : n1 ≤ maxLen) (hn2 : ids.length = n2) (hr2 : Row w a2 (ids.map (Value.int .i64))) (hl2 : n2 ≤ maxLen) :
    Calls Try.prog 5 #[p.agg, .slice a1 n1 c1, .slice a2 n2 c2] w (RetTrue w) := by
  have HB0 : Hid (∀ x0 x1 x2, Below w.heap.size w (w.alloc (.cells #[.int .i64 x0, .int .i64 x1, .int .i64 x2] 39))) := fun _ _ _ => mid_alloc' (Below.refl _ _)
  have HX0 : Hid (∀ x0 x1 x2, Box (w.alloc (.cells #[.int .i64 x0, .int .i64 x1, .int .i64 x2] 39)) w.heap.size [.int .i64 x0, .int .i64 x1, .int .i64 x2]) := fun x0 x1 x2 => Box.of_alloc (w := w) (cs := [.int .i64 x0, .int .i64 x1, .int .i64 x2]) (t := 39) (Below.refl _ _)
  have WK := Lib.hid (fun w' => wakes_any w')
  have hlm1 := lt_maxLen hl1
  have hlm2 := lt_maxLen hl2
  rcases d1 : decide ((200 : Int) < (n1 : Int)) with _ | _
  rotate_left
  · have HN := Lib.hid (And.intro hn1 hn2)
    clear hr1 hr2 hn1 hn2
    obtain ⟨p0, p1, p2⟩ := p
    go_enter Try.func5, Try.ntmps5
    go_wp2_with (go_at_call 9; ((with_reducible refine (WK.out _).mono ?_); rintro e w2 ⟨rfl, hb⟩; have HB2 := Lib.hid ((HB0.out p0 p1 p2).trans (hb.mono (HB0.out p0 p1 p2).size)); clear hb))
    go_ret
    exact ⟨rfl, HB2.out⟩
  rcases d2 : decide (n2 < n1) with _ | _
  rotate_left
  · have HN := Lib.hid (And.intro hn1 hn2)
    clear hr1 hr2 hn1 hn2
    obtain ⟨p0, p1, p2⟩ := p
    go_enter Try.func5, Try.ntmps5
    go_wp2_with (go_at_call 9; ((with_reducible refine (WK.out _).mono ?_); rintro e w2 ⟨rfl, hb⟩; have HB2 := Lib.hid ((HB0.out p0 p1 p2).trans (hb.mono (HB0.out p0 p1 p2).size)); clear hb))
    go_ret
    exact ⟨rfl, HB2.out⟩
  have h200 : n1 ≤ 200 := by have := of_decide_eq_false d1; omega
  have h21 : n1 ≤ n2 := by have := of_decide_eq_false d2; omega
  have HR1 := Lib.hid (fun w' (hb : Below w.heap.size w w') => Row.below hr1 hb)
  have HR2 := Lib.hid (fun w' (hb : Below w.heap.size w w') => Row.below hr2 hb)
  have HN := Lib.hid (And.intro hn1 hn2)
  have HT0 := Lib.hid (fun w' => told_any p false 1099511627776 w')
  have HG0 := Lib.hid (told_good p false 1099511627776)
  have HN0 := Lib.hid (told_node p false 1099511627776)
  generalize toldF p false 1099511627776 = q at HT0 HG0 HN0
  obtain ⟨q0, q1, q2⟩ := q
  obtain ⟨p0, p1, p2⟩ := p
  clear hr1 hr2 hn1 hn2
  go_enter Try.func5, Try.ntmps5
  go_wp2_with (go_at_call 16; ((with_reducible refine (HT0.out _).mono ?_); rintro e w2 ⟨rfl, hb⟩; have HB2 := Lib.hid ((HB0.out p0 p1 p2).trans (hb.mono (HB0.out p0 p1 p2).size)); have HX2 := Lib.hid ((HX0.out p0 p1 p2).next (by simp) hb); have k0 := HX2.out.cell (j := 0) rfl; have k1 := HX2.out.cell (j := 1) rfl; have k2 := HX2.out.cell (j := 2) rfl; have z0 := HX2.out.froz (j := 0) (by simp); have z1 := HX2.out.froz (j := 1) (by simp); have z2 := HX2.out.froz (j := 2) (by simp); clear hb))
  have hx3 : Box (((w2.setCell ⟨w.heap.size, 0, none⟩ (.int .i64 q0)).setCell ⟨w.heap.size, 1, none⟩ (.int .i64 q1)).setCell ⟨w.heap.size, 2, none⟩ (.int .i64 q2)) w.heap.size [.int .i64 q0, .int .i64 q1, .int .i64 q2] := ((HX2.out.set (i := 0) (by simp) (.int .i64 q0)).set (i := 1) (by simp) (.int .i64 q1)).set (i := 2) (by simp) (.int .i64 q2)
  have HX3 := Lib.hid hx3
  have HB3 : Hid (Below w.heap.size w (((w2.setCell ⟨w.heap.size, 0, none⟩ (.int .i64 q0)).setCell ⟨w.heap.size, 1, none⟩ (.int .i64 q1)).setCell ⟨w.heap.size, 2, none⟩ (.int .i64 q2))) := ((HB2.out.setCell (Nat.le_refl _) _).setCell (Nat.le_refl _) _).setCell (Nat.le_refl _) _
  clear k0 k1 k2 z0 z1 z2 hx3
  generalize ((w2.setCell ⟨w.heap.size, 0, none⟩ (.int .i64 q0)).setCell ⟨w.heap.size, 1, none⟩ (.int .i64 q1)).setCell ⟨w.heap.size, 2, none⟩ (.int .i64 q2) = w3 at HX3 HB3 ⊢
  go_loopw [25] (fun i wr => ∃ (k : Nat) (x1 x2 : Int), k ≤ n1 ∧ i = .int .i64 k ∧ Hid (GoodP ⟨q0, x1, x2⟩) ∧ Hid (Below w.heap.size w wr) ∧ Hid (Box wr w.heap.size [.int .i64 q0, .int .i64 x1, .int .i64 x2])) (fun i _ => n1 - (intOf i).toNat)
  case atStart => exact ⟨0, q1, q2, Nat.zero_le _, rfl, HG0.out, HB3.out, HX3.out⟩
  case round =>
    clear HX3 HB3 HX2 HB2
    obtain ⟨k, x1, x2, hk, rfl, HG, HBL, HBX⟩ := hrel
    by_cases hlt : k < n1
    · have hk1 : k < (oks.map Value.bool).length := by rw [List.length_map, HN.out.1]; exact hlt
      have hk2 : k < (ids.map (Value.int .i64)).length := by rw [List.length_map, HN.out.2]; omega
      obtain ⟨b1, o1, ha1, hc1⟩ := Row.at (HR1.out wr HBL.out) hk1
      obtain ⟨b2, o2, ha2, hc2⟩ := Row.at (HR2.out wr HBL.out) hk2
      have j1 := hc1 k hk1
      have j2 := hc2 k hk2
      rw [List.getElem_map] at j1 j2
      generalize oks[k]'(by rw [List.length_map] at hk1; exact hk1) = ok at j1
      generalize ids[k]'(by rw [List.length_map] at hk2; exact hk2) = id at j2
      subst ha1 ha2
      have HT := Lib.hid (fun w' => told_any ⟨q0, x1, x2⟩ ok id w')
      have HG1 := Lib.hid (told_good ⟨q0, x1, x2⟩ ok id)
      have HN1 := Lib.hid (told_node ⟨q0, x1, x2⟩ ok id)
      have HY : Hid (ok = true → x1 ≤ (toldF ⟨q0, x1, x2⟩ ok id).mat) := fun e => by rw [e]; exact told_yes id HG.out
      have HNO : Hid (ok = false → (toldF ⟨q0, x1, x2⟩ ok id).mat = x1 ∧ (toldF ⟨q0, x1, x2⟩ ok id).next ≤ x2 ∧ ((toldF ⟨q0, x1, x2⟩ ok id).next = x2 → x2 = x1 + 1)) := fun e => by rw [e]; exact told_no id HG.out
      generalize toldF ⟨q0, x1, x2⟩ ok id = y at HT HG1 HN1 HY HNO
      obtain ⟨y0, y1, y2⟩ := y
      have hy0 : y0 = q0 := HN1.out
      subst hy0
      simp only at HY HNO
      have hg1 := HG1.out
      unfold GoodP at hg1
      simp only at hg1
      obtain ⟨u1, u2, u3, u4⟩ := hg1
      have hg := HG.out
      unfold GoodP at hg
      simp only at hg
      obtain ⟨v1, v2, v3, v4⟩ := hg
      have i1 : (0 : Int) ≤ (k : Int) := by omega
      have i2 : (k : Int) < (n2 : Int) := by omega
      clear hc1 hc2 hk1 hk2 HN1 HT0 HG0 HN0 HR1 HR2
      have k0 := HBX.out.cell (j := 0) rfl
      have k1 := HBX.out.cell (j := 1) rfl
      have k2 := HBX.out.cell (j := 2) rfl
      have hgw := HBX.out.lt (by simp)
      have hb2l : b2 < wr.heap.size := World.block_lt_of_cell? wr _ j2
      go_upto_region 7 with fail
      go_cut [9] from 30 to 36 (fun v9 wx => ∃ gq : Nat, v9 = .pointer (some ⟨gq, 0, none⟩) ∧ w.heap.size < gq ∧ Hid (Box wx gq [.int .i64 y0, .int .i64 y1, .int .i64 y2]) ∧ Hid (Below wr.heap.size wr wx))
      case first =>
        go_region_with ((go_at_call 16; ((with_reducible refine (HT.out _).mono ?_); rintro e w5 ⟨rfl, hb⟩; first | (have hbx : Box w5 wr.heap.size [.int .i64 0, .int .i64 0, .int .i64 0] := Box.of_alloc (w := wr.drew) (cs := [.int .i64 0, .int .i64 0, .int .i64 0]) (t := 39) hb; have z0 : w5.cell? ⟨wr.heap.size, 0, none⟩ = some (.int .i64 0) := hbx.cell (j := 0) rfl; have z1 : w5.cell? ⟨wr.heap.size, 1, none⟩ = some (.int .i64 0) := hbx.cell (j := 1) rfl; have z2 : w5.cell? ⟨wr.heap.size, 2, none⟩ = some (.int .i64 0) := hbx.cell (j := 2) rfl; have y0' : w5.frozen? ⟨wr.heap.size, 0, none⟩ = false := hbx.froz (j := 0) (by simp); have y1' : w5.frozen? ⟨wr.heap.size, 1, none⟩ = false := hbx.froz (j := 1) (by simp); have y2' : w5.frozen? ⟨wr.heap.size, 2, none⟩ = false := hbx.froz (j := 2) (by simp)) | skip)))
        all_goals (go_wp2_with fail; go_meet; first
          | exact ⟨wr.heap.size, rfl, hgw, ((hbx.set (i := 0) (by simp) (.int .i64 y0)).set (i := 1) (by simp) (.int .i64 y1)).set (i := 2) (by simp) (.int .i64 y2), (((mid_alloc' ((Below.refl _ _).drew.trans hb)).setCell (Nat.le_refl _) _).setCell (Nat.le_refl _) _).setCell (Nat.le_refl _) _⟩
          | exact ⟨w5.heap.size, rfl, by have := hb.size; simp at this; omega, Box.of_alloc (Below.refl _ _), ((Below.refl wr.heap.size wr).drew.trans hb).trans ((Below.refl wr.heap.size w5).alloc hb.size _)⟩)
      obtain ⟨gq, rfl, hgq, HQ, HBW⟩ := hcut
      have HXC := Lib.hid (HBX.out.next (by simp) HBW.out)
      have HBC := Lib.hid (HBL.out.trans (HBW.out.mono HBL.out.size))
      clear k0 k1 k2 j1 j2 hb2l HT HBX HBL HBW i1 i2
      have k0 := HXC.out.cell (j := 0) rfl
      have k1 := HXC.out.cell (j := 1) rfl
      have k2 := HXC.out.cell (j := 2) rfl
      have m0 := HQ.out.cell (j := 0) rfl
      have m1 := HQ.out.cell (j := 1) rfl
      have m2 := HQ.out.cell (j := 2) rfl
      have z0 := HXC.out.froz (j := 0) (by simp)
      have z1 := HXC.out.froz (j := 1) (by simp)
      have z2 := HXC.out.froz (j := 2) (by simp)
      have e1 : decide (y2 ≤ y1) = false := decide_eq_false (by omega)
      cases ok
      · obtain ⟨w1, w2, w3⟩ := HNO.out rfl
        have HW := Lib.hid w1
        have e2 : decide (y1 < x1) = false := decide_eq_false (by omega)
        have e3 : (y1 != x1) = false := by simp [w1]
        have e4 : decide (x2 < y2) = false := decide_eq_false (by omega)
        clear w1
        rcases e5 : (y2 == x2) with _ | _
        · clear w3
          go_wp2_with fail
          go_roundw
          case rel => exact ⟨k + 1, y1, y2, by omega, by go_num, HG1.out, ((HBC.out.setCell (Nat.le_refl _) _).setCell (Nat.le_refl _) _).setCell (Nat.le_refl _) _, ((HXC.out.set (i := 0) (by simp) (.int .i64 y0)).set (i := 1) (by simp) (.int .i64 y1)).set (i := 2) (by simp) (.int .i64 y2)⟩
          case measure => simp [intOf]; omega

        · have w4 := w3 (by simpa using e5)
          have e6 : (x2 != x1 + 1) = false := by simp [w4]
          have HW4 := Lib.hid w4
          clear w3 w4
          go_wp2_with fail
          go_roundw
          case rel => exact ⟨k + 1, y1, y2, by omega, by go_num, HG1.out, ((HBC.out.setCell (Nat.le_refl _) _).setCell (Nat.le_refl _) _).setCell (Nat.le_refl _) _, ((HXC.out.set (i := 0) (by simp) (.int .i64 y0)).set (i := 1) (by simp) (.int .i64 y1)).set (i := 2) (by simp) (.int .i64 y2)⟩
          case measure => simp [intOf]; omega

      · have w1 := HY.out rfl
        have e2 : decide (y1 < x1) = false := decide_eq_false (by omega)
        go_wp2_with fail
        go_roundw
        case rel => exact ⟨k + 1, y1, y2, by omega, by go_num, HG1.out, ((HBC.out.setCell (Nat.le_refl _) _).setCell (Nat.le_refl _) _).setCell (Nat.le_refl _) _, ((HXC.out.set (i := 0) (by simp) (.int .i64 y0)).set (i := 1) (by simp) (.int .i64 y1)).set (i := 2) (by simp) (.int .i64 y2)⟩
        case measure => simp [intOf]; omega

    · obtain rfl : k = n1 := by omega
      go_wp2_with (go_at_call 9; ((with_reducible refine (WK.out _).mono ?_); rintro e w4 ⟨rfl, hb⟩; have HB4 := Lib.hid (HBL.out.trans (hb.mono HBL.out.size)); clear hb))
      go_ret
      exact ⟨rfl, HB4.out⟩
end Go.Proofs.Ytmihgdjnjfjjcaa
