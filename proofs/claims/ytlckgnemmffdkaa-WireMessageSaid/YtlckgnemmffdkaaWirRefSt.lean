import Derived.Test.YtlckgnemmffdkaaWirRefC
import Derived.Test.YtlckgnemmffdkaaWirSameSt
set_option linter.unusedVariables false
set_option linter.unusedSimpArgs false
/- The document's State, written. (printed by gen_wirrefws.py) -/
namespace Go.Proofs.Ytlckgnemmffdkaa
open Go.ChangeShapes Go.WideShapes Go.ChangeAt Go.RowKit
set_option maxRecDepth 100000

theorem Gro.below (a : Option Addr) {w w' : World} (hb : Below w.heap.size w w') : Gro a a w w' := ⟨hb.os, hb.tape, hb.output, hb.size, fun k hk _ => hb.block k hk, Near.self _ _⟩
theorem LowSt.gro {D c : Nat} {w w' : World} {a a' : Option Addr} {bs : List UInt8} {v : WSt} {p : PSt} (h : LowSt D w v p) (hc : Cb w D a c bs) (hg : Gro a a' w w') : LowSt D w' v p := ⟨h.row0.gro hc hg, h.row1.gro hc hg, h.row2.gro hc hg, h.row3.gro hc hg⟩
theorem LowSt.below {g : Nat} {w W : World} {v : WSt} {p : PSt} (h : LowSt g w v p) (hb : Below w.heap.size w W) : LowSt g W v p := ⟨h.row0.below hb, h.row1.below hb, h.row2.below hb, h.row3.below hb⟩
theorem app_step {l l' x T F : List UInt8} (hl : l' = l ++ x) (h : l ++ (x ++ T) = F) : l' ++ T = F := by rw [hl, List.append_assoc]; exact h
theorem app_len {l T F : List UInt8} (h : l ++ T = F) {n : Nat} (hF : F.length ≤ n) : l.length ≤ n := by rw [← h, List.length_append] at hF; omega
theorem answer_rl (D c : Nat) (a : Option Addr) (bs : List UInt8) (v0 v1 v2 v3 v4 : Int) (w : World) (h : Cb w D a c bs) (hD : D ≤ w.heap.size) (hn : bs.length ≤ 3000000) :
    Calls Try.prog 65 #[.slice a bs.length c, .agg #[.int .i64 v0, .int .i64 v1, .int .i64 v2, .int .i64 v3, .int .i64 v4]] w (RetCbL w D a bs (encWAns ⟨v0, v1, v2, v3, v4⟩) 40) := (answer_rf D c a bs v0 v1 v2 v3 v4 w h hD hn).mono fun _ _ h => h.l (by simp [encWAns, be8_length])
theorem rows_cells {α : Type} {cells : α → List Value} {size : Nat} (hs : ∀ x, (cells x).length = size) {w : World} {b o : Nat} {xs : List α} (h : Row w (some ⟨b, o, none⟩) (xs.flatMap cells)) {k : Nat} {x : α} (hk : xs[k]? = some x) (h0 : 0 < size) : ∀ r, r < size → w.cell? ⟨b, o + k * size + r, none⟩ = (cells x)[r]? := by
  obtain ⟨hk', hx⟩ := List.getElem?_eq_some_iff.1 hk
  obtain ⟨b', o', e, hc⟩ := rows_at hs h hk' h0
  simp only [Option.some.injEq, Addr.mk.injEq] at e
  obtain ⟨rfl, rfl, -⟩ := e
  rw [hx] at hc; exact hc
theorem drop_flat {α : Type} {f : α → List UInt8} {xs : List α} {k : Nat} {l R F : List UInt8} (hk : k < xs.length) (h : l ++ ((xs.drop k).flatMap f ++ R) = F) : l ++ (f xs[k] ++ ((xs.drop (k + 1)).flatMap f ++ R)) = F := by
  rw [List.drop_eq_getElem_cons hk, List.flatMap_cons, List.append_assoc] at h; exact h
theorem drop_all {α : Type} {f : α → List UInt8} {xs : List α} {l R F : List UInt8} (h : l ++ ((xs.drop xs.length).flatMap f ++ R) = F) : l ++ R = F := by
  rw [List.drop_length] at h; exact h
set_option maxHeartbeats 32000000 in
theorem refstate_bytes (x : WSt) (p : PSt) (w : World) (hs : LowSt w.heap.size w x p) (hok : OkSt x) :
    Calls Try.prog 32 #[valSt x p] w (RetB w (encWSt x)) := by
  have hFl := hok.size
  obtain ⟨t0, t1, t2, l0, l1, l2, l3⟩ := x
  obtain ⟨p0, p0', p1, p1', p2, p2', p3, p3'⟩ := p
  have hL : l0.length ≤ 1000000 ∧ l1.length ≤ 1000000 ∧ l2.length ≤ 1000000 ∧ l3.length ≤ 1000000 := by
    have h1 := hFl
    simp only [encWSt, List.length_append] at h1
    have a0 := flat_len (f := encWTen) (fun x => by have := encWTen_size x; omega) l0
    have a1 := flat_len (f := encWLea) (fun x => by have := encWLea_size x; omega) l1
    have a2 := flat_len (f := encWSes) (fun x => by have := encWSes_size x; omega) l2
    have a3 := flat_len (f := encWDsk) (fun x => by have := encWDsk_size x; omega) l3
    omega
  obtain ⟨hL0, hL1, hL2, hL3⟩ := hL
  have HF : Hid (([] : List UInt8) ++ (be8 t0 ++ (be8 t1 ++ (be8 t2 ++ (be8 l0.length ++ (l0.flatMap encWTen ++ (be8 l1.length ++ (l1.flatMap encWLea ++ (be8 l2.length ++ (l2.flatMap encWSes ++ (be8 l3.length ++ (l3.flatMap encWDsk ++ ([] : List UInt8)))))))))))) = encWSt ⟨t0, t1, t2, l0, l1, l2, l3⟩) := by
    show _ = _
    simp only [encWSt, List.append_assoc, List.nil_append, List.append_nil]
  obtain ⟨F, hF⟩ : ∃ F, F = encWSt ⟨t0, t1, t2, l0, l1, l2, l3⟩ := ⟨_, rfl⟩
  rw [← hF] at HF hFl ⊢
  clear hok hF
  unfold valSt
  simp only
  have hb1 : Below w.heap.size w (w.alloc (.cells #[.int .i64 t0, .int .i64 t1, .int .i64 t2, .slice p0 l0.length p0', .slice p1 l1.length p1', .slice p2 l2.length p2', .slice p3 l3.length p3'] 56)) := mid_alloc' (Below.refl _ _)
  have HX := Lib.hid (Box.of_alloc (w := w) (cs := [.int .i64 t0, .int .i64 t1, .int .i64 t2, .slice p0 l0.length p0', .slice p1 l1.length p1', .slice p2 l2.length p2', .slice p3 l3.length p3']) (t := 56) (Below.refl _ _))
  have HS := Lib.hid (hs.below hb1)
  have HO := Lib.hid (And.intro (show w.heap.size < (w.alloc (.cells #[.int .i64 t0, .int .i64 t1, .int .i64 t2, .slice p0 l0.length p0', .slice p1 l1.length p1', .slice p2 l2.length p2', .slice p3 l3.length p3'] 56)).heap.size by simp) (show ∀ o s, (none : Option Addr) ≠ some ⟨w.heap.size, o, s⟩ from fun o s e => by cases e))
  have HB := Lib.hid (Cb.nil (w.alloc (.cells #[.int .i64 t0, .int .i64 t1, .int .i64 t2, .slice p0 l0.length p0', .slice p1 l1.length p1', .slice p2 l2.length p2', .slice p3 l3.length p3'] 56)) w.heap.size)
  have HG := Lib.hid (Gro.refl none (w.alloc (.cells #[.int .i64 t0, .int .i64 t1, .int .i64 t2, .slice p0 l0.length p0', .slice p1 l1.length p1', .slice p2 l2.length p2', .slice p3 l3.length p3'] 56)))
  have HBW := Lib.hid hb1
  have hD : w.heap.size ≤ (w.alloc (.cells #[.int .i64 t0, .int .i64 t1, .int .i64 t2, .slice p0 l0.length p0', .slice p1 l1.length p1', .slice p2 l2.length p2', .slice p3 l3.length p3'] 56)).heap.size := by simp
  have hn : ([] : List UInt8).length ≤ 1000000 := by simp
  have HN1 : Hid (Calls Try.prog 62 #[.slice none 0 0, .int .i64 t0] (w.alloc (.cells #[.int .i64 t0, .int .i64 t1, .int .i64 t2, .slice p0 l0.length p0', .slice p1 l1.length p1', .slice p2 l2.length p2', .slice p3 l3.length p3'] 56)) (RetCbL (w.alloc (.cells #[.int .i64 t0, .int .i64 t1, .int .i64 t2, .slice p0 l0.length p0', .slice p1 l1.length p1', .slice p2 l2.length p2', .slice p3 l3.length p3'] 56)) w.heap.size none [] (be8 t0) 8)) := number_rl w.heap.size 0 none [] t0 (w.alloc (.cells #[.int .i64 t0, .int .i64 t1, .int .i64 t2, .slice p0 l0.length p0', .slice p1 l1.length p1', .slice p2 l2.length p2', .slice p3 l3.length p3'] 56)) HB.out hD (by simp)
  clear hs hb1
  have y0 := HX.out.cell (j := 0) rfl
  have y1 := HX.out.cell (j := 1) rfl
  have y2 := HX.out.cell (j := 2) rfl
  have y3 := HX.out.cell (j := 3) rfl
  have y4 := HX.out.cell (j := 4) rfl
  have y5 := HX.out.cell (j := 5) rfl
  have y6 := HX.out.cell (j := 6) rfl
  go_enter Try.func32, Try.ntmps32
  go_upto_region 1 with (fail)
  obtain ⟨w0, hw0⟩ : ∃ w0, w0 = w.alloc (.cells #[.int .i64 t0, .int .i64 t1, .int .i64 t2, .slice p0 l0.length p0', .slice p1 l1.length p1', .slice p2 l2.length p2', .slice p3 l3.length p3'] 56) := ⟨_, rfl⟩
  rw [← hw0] at HX HS HO HB HG HBW hD HN1 y0 y1 y2 y3 y4 y5 y6 ⊢
  clear hw0
  go_wp2_with (first
    | (have hgq := HN1; clear hgq; go_at_call 62; ((with_reducible refine HN1.out.mono ?_); rintro en w1 ⟨l, a1, c1, rfl, hl, hlen, hb1, hg1⟩; replace HF := Lib.hid (app_step hl HF.out); replace hn := app_len HF.out hFl; clear hl hlen HN1; clear y0 y1 y2 y3 y4 y5 y6; replace HX := Lib.hid (HX.out.gro (by simp) hg1 (HG.out.off HO.out.1 HO.out.2));  replace HS := Lib.hid (HS.out.gro HB.out hg1); replace HG := Lib.hid (HG.out.trans hg1); replace HB := Lib.hid hb1; clear hb1 hg1; have y0 := HX.out.cell (j := 0) rfl; have y1 := HX.out.cell (j := 1) rfl; have y2 := HX.out.cell (j := 2) rfl; have y3 := HX.out.cell (j := 3) rfl; have y4 := HX.out.cell (j := 4) rfl; have y5 := HX.out.cell (j := 5) rfl; have y6 := HX.out.cell (j := 6) rfl))
    | (go_at_call 62; ((with_reducible refine (number_rl w.heap.size _ _ _ _ _ HB.out (Nat.le_trans hD HG.out.size) (by omega)).mono ?_); rintro en w1 ⟨l, a1, c1, rfl, hl, hlen, hb1, hg1⟩; replace HF := Lib.hid (app_step hl HF.out); replace hn := app_len HF.out hFl; clear hl hlen; clear y0 y1 y2 y3 y4 y5 y6; replace HX := Lib.hid (HX.out.gro (by simp) hg1 (HG.out.off HO.out.1 HO.out.2));  replace HS := Lib.hid (HS.out.gro HB.out hg1); replace HG := Lib.hid (HG.out.trans hg1); replace HB := Lib.hid hb1; clear hb1 hg1; have y0 := HX.out.cell (j := 0) rfl; have y1 := HX.out.cell (j := 1) rfl; have y2 := HX.out.cell (j := 2) rfl; have y3 := HX.out.cell (j := 3) rfl; have y4 := HX.out.cell (j := 4) rfl; have y5 := HX.out.cell (j := 5) rfl; have y6 := HX.out.cell (j := 6) rfl)))
  clear y0 y1 y2 y3 y4 y5 y6
  go_loopw [3, 4] (fun sl i wr => ∃ (k : Nat) (l : List UInt8) (a1 : Option Addr) (c1 : Nat), k ≤ l0.length ∧ i = .int .i64 k ∧ sl = .slice a1 l.length c1 ∧ Hid (l ++ ((l0.drop k).flatMap encWTen ++ (be8 l1.length ++ (l1.flatMap encWLea ++ (be8 l2.length ++ (l2.flatMap encWSes ++ (be8 l3.length ++ (l3.flatMap encWDsk ++ ([] : List UInt8)))))))) = F) ∧ Hid (Cb wr w.heap.size a1 c1 l) ∧ Hid (Gro none a1 w0 wr) ∧ Hid (Box wr w.heap.size [.int .i64 t0, .int .i64 t1, .int .i64 t2, .slice p0 l0.length p0', .slice p1 l1.length p1', .slice p2 l2.length p2', .slice p3 l3.length p3']) ∧ Hid (LowSt w.heap.size wr (⟨t0, t1, t2, l0, l1, l2, l3⟩ : WSt) (p0, p0', p1, p1', p2, p2', p3, p3'))) (fun _ i _ => l0.length - (intOf i).toNat)
  case atStart => exact ⟨0, l, a1, c1, by omega, rfl, rfl, HF.out, HB.out, HG.out, HX.out, HS.out⟩
  case round =>
    clear HF HB HG HX HS hn
    obtain ⟨k, l, a1, c1, hk, rfl, rfl, HF, HB, HG, HX, HS⟩ := hrel
    have hn := app_len HF.out hFl
    have y3 := HX.out.cell (j := 3) rfl
    by_cases hlt : k < l0.length
    · obtain ⟨b, o, hp0, hc⟩ := rows_at (cells := cellsWTen) (size := 5) (fun _ => rfl) HS.out.row0.row hlt (by decide)
      subst hp0
      replace HF := Lib.hid (drop_flat hlt HF.out)
      have HKX := Lib.hid (List.getElem?_eq_getElem hlt)
      generalize l0[k]'hlt = x at hc HF HKX
      obtain ⟨v0, v1, v2, v3, v4⟩ := x
      have hf := HF.out
      simp only [encWTen, List.append_assoc] at hf
      clear HF
      have HF := Lib.hid hf
      clear hf
      have q0 := hc 0 (by decide)
      rw [show (cellsWTen (⟨v0, v1, v2, v3, v4⟩ : WTen))[0]? = some (.int .i64 v0) from rfl] at q0
      have q1 := hc 1 (by decide)
      rw [show (cellsWTen (⟨v0, v1, v2, v3, v4⟩ : WTen))[1]? = some (.int .i64 v1) from rfl] at q1
      have q2 := hc 2 (by decide)
      rw [show (cellsWTen (⟨v0, v1, v2, v3, v4⟩ : WTen))[2]? = some (.int .i64 v2) from rfl] at q2
      have q3 := hc 3 (by decide)
      rw [show (cellsWTen (⟨v0, v1, v2, v3, v4⟩ : WTen))[3]? = some (.int .i64 v3) from rfl] at q3
      have q4 := hc 4 (by decide)
      rw [show (cellsWTen (⟨v0, v1, v2, v3, v4⟩ : WTen))[4]? = some (.bool v4) from rfl] at q4
      simp only [Nat.add_zero] at q0
      have hd : decide (k < l0.length) = true := decide_eq_true hlt
      clear hc
      go_upto_region 9 with (fail)
      have hba : Below wr.heap.size wr (wr.alloc (.cells #[.int .i64 v0, .int .i64 v1, .int .i64 v2, .int .i64 v3, .bool v4] 115)) := mid_alloc' (Below.refl _ _)
      have HE := Lib.hid (Box.of_alloc (w := wr) (cs := [.int .i64 v0, .int .i64 v1, .int .i64 v2, .int .i64 v3, .bool v4]) (t := 115) (Below.refl _ _))
      have HOE := Lib.hid (And.intro (show wr.heap.size < (wr.alloc (.cells #[.int .i64 v0, .int .i64 v1, .int .i64 v2, .int .i64 v3, .bool v4] 115)).heap.size by simp) HB.out.new)
      replace HB := Lib.hid (HB.out.below hba)
      replace HG := Lib.hid (HG.out.trans (Gro.below _ hba))
      replace HX := Lib.hid (HX.out.next (by simp) hba)
      replace HS := Lib.hid (HS.out.below hba)
      clear q0 q1 q2 q3 q4 y3 hba
      obtain ⟨w1, hw1⟩ : ∃ w1, w1 = wr.alloc (.cells #[.int .i64 v0, .int .i64 v1, .int .i64 v2, .int .i64 v3, .bool v4] 115) := ⟨_, rfl⟩
      rw [← hw1] at HB HG HX HS HE HOE ⊢
      clear hw1
      generalize wr.heap.size = ge at HE HOE ⊢
      have e0 := HE.out.cell (j := 0) rfl
      have e1 := HE.out.cell (j := 1) rfl
      have e2 := HE.out.cell (j := 2) rfl
      have e3 := HE.out.cell (j := 3) rfl
      have e4 := HE.out.cell (j := 4) rfl
      go_wp2_with (first
        | (go_at_call 62; ((with_reducible refine (number_rl w.heap.size _ _ _ _ _ HB.out (Nat.le_trans hD HG.out.size) (by omega)).mono ?_); rintro en w1 ⟨l, a1, c1, rfl, hl, hlen, hb1, hg1⟩; replace HF := Lib.hid (app_step hl HF.out); replace hn := app_len HF.out hFl; clear hl hlen; clear e0 e1 e2 e3 e4; replace HX := Lib.hid (HX.out.gro (by simp) hg1 (HG.out.off HO.out.1 HO.out.2)); replace HE := Lib.hid (HE.out.gro (by simp) hg1 HOE.out.2); replace HOE := Lib.hid (And.intro (Nat.lt_of_lt_of_le HOE.out.1 hg1.size) (hg1.off HOE.out.1 HOE.out.2)); replace HS := Lib.hid (HS.out.gro HB.out hg1); replace HG := Lib.hid (HG.out.trans hg1); replace HB := Lib.hid hb1; clear hb1 hg1; have e0 := HE.out.cell (j := 0) rfl; have e1 := HE.out.cell (j := 1) rfl; have e2 := HE.out.cell (j := 2) rfl; have e3 := HE.out.cell (j := 3) rfl; have e4 := HE.out.cell (j := 4) rfl))
        | (go_at_call 63; ((with_reducible refine (truth_rl w.heap.size _ _ _ _ _ HB.out (Nat.le_trans hD HG.out.size) (by omega)).mono ?_); rintro en w1 ⟨l, a1, c1, rfl, hl, hlen, hb1, hg1⟩; replace HF := Lib.hid (app_step hl HF.out); replace hn := app_len HF.out hFl; clear hl hlen; clear e0 e1 e2 e3 e4; replace HX := Lib.hid (HX.out.gro (by simp) hg1 (HG.out.off HO.out.1 HO.out.2)); replace HE := Lib.hid (HE.out.gro (by simp) hg1 HOE.out.2); replace HOE := Lib.hid (And.intro (Nat.lt_of_lt_of_le HOE.out.1 hg1.size) (hg1.off HOE.out.1 HOE.out.2)); replace HS := Lib.hid (HS.out.gro HB.out hg1); replace HG := Lib.hid (HG.out.trans hg1); replace HB := Lib.hid hb1; clear hb1 hg1; have e0 := HE.out.cell (j := 0) rfl; have e1 := HE.out.cell (j := 1) rfl; have e2 := HE.out.cell (j := 2) rfl; have e3 := HE.out.cell (j := 3) rfl; have e4 := HE.out.cell (j := 4) rfl)))
      exact ⟨⟨k + 1, l, a1, c1, by omega, by go_num, rfl, HF.out, HB.out, HG.out, HX.out, HS.out⟩, by simp [intOf]; omega⟩
    · obtain rfl : k = l0.length := by omega
      have hd : decide (l0.length < l0.length) = false := decide_eq_false (by omega)
      replace HF := Lib.hid (drop_all HF.out)
      have y0 := HX.out.cell (j := 0) rfl
      have y1 := HX.out.cell (j := 1) rfl
      have y2 := HX.out.cell (j := 2) rfl
      have y3 := HX.out.cell (j := 3) rfl
      have y4 := HX.out.cell (j := 4) rfl
      have y5 := HX.out.cell (j := 5) rfl
      have y6 := HX.out.cell (j := 6) rfl
      go_wp2_with ((go_at_call 62; ((with_reducible refine (number_rl w.heap.size _ _ _ _ _ HB.out (Nat.le_trans hD HG.out.size) (by omega)).mono ?_); rintro en w1 ⟨l, a1, c1, rfl, hl, hlen, hb1, hg1⟩; replace HF := Lib.hid (app_step hl HF.out); replace hn := app_len HF.out hFl; clear hl hlen; clear y0 y1 y2 y3 y4 y5 y6; replace HX := Lib.hid (HX.out.gro (by simp) hg1 (HG.out.off HO.out.1 HO.out.2));  replace HS := Lib.hid (HS.out.gro HB.out hg1); replace HG := Lib.hid (HG.out.trans hg1); replace HB := Lib.hid hb1; clear hb1 hg1; have y0 := HX.out.cell (j := 0) rfl; have y1 := HX.out.cell (j := 1) rfl; have y2 := HX.out.cell (j := 2) rfl; have y3 := HX.out.cell (j := 3) rfl; have y4 := HX.out.cell (j := 4) rfl; have y5 := HX.out.cell (j := 5) rfl; have y6 := HX.out.cell (j := 6) rfl)))
      clear hk hlt hd
      clear y0 y1 y2 y3 y4 y5 y6
      go_loopw [3, 6] (fun sl i wr => ∃ (k : Nat) (l : List UInt8) (a1 : Option Addr) (c1 : Nat), k ≤ l1.length ∧ i = .int .i64 k ∧ sl = .slice a1 l.length c1 ∧ Hid (l ++ ((l1.drop k).flatMap encWLea ++ (be8 l2.length ++ (l2.flatMap encWSes ++ (be8 l3.length ++ (l3.flatMap encWDsk ++ ([] : List UInt8)))))) = F) ∧ Hid (Cb wr w.heap.size a1 c1 l) ∧ Hid (Gro none a1 w0 wr) ∧ Hid (Box wr w.heap.size [.int .i64 t0, .int .i64 t1, .int .i64 t2, .slice p0 l0.length p0', .slice p1 l1.length p1', .slice p2 l2.length p2', .slice p3 l3.length p3']) ∧ Hid (LowSt w.heap.size wr (⟨t0, t1, t2, l0, l1, l2, l3⟩ : WSt) (p0, p0', p1, p1', p2, p2', p3, p3'))) (fun _ i _ => l1.length - (intOf i).toNat)
      case atStart => exact ⟨0, l, a1, c1, by omega, rfl, rfl, HF.out, HB.out, HG.out, HX.out, HS.out⟩
      case round =>
        clear HF HB HG HX HS hn
        obtain ⟨k, l, a1, c1, hk, rfl, rfl, HF, HB, HG, HX, HS⟩ := hrel
        have hn := app_len HF.out hFl
        have y4 := HX.out.cell (j := 4) rfl
        by_cases hlt : k < l1.length
        · obtain ⟨b, o, hp0, hc⟩ := rows_at (cells := cellsWLea) (size := 7) (fun _ => rfl) HS.out.row1.row hlt (by decide)
          subst hp0
          replace HF := Lib.hid (drop_flat hlt HF.out)
          have HKX := Lib.hid (List.getElem?_eq_getElem hlt)
          generalize l1[k]'hlt = x at hc HF HKX
          obtain ⟨v0, v1, v2, v3, v4, v5, v6⟩ := x
          have hf := HF.out
          simp only [encWLea, List.append_assoc] at hf
          clear HF
          have HF := Lib.hid hf
          clear hf
          have q0 := hc 0 (by decide)
          rw [show (cellsWLea (⟨v0, v1, v2, v3, v4, v5, v6⟩ : WLea))[0]? = some (.int .i64 v0) from rfl] at q0
          have q1 := hc 1 (by decide)
          rw [show (cellsWLea (⟨v0, v1, v2, v3, v4, v5, v6⟩ : WLea))[1]? = some (.int .i64 v1) from rfl] at q1
          have q2 := hc 2 (by decide)
          rw [show (cellsWLea (⟨v0, v1, v2, v3, v4, v5, v6⟩ : WLea))[2]? = some (.int .i64 v2) from rfl] at q2
          have q3 := hc 3 (by decide)
          rw [show (cellsWLea (⟨v0, v1, v2, v3, v4, v5, v6⟩ : WLea))[3]? = some (.int .i64 v3) from rfl] at q3
          have q4 := hc 4 (by decide)
          rw [show (cellsWLea (⟨v0, v1, v2, v3, v4, v5, v6⟩ : WLea))[4]? = some (.int .i64 v4) from rfl] at q4
          have q5 := hc 5 (by decide)
          rw [show (cellsWLea (⟨v0, v1, v2, v3, v4, v5, v6⟩ : WLea))[5]? = some (.int .i64 v5) from rfl] at q5
          have q6 := hc 6 (by decide)
          rw [show (cellsWLea (⟨v0, v1, v2, v3, v4, v5, v6⟩ : WLea))[6]? = some (.int .i64 v6) from rfl] at q6
          simp only [Nat.add_zero] at q0
          have hd : decide (k < l1.length) = true := decide_eq_true hlt
          clear hc
          go_upto_region 19 with (fail)
          have hba : Below wr.heap.size wr (wr.alloc (.cells #[.int .i64 v0, .int .i64 v1, .int .i64 v2, .int .i64 v3, .int .i64 v4, .int .i64 v5, .int .i64 v6] 118)) := mid_alloc' (Below.refl _ _)
          have HE := Lib.hid (Box.of_alloc (w := wr) (cs := [.int .i64 v0, .int .i64 v1, .int .i64 v2, .int .i64 v3, .int .i64 v4, .int .i64 v5, .int .i64 v6]) (t := 118) (Below.refl _ _))
          have HOE := Lib.hid (And.intro (show wr.heap.size < (wr.alloc (.cells #[.int .i64 v0, .int .i64 v1, .int .i64 v2, .int .i64 v3, .int .i64 v4, .int .i64 v5, .int .i64 v6] 118)).heap.size by simp) HB.out.new)
          replace HB := Lib.hid (HB.out.below hba)
          replace HG := Lib.hid (HG.out.trans (Gro.below _ hba))
          replace HX := Lib.hid (HX.out.next (by simp) hba)
          replace HS := Lib.hid (HS.out.below hba)
          clear q0 q1 q2 q3 q4 q5 q6 y4 hba
          obtain ⟨w1, hw1⟩ : ∃ w1, w1 = wr.alloc (.cells #[.int .i64 v0, .int .i64 v1, .int .i64 v2, .int .i64 v3, .int .i64 v4, .int .i64 v5, .int .i64 v6] 118) := ⟨_, rfl⟩
          rw [← hw1] at HB HG HX HS HE HOE ⊢
          clear hw1
          generalize wr.heap.size = ge at HE HOE ⊢
          have e0 := HE.out.cell (j := 0) rfl
          have e1 := HE.out.cell (j := 1) rfl
          have e2 := HE.out.cell (j := 2) rfl
          have e3 := HE.out.cell (j := 3) rfl
          have e4 := HE.out.cell (j := 4) rfl
          have e5 := HE.out.cell (j := 5) rfl
          have e6 := HE.out.cell (j := 6) rfl
          go_wp2_with (first
            | (go_at_call 62; ((with_reducible refine (number_rl w.heap.size _ _ _ _ _ HB.out (Nat.le_trans hD HG.out.size) (by omega)).mono ?_); rintro en w1 ⟨l, a1, c1, rfl, hl, hlen, hb1, hg1⟩; replace HF := Lib.hid (app_step hl HF.out); replace hn := app_len HF.out hFl; clear hl hlen; clear e0 e1 e2 e3 e4 e5 e6; replace HX := Lib.hid (HX.out.gro (by simp) hg1 (HG.out.off HO.out.1 HO.out.2)); replace HE := Lib.hid (HE.out.gro (by simp) hg1 HOE.out.2); replace HOE := Lib.hid (And.intro (Nat.lt_of_lt_of_le HOE.out.1 hg1.size) (hg1.off HOE.out.1 HOE.out.2)); replace HS := Lib.hid (HS.out.gro HB.out hg1); replace HG := Lib.hid (HG.out.trans hg1); replace HB := Lib.hid hb1; clear hb1 hg1; have e0 := HE.out.cell (j := 0) rfl; have e1 := HE.out.cell (j := 1) rfl; have e2 := HE.out.cell (j := 2) rfl; have e3 := HE.out.cell (j := 3) rfl; have e4 := HE.out.cell (j := 4) rfl; have e5 := HE.out.cell (j := 5) rfl; have e6 := HE.out.cell (j := 6) rfl)))
          exact ⟨⟨k + 1, l, a1, c1, by omega, by go_num, rfl, HF.out, HB.out, HG.out, HX.out, HS.out⟩, by simp [intOf]; omega⟩
        · obtain rfl : k = l1.length := by omega
          have hd : decide (l1.length < l1.length) = false := decide_eq_false (by omega)
          replace HF := Lib.hid (drop_all HF.out)
          have y0 := HX.out.cell (j := 0) rfl
          have y1 := HX.out.cell (j := 1) rfl
          have y2 := HX.out.cell (j := 2) rfl
          have y3 := HX.out.cell (j := 3) rfl
          have y4 := HX.out.cell (j := 4) rfl
          have y5 := HX.out.cell (j := 5) rfl
          have y6 := HX.out.cell (j := 6) rfl
          go_wp2_with ((go_at_call 62; ((with_reducible refine (number_rl w.heap.size _ _ _ _ _ HB.out (Nat.le_trans hD HG.out.size) (by omega)).mono ?_); rintro en w1 ⟨l, a1, c1, rfl, hl, hlen, hb1, hg1⟩; replace HF := Lib.hid (app_step hl HF.out); replace hn := app_len HF.out hFl; clear hl hlen; clear y0 y1 y2 y3 y4 y5 y6; replace HX := Lib.hid (HX.out.gro (by simp) hg1 (HG.out.off HO.out.1 HO.out.2));  replace HS := Lib.hid (HS.out.gro HB.out hg1); replace HG := Lib.hid (HG.out.trans hg1); replace HB := Lib.hid hb1; clear hb1 hg1; have y0 := HX.out.cell (j := 0) rfl; have y1 := HX.out.cell (j := 1) rfl; have y2 := HX.out.cell (j := 2) rfl; have y3 := HX.out.cell (j := 3) rfl; have y4 := HX.out.cell (j := 4) rfl; have y5 := HX.out.cell (j := 5) rfl; have y6 := HX.out.cell (j := 6) rfl)))
          clear hk hlt hd
          clear y0 y1 y2 y3 y4 y5 y6
          go_loopw [3, 8] (fun sl i wr => ∃ (k : Nat) (l : List UInt8) (a1 : Option Addr) (c1 : Nat), k ≤ l2.length ∧ i = .int .i64 k ∧ sl = .slice a1 l.length c1 ∧ Hid (l ++ ((l2.drop k).flatMap encWSes ++ (be8 l3.length ++ (l3.flatMap encWDsk ++ ([] : List UInt8)))) = F) ∧ Hid (Cb wr w.heap.size a1 c1 l) ∧ Hid (Gro none a1 w0 wr) ∧ Hid (Box wr w.heap.size [.int .i64 t0, .int .i64 t1, .int .i64 t2, .slice p0 l0.length p0', .slice p1 l1.length p1', .slice p2 l2.length p2', .slice p3 l3.length p3']) ∧ Hid (LowSt w.heap.size wr (⟨t0, t1, t2, l0, l1, l2, l3⟩ : WSt) (p0, p0', p1, p1', p2, p2', p3, p3'))) (fun _ i _ => l2.length - (intOf i).toNat)
          case atStart => exact ⟨0, l, a1, c1, by omega, rfl, rfl, HF.out, HB.out, HG.out, HX.out, HS.out⟩
          case round =>
            clear HF HB HG HX HS hn
            obtain ⟨k, l, a1, c1, hk, rfl, rfl, HF, HB, HG, HX, HS⟩ := hrel
            have hn := app_len HF.out hFl
            have y5 := HX.out.cell (j := 5) rfl
            by_cases hlt : k < l2.length
            · obtain ⟨b, o, hp0, hc⟩ := rows_at (cells := cellsWSes) (size := 7) (fun _ => rfl) HS.out.row2.row hlt (by decide)
              subst hp0
              replace HF := Lib.hid (drop_flat hlt HF.out)
              have HKX := Lib.hid (List.getElem?_eq_getElem hlt)
              generalize l2[k]'hlt = x at hc HF HKX
              obtain ⟨v0, v1, ⟨v2, v3, v4, v5, v6⟩⟩ := x
              have hf := HF.out
              simp only [encWSes, List.append_assoc] at hf
              clear HF
              have HF := Lib.hid hf
              clear hf
              have q0 := hc 0 (by decide)
              rw [show (cellsWSes (⟨v0, v1, ⟨v2, v3, v4, v5, v6⟩⟩ : WSes))[0]? = some (.int .i64 v0) from rfl] at q0
              have q1 := hc 1 (by decide)
              rw [show (cellsWSes (⟨v0, v1, ⟨v2, v3, v4, v5, v6⟩⟩ : WSes))[1]? = some (.int .i64 v1) from rfl] at q1
              have q2 := hc 2 (by decide)
              rw [show (cellsWSes (⟨v0, v1, ⟨v2, v3, v4, v5, v6⟩⟩ : WSes))[2]? = some (.int .i64 v2) from rfl] at q2
              have q3 := hc 3 (by decide)
              rw [show (cellsWSes (⟨v0, v1, ⟨v2, v3, v4, v5, v6⟩⟩ : WSes))[3]? = some (.int .i64 v3) from rfl] at q3
              have q4 := hc 4 (by decide)
              rw [show (cellsWSes (⟨v0, v1, ⟨v2, v3, v4, v5, v6⟩⟩ : WSes))[4]? = some (.int .i64 v4) from rfl] at q4
              have q5 := hc 5 (by decide)
              rw [show (cellsWSes (⟨v0, v1, ⟨v2, v3, v4, v5, v6⟩⟩ : WSes))[5]? = some (.int .i64 v5) from rfl] at q5
              have q6 := hc 6 (by decide)
              rw [show (cellsWSes (⟨v0, v1, ⟨v2, v3, v4, v5, v6⟩⟩ : WSes))[6]? = some (.int .i64 v6) from rfl] at q6
              simp only [Nat.add_zero] at q0
              have hd : decide (k < l2.length) = true := decide_eq_true hlt
              clear hc
              go_wp2_with (first
                | (go_at_call 62; ((with_reducible refine (number_rl w.heap.size _ _ _ _ _ HB.out (Nat.le_trans hD HG.out.size) (by omega)).mono ?_); rintro en w1 ⟨l, a1, c1, rfl, hl, hlen, hb1, hg1⟩; replace HF := Lib.hid (app_step hl HF.out); replace hn := app_len HF.out hFl; clear hl hlen; clear y5 q0 q1 q2 q3 q4 q5 q6; replace HX := Lib.hid (HX.out.gro (by simp) hg1 (HG.out.off HO.out.1 HO.out.2));  replace HS := Lib.hid (HS.out.gro HB.out hg1); replace HG := Lib.hid (HG.out.trans hg1); replace HB := Lib.hid hb1; clear hb1 hg1; have y5 := HX.out.cell (j := 5) rfl; have hc := rows_cells (cells := cellsWSes) (size := 7) (fun _ => rfl) HS.out.row2.row HKX.out (by decide); have q0 := hc 0 (by decide); rw [show (cellsWSes (⟨v0, v1, ⟨v2, v3, v4, v5, v6⟩⟩ : WSes))[0]? = some (.int .i64 v0) from rfl] at q0; have q1 := hc 1 (by decide); rw [show (cellsWSes (⟨v0, v1, ⟨v2, v3, v4, v5, v6⟩⟩ : WSes))[1]? = some (.int .i64 v1) from rfl] at q1; have q2 := hc 2 (by decide); rw [show (cellsWSes (⟨v0, v1, ⟨v2, v3, v4, v5, v6⟩⟩ : WSes))[2]? = some (.int .i64 v2) from rfl] at q2; have q3 := hc 3 (by decide); rw [show (cellsWSes (⟨v0, v1, ⟨v2, v3, v4, v5, v6⟩⟩ : WSes))[3]? = some (.int .i64 v3) from rfl] at q3; have q4 := hc 4 (by decide); rw [show (cellsWSes (⟨v0, v1, ⟨v2, v3, v4, v5, v6⟩⟩ : WSes))[4]? = some (.int .i64 v4) from rfl] at q4; have q5 := hc 5 (by decide); rw [show (cellsWSes (⟨v0, v1, ⟨v2, v3, v4, v5, v6⟩⟩ : WSes))[5]? = some (.int .i64 v5) from rfl] at q5; have q6 := hc 6 (by decide); rw [show (cellsWSes (⟨v0, v1, ⟨v2, v3, v4, v5, v6⟩⟩ : WSes))[6]? = some (.int .i64 v6) from rfl] at q6; simp only [Nat.add_zero] at q0; clear hc))
                | (go_at_call 65; ((with_reducible refine (answer_rl w.heap.size _ _ _ _ _ _ _ _ _ HB.out (Nat.le_trans hD HG.out.size) (by omega)).mono ?_); rintro en w1 ⟨l, a1, c1, rfl, hl, hlen, hb1, hg1⟩; replace HF := Lib.hid (app_step hl HF.out); replace hn := app_len HF.out hFl; clear hl hlen; clear y5 q0 q1 q2 q3 q4 q5 q6; replace HX := Lib.hid (HX.out.gro (by simp) hg1 (HG.out.off HO.out.1 HO.out.2));  replace HS := Lib.hid (HS.out.gro HB.out hg1); replace HG := Lib.hid (HG.out.trans hg1); replace HB := Lib.hid hb1; clear hb1 hg1; have y5 := HX.out.cell (j := 5) rfl; have hc := rows_cells (cells := cellsWSes) (size := 7) (fun _ => rfl) HS.out.row2.row HKX.out (by decide); have q0 := hc 0 (by decide); rw [show (cellsWSes (⟨v0, v1, ⟨v2, v3, v4, v5, v6⟩⟩ : WSes))[0]? = some (.int .i64 v0) from rfl] at q0; have q1 := hc 1 (by decide); rw [show (cellsWSes (⟨v0, v1, ⟨v2, v3, v4, v5, v6⟩⟩ : WSes))[1]? = some (.int .i64 v1) from rfl] at q1; have q2 := hc 2 (by decide); rw [show (cellsWSes (⟨v0, v1, ⟨v2, v3, v4, v5, v6⟩⟩ : WSes))[2]? = some (.int .i64 v2) from rfl] at q2; have q3 := hc 3 (by decide); rw [show (cellsWSes (⟨v0, v1, ⟨v2, v3, v4, v5, v6⟩⟩ : WSes))[3]? = some (.int .i64 v3) from rfl] at q3; have q4 := hc 4 (by decide); rw [show (cellsWSes (⟨v0, v1, ⟨v2, v3, v4, v5, v6⟩⟩ : WSes))[4]? = some (.int .i64 v4) from rfl] at q4; have q5 := hc 5 (by decide); rw [show (cellsWSes (⟨v0, v1, ⟨v2, v3, v4, v5, v6⟩⟩ : WSes))[5]? = some (.int .i64 v5) from rfl] at q5; have q6 := hc 6 (by decide); rw [show (cellsWSes (⟨v0, v1, ⟨v2, v3, v4, v5, v6⟩⟩ : WSes))[6]? = some (.int .i64 v6) from rfl] at q6; simp only [Nat.add_zero] at q0; clear hc)))
              exact ⟨⟨k + 1, l, a1, c1, by omega, by go_num, rfl, HF.out, HB.out, HG.out, HX.out, HS.out⟩, by simp [intOf]; omega⟩
            · obtain rfl : k = l2.length := by omega
              have hd : decide (l2.length < l2.length) = false := decide_eq_false (by omega)
              replace HF := Lib.hid (drop_all HF.out)
              have y0 := HX.out.cell (j := 0) rfl
              have y1 := HX.out.cell (j := 1) rfl
              have y2 := HX.out.cell (j := 2) rfl
              have y3 := HX.out.cell (j := 3) rfl
              have y4 := HX.out.cell (j := 4) rfl
              have y5 := HX.out.cell (j := 5) rfl
              have y6 := HX.out.cell (j := 6) rfl
              go_wp2_with ((go_at_call 62; ((with_reducible refine (number_rl w.heap.size _ _ _ _ _ HB.out (Nat.le_trans hD HG.out.size) (by omega)).mono ?_); rintro en w1 ⟨l, a1, c1, rfl, hl, hlen, hb1, hg1⟩; replace HF := Lib.hid (app_step hl HF.out); replace hn := app_len HF.out hFl; clear hl hlen; clear y0 y1 y2 y3 y4 y5 y6; replace HX := Lib.hid (HX.out.gro (by simp) hg1 (HG.out.off HO.out.1 HO.out.2));  replace HS := Lib.hid (HS.out.gro HB.out hg1); replace HG := Lib.hid (HG.out.trans hg1); replace HB := Lib.hid hb1; clear hb1 hg1; have y0 := HX.out.cell (j := 0) rfl; have y1 := HX.out.cell (j := 1) rfl; have y2 := HX.out.cell (j := 2) rfl; have y3 := HX.out.cell (j := 3) rfl; have y4 := HX.out.cell (j := 4) rfl; have y5 := HX.out.cell (j := 5) rfl; have y6 := HX.out.cell (j := 6) rfl)))
              clear hk hlt hd
              clear y0 y1 y2 y3 y4 y5 y6
              go_loopw [3, 9] (fun sl i wr => ∃ (k : Nat) (l : List UInt8) (a1 : Option Addr) (c1 : Nat), k ≤ l3.length ∧ i = .int .i64 k ∧ sl = .slice a1 l.length c1 ∧ Hid (l ++ ((l3.drop k).flatMap encWDsk ++ ([] : List UInt8)) = F) ∧ Hid (Cb wr w.heap.size a1 c1 l) ∧ Hid (Gro none a1 w0 wr) ∧ Hid (Box wr w.heap.size [.int .i64 t0, .int .i64 t1, .int .i64 t2, .slice p0 l0.length p0', .slice p1 l1.length p1', .slice p2 l2.length p2', .slice p3 l3.length p3']) ∧ Hid (LowSt w.heap.size wr (⟨t0, t1, t2, l0, l1, l2, l3⟩ : WSt) (p0, p0', p1, p1', p2, p2', p3, p3'))) (fun _ i _ => l3.length - (intOf i).toNat)
              case atStart => exact ⟨0, l, a1, c1, by omega, rfl, rfl, HF.out, HB.out, HG.out, HX.out, HS.out⟩
              case round =>
                clear HF HB HG HX HS hn
                obtain ⟨k, l, a1, c1, hk, rfl, rfl, HF, HB, HG, HX, HS⟩ := hrel
                have hn := app_len HF.out hFl
                have y6 := HX.out.cell (j := 6) rfl
                by_cases hlt : k < l3.length
                · obtain ⟨b, o, hp0, hc⟩ := rows_at (cells := cellsWDsk) (size := 8) (fun _ => rfl) HS.out.row3.row hlt (by decide)
                  subst hp0
                  replace HF := Lib.hid (drop_flat hlt HF.out)
                  have HKX := Lib.hid (List.getElem?_eq_getElem hlt)
                  generalize l3[k]'hlt = x at hc HF HKX
                  obtain ⟨v0, v1, v2, ⟨v3, v4, v5, v6, v7⟩⟩ := x
                  have hf := HF.out
                  simp only [encWDsk, List.append_assoc] at hf
                  clear HF
                  have HF := Lib.hid hf
                  clear hf
                  have q0 := hc 0 (by decide)
                  rw [show (cellsWDsk (⟨v0, v1, v2, ⟨v3, v4, v5, v6, v7⟩⟩ : WDsk))[0]? = some (.int .i64 v0) from rfl] at q0
                  have q1 := hc 1 (by decide)
                  rw [show (cellsWDsk (⟨v0, v1, v2, ⟨v3, v4, v5, v6, v7⟩⟩ : WDsk))[1]? = some (.int .i64 v1) from rfl] at q1
                  have q2 := hc 2 (by decide)
                  rw [show (cellsWDsk (⟨v0, v1, v2, ⟨v3, v4, v5, v6, v7⟩⟩ : WDsk))[2]? = some (.int .i64 v2) from rfl] at q2
                  have q3 := hc 3 (by decide)
                  rw [show (cellsWDsk (⟨v0, v1, v2, ⟨v3, v4, v5, v6, v7⟩⟩ : WDsk))[3]? = some (.int .i64 v3) from rfl] at q3
                  have q4 := hc 4 (by decide)
                  rw [show (cellsWDsk (⟨v0, v1, v2, ⟨v3, v4, v5, v6, v7⟩⟩ : WDsk))[4]? = some (.int .i64 v4) from rfl] at q4
                  have q5 := hc 5 (by decide)
                  rw [show (cellsWDsk (⟨v0, v1, v2, ⟨v3, v4, v5, v6, v7⟩⟩ : WDsk))[5]? = some (.int .i64 v5) from rfl] at q5
                  have q6 := hc 6 (by decide)
                  rw [show (cellsWDsk (⟨v0, v1, v2, ⟨v3, v4, v5, v6, v7⟩⟩ : WDsk))[6]? = some (.int .i64 v6) from rfl] at q6
                  have q7 := hc 7 (by decide)
                  rw [show (cellsWDsk (⟨v0, v1, v2, ⟨v3, v4, v5, v6, v7⟩⟩ : WDsk))[7]? = some (.int .i64 v7) from rfl] at q7
                  simp only [Nat.add_zero] at q0
                  have hd : decide (k < l3.length) = true := decide_eq_true hlt
                  clear hc
                  go_wp2_with (first
                    | (go_at_call 62; ((with_reducible refine (number_rl w.heap.size _ _ _ _ _ HB.out (Nat.le_trans hD HG.out.size) (by omega)).mono ?_); rintro en w1 ⟨l, a1, c1, rfl, hl, hlen, hb1, hg1⟩; replace HF := Lib.hid (app_step hl HF.out); replace hn := app_len HF.out hFl; clear hl hlen; clear y6 q0 q1 q2 q3 q4 q5 q6 q7; replace HX := Lib.hid (HX.out.gro (by simp) hg1 (HG.out.off HO.out.1 HO.out.2));  replace HS := Lib.hid (HS.out.gro HB.out hg1); replace HG := Lib.hid (HG.out.trans hg1); replace HB := Lib.hid hb1; clear hb1 hg1; have y6 := HX.out.cell (j := 6) rfl; have hc := rows_cells (cells := cellsWDsk) (size := 8) (fun _ => rfl) HS.out.row3.row HKX.out (by decide); have q0 := hc 0 (by decide); rw [show (cellsWDsk (⟨v0, v1, v2, ⟨v3, v4, v5, v6, v7⟩⟩ : WDsk))[0]? = some (.int .i64 v0) from rfl] at q0; have q1 := hc 1 (by decide); rw [show (cellsWDsk (⟨v0, v1, v2, ⟨v3, v4, v5, v6, v7⟩⟩ : WDsk))[1]? = some (.int .i64 v1) from rfl] at q1; have q2 := hc 2 (by decide); rw [show (cellsWDsk (⟨v0, v1, v2, ⟨v3, v4, v5, v6, v7⟩⟩ : WDsk))[2]? = some (.int .i64 v2) from rfl] at q2; have q3 := hc 3 (by decide); rw [show (cellsWDsk (⟨v0, v1, v2, ⟨v3, v4, v5, v6, v7⟩⟩ : WDsk))[3]? = some (.int .i64 v3) from rfl] at q3; have q4 := hc 4 (by decide); rw [show (cellsWDsk (⟨v0, v1, v2, ⟨v3, v4, v5, v6, v7⟩⟩ : WDsk))[4]? = some (.int .i64 v4) from rfl] at q4; have q5 := hc 5 (by decide); rw [show (cellsWDsk (⟨v0, v1, v2, ⟨v3, v4, v5, v6, v7⟩⟩ : WDsk))[5]? = some (.int .i64 v5) from rfl] at q5; have q6 := hc 6 (by decide); rw [show (cellsWDsk (⟨v0, v1, v2, ⟨v3, v4, v5, v6, v7⟩⟩ : WDsk))[6]? = some (.int .i64 v6) from rfl] at q6; have q7 := hc 7 (by decide); rw [show (cellsWDsk (⟨v0, v1, v2, ⟨v3, v4, v5, v6, v7⟩⟩ : WDsk))[7]? = some (.int .i64 v7) from rfl] at q7; simp only [Nat.add_zero] at q0; clear hc))
                    | (go_at_call 65; ((with_reducible refine (answer_rl w.heap.size _ _ _ _ _ _ _ _ _ HB.out (Nat.le_trans hD HG.out.size) (by omega)).mono ?_); rintro en w1 ⟨l, a1, c1, rfl, hl, hlen, hb1, hg1⟩; replace HF := Lib.hid (app_step hl HF.out); replace hn := app_len HF.out hFl; clear hl hlen; clear y6 q0 q1 q2 q3 q4 q5 q6 q7; replace HX := Lib.hid (HX.out.gro (by simp) hg1 (HG.out.off HO.out.1 HO.out.2));  replace HS := Lib.hid (HS.out.gro HB.out hg1); replace HG := Lib.hid (HG.out.trans hg1); replace HB := Lib.hid hb1; clear hb1 hg1; have y6 := HX.out.cell (j := 6) rfl; have hc := rows_cells (cells := cellsWDsk) (size := 8) (fun _ => rfl) HS.out.row3.row HKX.out (by decide); have q0 := hc 0 (by decide); rw [show (cellsWDsk (⟨v0, v1, v2, ⟨v3, v4, v5, v6, v7⟩⟩ : WDsk))[0]? = some (.int .i64 v0) from rfl] at q0; have q1 := hc 1 (by decide); rw [show (cellsWDsk (⟨v0, v1, v2, ⟨v3, v4, v5, v6, v7⟩⟩ : WDsk))[1]? = some (.int .i64 v1) from rfl] at q1; have q2 := hc 2 (by decide); rw [show (cellsWDsk (⟨v0, v1, v2, ⟨v3, v4, v5, v6, v7⟩⟩ : WDsk))[2]? = some (.int .i64 v2) from rfl] at q2; have q3 := hc 3 (by decide); rw [show (cellsWDsk (⟨v0, v1, v2, ⟨v3, v4, v5, v6, v7⟩⟩ : WDsk))[3]? = some (.int .i64 v3) from rfl] at q3; have q4 := hc 4 (by decide); rw [show (cellsWDsk (⟨v0, v1, v2, ⟨v3, v4, v5, v6, v7⟩⟩ : WDsk))[4]? = some (.int .i64 v4) from rfl] at q4; have q5 := hc 5 (by decide); rw [show (cellsWDsk (⟨v0, v1, v2, ⟨v3, v4, v5, v6, v7⟩⟩ : WDsk))[5]? = some (.int .i64 v5) from rfl] at q5; have q6 := hc 6 (by decide); rw [show (cellsWDsk (⟨v0, v1, v2, ⟨v3, v4, v5, v6, v7⟩⟩ : WDsk))[6]? = some (.int .i64 v6) from rfl] at q6; have q7 := hc 7 (by decide); rw [show (cellsWDsk (⟨v0, v1, v2, ⟨v3, v4, v5, v6, v7⟩⟩ : WDsk))[7]? = some (.int .i64 v7) from rfl] at q7; simp only [Nat.add_zero] at q0; clear hc)))
                  exact ⟨⟨k + 1, l, a1, c1, by omega, by go_num, rfl, HF.out, HB.out, HG.out, HX.out, HS.out⟩, by simp [intOf]; omega⟩
                · obtain rfl : k = l3.length := by omega
                  have hd : decide (l3.length < l3.length) = false := decide_eq_false (by omega)
                  replace HF := Lib.hid (drop_all HF.out)
                  go_wp2
                  go_ret
                  have hf := HF.out
                  rw [List.append_nil] at hf
                  subst hf
                  exact ⟨a1, c1, rfl, HB.out.can.row, HBW.out.trans (HG.out.bel.mono HBW.out.size)⟩
end Go.Proofs.Ytlckgnemmffdkaa
