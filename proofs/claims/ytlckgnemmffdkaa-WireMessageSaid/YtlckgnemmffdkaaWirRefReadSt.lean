import Derived.Test.YtlckgnemmffdkaaWirRefReadCmd
import Derived.Test.YtlckgnemmffdkaaWirRrA
import Derived.Test.YtlckgnemmffdkaaWirTopSt
import Derived.Deep.CutBlock
set_option linter.unusedVariables false
set_option linter.unusedSimpArgs false
/- The document's ReadState. (printed by gen_wirrefreadst.py) -/
namespace Go.Proofs.Ytlckgnemmffdkaa
open Go.ChangeShapes Go.WideShapes Go.ChangeAt Go.RowKit
set_option maxRecDepth 100000

theorem Turn.up {r : Nat} {w w' : World} (h : Turn (r + 1) (r + 1) w w') (_ : r < w.heap.size) : Keep (fun k => r < k) w w' := h.mono fun k _ e => by rcases e with e | e | e <;> omega
theorem Turn.up2 {r x : Nat} {w w' : World} (h : Turn (r + 1) x w w') (_ : r < w.heap.size) (hx : r < x) : Keep (fun k => r < k) w w' := h.mono fun k _ e => by rcases e with e | e | e <;> omega
set_option maxHeartbeats 64000000 in
theorem refreadstate_any (a : Option Addr) (c : Nat) (bs : List UInt8) (w : World) (hr : RowB w a bs) (hc : bs.length ≤ c) (hl : bs.length ≤ 1048576) :
    Calls Try.prog 30 #[.slice a bs.length c] w (RetRdSt w (readP zSt wStP bs)) := by
  have hB1 : Below w.heap.size w (w.alloc (.cells #[.int .i64 0, .int .i64 0, .int .i64 0, .slice none 0 0, .slice none 0 0, .slice none 0 0, .slice none 0 0] 56)) := mid_alloc' (Below.refl _ _)
  have HR0 := Lib.hid (Box.of_alloc (w := w) (cs := [.int .i64 0, .int .i64 0, .int .i64 0, .slice none 0 0, .slice none 0 0, .slice none 0 0, .slice none 0 0]) (t := 56) (Below.refl _ _))
  have HBE := Lib.hid (begin_any a c bs (w.alloc (.cells #[.int .i64 0, .int .i64 0, .int .i64 0, .slice none 0 0, .slice none 0 0, .slice none 0 0, .slice none 0 0] 56)) (hr.below hB1) hc hl)
  have HB1 := Lib.hid hB1
  have HC : Hid (∀ y st', Link (fun l p => bindP (numP l p) fun a q => (fun v0 l p => bindP (numP l p) fun v1 p => bindP (numP l p) fun v2 p => bindP (listP 33 wTenP l p) fun xs0 p => bindP (listP 56 wLeaP l p) fun xs1 p => bindP (listP 56 wSesP l p) fun xs2 p => bindP (listP 64 wDskP l p) fun xs3 p => .ok ((⟨v0, v1, v2, xs0, xs1, xs2, xs3⟩ : WSt), p)) a l q) bs (.ok 0) y st' → Link wStP bs (.ok 0) y st') := Lib.hid (fun y st' h => h)
  clear hB1 hr
  go_enter Try.func30, Try.ntmps30
  go_upto_region 5 with (go_at_call 46; ((with_reducible refine HBE.out.mono ?_); rintro e w1 ⟨rfl, hs, hb⟩; rw [World.size_alloc] at hs; have HRB := Lib.hid (HR0.out.next (by simp) hb); have HS := Lib.hid hs; have HSZ := Lib.hid (show w.heap.size + 1 ≤ w1.heap.size by have := hb.size; simp at this; omega); have HBB := Lib.hid (HB1.out.trans (hb.mono HB1.out.size)); clear hs hb))
  clear HBE HR0 HB1
  have HXO := Lib.hid (HS.out.new (k := w1.heap.size) (Nat.le_refl _))
  have HOF := Lib.hid (fun k (hk : w1.heap.size ≤ k) => HS.out.new hk)
  have hba : Below w1.heap.size w1 (w1.alloc (.cells #[.int .i64 0, .int .i64 0, .int .i64 0, .slice none 0 0, .slice none 0 0, .slice none 0 0, .slice none 0 0] 56)) := mid_alloc' (Below.refl _ _)
  have HX := Lib.hid (Box.of_alloc (w := w1) (cs := [.int .i64 0, .int .i64 0, .int .i64 0, .slice none 0 0, .slice none 0 0, .slice none 0 0, .slice none 0 0]) (t := 56) (Below.refl _ _))
  have HK : Hid (Keep (fun k => w.heap.size < k) w1 (w1.alloc (.cells #[.int .i64 0, .int .i64 0, .int .i64 0, .slice none 0 0, .slice none 0 0, .slice none 0 0, .slice none 0 0] 56))) := Lib.hid (Keep.of hba)
  replace HS := Lib.hid (HS.out.below hba)
  have HWL := Lib.hid (show w1.heap.size ≤ (w1.alloc (.cells #[.int .i64 0, .int .i64 0, .int .i64 0, .slice none 0 0, .slice none 0 0, .slice none 0 0, .slice none 0 0] 56)).heap.size from hba.size)
  clear hba
  generalize w1.alloc (.cells #[.int .i64 0, .int .i64 0, .int .i64 0, .slice none 0 0, .slice none 0 0, .slice none 0 0, .slice none 0 0] 56) = wb at HX HS HK HWL ⊢
  go_upto_region 7 with (go_at_call 55; ((with_reducible refine (number_rr _ c a bs _ wb (by omega) HS.out).mono ?_); rintro e w2 ⟨ht, v0, st0, hk, hs, rfl⟩; have hx2 := HX.out.turn ht (by simp) HXO.out.ne; have yc := hx2.cell (j := 0) rfl; have yz := hx2.froz (j := 0) (by simp); have HX2 := Lib.hid hx2; have HT2 := Lib.hid ht; have HS2 := Lib.hid hs; have HC2 := Lib.hid (Link.next (F := fun v0 l p => bindP (numP l p) fun v1 p => bindP (numP l p) fun v2 p => bindP (listP 33 wTenP l p) fun xs0 p => bindP (listP 56 wLeaP l p) fun xs1 p => bindP (listP 56 wSesP l p) fun xs2 p => bindP (listP 64 wDskP l p) fun xs3 p => .ok ((⟨v0, v1, v2, xs0, xs1, xs2, xs3⟩ : WSt), p)) HC.out hk); clear ht hs hk hx2))
  clear yc yz HC
  replace HC2 : Hid (∀ y st', Link (fun l p => bindP (numP l p) fun a q => (fun v1 l p => bindP (numP l p) fun v2 p => bindP (listP 33 wTenP l p) fun xs0 p => bindP (listP 56 wLeaP l p) fun xs1 p => bindP (listP 56 wSesP l p) fun xs2 p => bindP (listP 64 wDskP l p) fun xs3 p => .ok ((⟨v0, v1, v2, xs0, xs1, xs2, xs3⟩ : WSt), p)) a l q) bs st0 y st' → Link wStP bs (.ok 0) y st') := HC2
  have HC := HC2
  have HX3 : Hid (Box _ w1.heap.size [.int .i64 v0, .int .i64 0, .int .i64 0, .slice none 0 0, .slice none 0 0, .slice none 0 0, .slice none 0 0]) := Lib.hid (HX2.out.set (i := 0) (by simp) (.int .i64 v0))
  have HS3 := Lib.hid (HS2.out.put HXO.out (i := 0) (v := .int .i64 v0))
  have HK3 := Lib.hid ((Keep.trans HK.out (HT2.out.up (by have := HS.out.lt; omega))).set ⟨w1.heap.size, 0, none⟩ (.int .i64 v0) (by show w.heap.size < w1.heap.size; have := HSZ.out; omega))
  have HW3 := Lib.hid (show w1.heap.size ≤ (w2.setCell ⟨w1.heap.size, 0, none⟩ (.int .i64 v0)).heap.size by have := HT2.out.size; have := HWL.out; simp; omega)
  clear HX HS HK HWL HC2 HX2 HT2 HS2
  have HX := HX3
  have HS := HS3
  have HK := HK3
  have HWL := HW3
  clear HX3 HS3 HK3 HW3
  generalize w2.setCell ⟨w1.heap.size, 0, none⟩ (.int .i64 v0) = wb at HX HS HK HWL ⊢
  go_upto_region 9 with (go_at_call 55; ((with_reducible refine (number_rr _ c a bs _ wb (by omega) HS.out).mono ?_); rintro e w2 ⟨ht, v1, st1, hk, hs, rfl⟩; have hx2 := HX.out.turn ht (by simp) HXO.out.ne; have yc := hx2.cell (j := 1) rfl; have yz := hx2.froz (j := 1) (by simp); have HX2 := Lib.hid hx2; have HT2 := Lib.hid ht; have HS2 := Lib.hid hs; have HC2 := Lib.hid (Link.next (F := fun v1 l p => bindP (numP l p) fun v2 p => bindP (listP 33 wTenP l p) fun xs0 p => bindP (listP 56 wLeaP l p) fun xs1 p => bindP (listP 56 wSesP l p) fun xs2 p => bindP (listP 64 wDskP l p) fun xs3 p => .ok ((⟨v0, v1, v2, xs0, xs1, xs2, xs3⟩ : WSt), p)) HC.out hk); clear ht hs hk hx2))
  clear yc yz HC
  replace HC2 : Hid (∀ y st', Link (fun l p => bindP (numP l p) fun a q => (fun v2 l p => bindP (listP 33 wTenP l p) fun xs0 p => bindP (listP 56 wLeaP l p) fun xs1 p => bindP (listP 56 wSesP l p) fun xs2 p => bindP (listP 64 wDskP l p) fun xs3 p => .ok ((⟨v0, v1, v2, xs0, xs1, xs2, xs3⟩ : WSt), p)) a l q) bs st1 y st' → Link wStP bs (.ok 0) y st') := HC2
  have HC := HC2
  have HX3 : Hid (Box _ w1.heap.size [.int .i64 v0, .int .i64 v1, .int .i64 0, .slice none 0 0, .slice none 0 0, .slice none 0 0, .slice none 0 0]) := Lib.hid (HX2.out.set (i := 1) (by simp) (.int .i64 v1))
  have HS3 := Lib.hid (HS2.out.put HXO.out (i := 1) (v := .int .i64 v1))
  have HK3 := Lib.hid ((Keep.trans HK.out (HT2.out.up (by have := HS.out.lt; omega))).set ⟨w1.heap.size, 1, none⟩ (.int .i64 v1) (by show w.heap.size < w1.heap.size; have := HSZ.out; omega))
  have HW3 := Lib.hid (show w1.heap.size ≤ (w2.setCell ⟨w1.heap.size, 1, none⟩ (.int .i64 v1)).heap.size by have := HT2.out.size; have := HWL.out; simp; omega)
  clear HX HS HK HWL HC2 HX2 HT2 HS2
  have HX := HX3
  have HS := HS3
  have HK := HK3
  have HWL := HW3
  clear HX3 HS3 HK3 HW3
  generalize w2.setCell ⟨w1.heap.size, 1, none⟩ (.int .i64 v1) = wb at HX HS HK HWL ⊢
  go_upto_region 11 with (go_at_call 55; ((with_reducible refine (number_rr _ c a bs _ wb (by omega) HS.out).mono ?_); rintro e w2 ⟨ht, v2, st2, hk, hs, rfl⟩; have hx2 := HX.out.turn ht (by simp) HXO.out.ne; have yc := hx2.cell (j := 2) rfl; have yz := hx2.froz (j := 2) (by simp); have HX2 := Lib.hid hx2; have HT2 := Lib.hid ht; have HS2 := Lib.hid hs; have HC2 := Lib.hid (Link.next (F := fun v2 l p => bindP (listP 33 wTenP l p) fun xs0 p => bindP (listP 56 wLeaP l p) fun xs1 p => bindP (listP 56 wSesP l p) fun xs2 p => bindP (listP 64 wDskP l p) fun xs3 p => .ok ((⟨v0, v1, v2, xs0, xs1, xs2, xs3⟩ : WSt), p)) HC.out hk); clear ht hs hk hx2))
  clear yc yz HC
  replace HC2 : Hid (∀ y st', Link (fun l p => bindP (listP 33 wTenP l p) fun a q => (fun xs0 l p => bindP (listP 56 wLeaP l p) fun xs1 p => bindP (listP 56 wSesP l p) fun xs2 p => bindP (listP 64 wDskP l p) fun xs3 p => .ok ((⟨v0, v1, v2, xs0, xs1, xs2, xs3⟩ : WSt), p)) a l q) bs st2 y st' → Link wStP bs (.ok 0) y st') := HC2
  have HC := HC2
  have HX3 : Hid (Box _ w1.heap.size [.int .i64 v0, .int .i64 v1, .int .i64 v2, .slice none 0 0, .slice none 0 0, .slice none 0 0, .slice none 0 0]) := Lib.hid (HX2.out.set (i := 2) (by simp) (.int .i64 v2))
  have HS3 := Lib.hid (HS2.out.put HXO.out (i := 2) (v := .int .i64 v2))
  have HK3 := Lib.hid ((Keep.trans HK.out (HT2.out.up (by have := HS.out.lt; omega))).set ⟨w1.heap.size, 2, none⟩ (.int .i64 v2) (by show w.heap.size < w1.heap.size; have := HSZ.out; omega))
  have HW3 := Lib.hid (show w1.heap.size ≤ (w2.setCell ⟨w1.heap.size, 2, none⟩ (.int .i64 v2)).heap.size by have := HT2.out.size; have := HWL.out; simp; omega)
  clear HX HS HK HWL HC2 HX2 HT2 HS2
  have HX := HX3
  have HS := HS3
  have HK := HK3
  have HWL := HW3
  clear HX3 HS3 HK3 HW3
  generalize w2.setCell ⟨w1.heap.size, 2, none⟩ (.int .i64 v2) = wb at HX HS HK HWL ⊢
  have HCNT : Hid (Calls Try.prog 57 #[.pointer (some ⟨(w.heap.size + 1), 0, none⟩), .int .i64 33] wb (RetCt wb (w.heap.size + 1) a c bs 33 st2)) := count_rr _ c 33 a bs st2 wb (by omega) HS.out (by decide) (by decide)
  go_upto_block 0 with (go_at_call 57; ((with_reducible refine HCNT.out.mono ?_); rintro e wl0 ⟨ht, kk0, sc0, hk, hs, rfl, h0⟩; have HKK := Lib.hid (cnt_kk hk (by omega) h0); have HX2 := Lib.hid (HX.out.turn ht (by simp) HXO.out.ne); have HK2 := Lib.hid (Keep.trans HK.out (ht.up (by have := HS.out.lt; omega))); have HS2 := Lib.hid hs; have HLC := Lib.hid hk; have HQ0 := Lib.hid (show w.heap.size + 1 < wl0.heap.size ∧ w1.heap.size < wl0.heap.size from ⟨hs.lt, HX2.out.lt (by simp)⟩); clear ht hs hk h0))
  clear HX HK HS HCNT HWL
  have HLR : Hid (Lr wl0 wl0 (w.heap.size + 1) w1.heap.size 3 a c bs sc0 [.int .i64 v0, .int .i64 v1, .int .i64 v2, .slice none 0 0, .slice none 0 0, .slice none 0 0, .slice none 0 0] 115 5 none 0 0 []) := Lib.hid ⟨HS2.out, Turn.refl _ _ _, HX2.out, Can.nil _ _ _ _, (fun _ _ _ h => by cases h), HQ0.out.1, HQ0.out.2, HXO.out, (fun k hk => HOF.out k (by have := HQ0.out.2; omega)), by simp⟩
  go_cut [12, 13, 14, 15, 16] from 54 to 91 (fun _ _ _ _ _ wx => ∃ (xs : List WTen) (sx : Except Nat Nat) (a1 : Option Addr) (c1 : Nat), Hid (Lr wl0 wx (w.heap.size + 1) w1.heap.size 3 a c bs sx [.int .i64 v0, .int .i64 v1, .int .i64 v2, .slice none 0 0, .slice none 0 0, .slice none 0 0, .slice none 0 0] 115 5 a1 xs.length c1 (xs.flatMap cellsWTen)) ∧ Hid (Link (timesP wTenP kk0) bs sc0 xs sx))
  case first =>
    go_wp2_with fail
    go_loopw [12] (fun i wr => ∃ (xs : List WTen) (sx : Except Nat Nat) (a1 : Option Addr) (c1 : Nat), xs.length ≤ kk0 ∧ i = .int .i64 xs.length ∧ Hid (Lr wl0 wr (w.heap.size + 1) w1.heap.size 3 a c bs sx [.int .i64 v0, .int .i64 v1, .int .i64 v2, .slice none 0 0, .slice none 0 0, .slice none 0 0, .slice none 0 0] 115 5 a1 xs.length c1 (xs.flatMap cellsWTen)) ∧ Hid (Link (timesP wTenP xs.length) bs sc0 xs sx)) (fun i _ => kk0 - (intOf i).toNat)
    case atStart => exact ⟨[], sc0, none, 0, by simp, rfl, HLR.out, Link.pure [] bs sc0⟩
    case round =>
      clear HLR HX2 HK2 HS2 HLC HC
      obtain ⟨xs, sx, a1, c1, hk, rfl, HL, HLK⟩ := hrel
      obtain ⟨wo, hwo⟩ : ∃ wo, wo = wr := ⟨_, rfl⟩
      subst hwo
      have hlen : xs.length ≤ 250000 := by have := HKK.out; omega
      by_cases hlt : xs.length < kk0
      · have hd : decide (xs.length < kk0) = true := decide_eq_true hlt
        cases sx with
        | error f =>
          have k2 := Rd0.box (show Rd0 _ _ _ _ _ _ _ from HL.out.rs) |>.cell (j := 2) rfl
          have hdb : decide ((f : Int) < 0) = false := decide_eq_false (by omega)
          go_wp2
          go_meet
          exact ⟨xs, .error f, a1, c1, HL.out, HLK.out.short (by omega)⟩
        | ok p =>
          have k2 := HL.out.rs.1.box.cell (j := 2) rfl
          have hdb : decide ((-1 : Int) < 0) = true := rfl
          go_wp2
          have hba : Below wo.heap.size wo (wo.alloc (.cells #[.int .i64 0, .int .i64 0, .int .i64 0, .int .i64 0] 113)) := mid_alloc' (Below.refl _ _)
          have HN := Lib.hid (Box.of_alloc (w := wo) (cs := [.int .i64 0, .int .i64 0, .int .i64 0, .int .i64 0]) (t := 113) (Below.refl _ _))
          have HTA := Lib.hid (Turn.below (g := (w.heap.size + 1)) (gx := (w.heap.size + 1)) hba)
          have HSA := Lib.hid (HL.out.rs.below hba)
          have HNO := Lib.hid (HL.out.offs wo.heap.size HL.out.turn.size)
          clear hba k2 hdb hd
          generalize wo.alloc (.cells #[.int .i64 0, .int .i64 0, .int .i64 0, .int .i64 0] 113) = wa at HN HTA HSA ⊢
          go_loopw [14] (fun i wq => ∃ (ys : List Int) (sy : Except Nat Nat), ys.length ≤ 4 ∧ i = .int .i64 ys.length ∧ Hid (Rs wq (w.heap.size + 1) a c bs sy) ∧ Hid (Turn (w.heap.size + 1) (w.heap.size + 1) wo wq) ∧ Hid (Box wq wo.heap.size (putI [.int .i64 0, .int .i64 0, .int .i64 0, .int .i64 0] 0 ys)) ∧ Hid (Link (timesP numP ys.length) bs (.ok p) ys sy)) (fun i _ => 4 - (intOf i).toNat)
          case atStart => exact ⟨[], .ok p, by simp, rfl, HSA.out, HTA.out, by show Box _ _ _; rw [putI_nil]; exact HN.out, Link.pure [] bs _⟩
          case round =>
            clear HN HTA HSA
            obtain ⟨ys, sy, hy, rfl, hs, ht, hn, hlk⟩ := hrel
            by_cases hlt4 : ys.length < 4
            · have HNU := Lib.hid (number_rr _ c a bs sy wr (by omega) hs.out)
              go_wp2_with (go_at_call 55; ((with_reducible refine HNU.out.mono ?_); rintro e w4 ⟨ht4, v4, st4, hk4, hs4, rfl⟩; have hn4 := hn.out.turn ht4 (by rw [putI_length (by simp; omega)]; simp) HNO.out.ne; have yc := hn4.cell (j := ys.length) (List.getElem?_eq_getElem (by rw [putI_length (by simp; omega)]; simp; omega)); have yz := hn4.froz (j := ys.length) (by rw [putI_length (by simp; omega)]; simp; omega); have HN4 := Lib.hid hn4; have HT4 := Lib.hid (Turn.next ht.out ht4); have HS4 := Lib.hid hs4; have HK4 := Lib.hid hk4; clear ht4 hk4 hs4 hn4))
              have hset := HN4.out.set (i := ys.length) (by rw [putI_length (by simp; omega)]; simp; omega) (.int .i64 v4)
              have hps := putI_snoc (cs := [.int .i64 0, .int .i64 0, .int .i64 0, .int .i64 0]) (o := 0) (xs := ys) (by simp; omega) v4
              rw [Nat.zero_add] at hps
              rw [hps] at hset
              exact ⟨⟨ys ++ [v4], st4, by simp; omega, by simp, HS4.out.put HNO.out, HT4.out.set _ _ (.inr (.inr (Nat.le_refl _))), hset, by (show Link _ _ _ _ _); rw [List.length_append]; exact hlk.out.snoc HK4.out⟩, by simp [intOf]; omega⟩
            · have h4 : ys.length = 4 := by omega
              have HLY := hlk.out
              rw [h4] at HLY
              obtain ⟨y0, y1, y2, y3, rfl⟩ : ∃ y0 y1 y2 y3, ys = [y0, y1, y2, y3] := by
                match ys, h4 with
                | [y0, y1, y2, y3], _ => exact ⟨y0, y1, y2, y3, rfl⟩
              have HLY2 := Lib.hid HLY
              replace hn : Hid (Box wr wo.heap.size [.int .i64 y0, .int .i64 y1, .int .i64 y2, .int .i64 y3]) := hn
              clear HLY hlk h4 hy hlt4
              go_wp2_with (first
                | (go_at_call 56; ((with_reducible refine (truth_rr _ c a bs _ wr (by omega) hs.out).mono ?_); rintro e w6 ⟨ht6, vt, st6, hk6, hs6, rfl⟩; have hn6 := hn.out.turn ht6 (by simp) HNO.out.ne; have n0 := hn6.cell (j := 0) rfl; have n1 := hn6.cell (j := 1) rfl; have n2 := hn6.cell (j := 2) rfl; have n3 := hn6.cell (j := 3) rfl; have hl6 := HL.out.one (Turn.next ht.out ht6) hs6; have k3 := hl6.box.cell (j := 3) rfl; have HL6 := Lib.hid hl6; have HK6 := Lib.hid hk6; clear ht6 hk6 hs6 hn6 hl6))
                | (at_builtin; (refine wpList_far el_ten rfl (.tmp 78) (.tmp 89) rfl wl0.heap.size a1 xs.length c1 (xs.flatMap cellsWTen) rfl (HL6.out.can.alloc _) (some ⟨w6.heap.size, 0, none⟩) 1 1 [.int .i64 y0, .int .i64 y1, .int .i64 y2, .int .i64 y3, .bool vt] rfl rfl (Row.new _ _ _ _) (by intro u hu; simp only [List.mem_cons, List.not_mem_nil, or_false] at hu; rcases hu with rfl | rfl | rfl | rfl | rfl <;> rfl) (by omega) (by have := HL6.out.turn.size; simp; omega) (fun b o s e => ⟨(HL6.out.far b o s e).1, by have := (HL6.out.far b o s e).2; simp; omega⟩) ?_); intro a2 c2 w7 hcan2 hg2 hn2 hf2 hl2; have hst := HL6.out.push ((Below.refl _ _).alloc (Nat.le_refl _) _) hcan2 hg2 hf2 hl2; have q0 := hst.2.1.cell (j := 3) rfl; have q1z := hst.2.1.froz (j := 3) (by simp); have HST := Lib.hid hst; clear hst hcan2 hg2 hn2 hf2 hl2))
              exact ⟨⟨xs ++ [⟨y0, y1, y2, y3, vt⟩], st6, a2, c2, by simp; omega, by simp, by (show Lr _ _ _ _ _ _ _ _ _ _ _ _ _ _ _ _); rw [List.length_append, List.flatMap_append, List.flatMap_singleton]; exact HST.out.1, by (show Link _ _ _ _ _); rw [List.length_append]; exact HLK.out.snoc ((Link.bind (F := fun zs l p => bindP (truthP l p) fun v4 p => .ok ((⟨zs.getD 0 0, zs.getD 1 0, zs.getD 2 0, zs.getD 3 0, v4⟩ : WTen), p)) HLY2.out (Link.map HK6.out (fun v4 => (⟨y0, y1, y2, y3, v4⟩ : WTen)))).congr (fun p => (wTenP_eq bs p).symm))⟩, by simp [intOf]; omega⟩
      · obtain rfl : xs.length = kk0 := by omega
        have hd : decide (xs.length < xs.length) = false := decide_eq_false (by omega)
        go_wp2
        go_meet
        exact ⟨xs, sx, a1, c1, HL.out, HLK.out⟩
  obtain ⟨xs0, se0, b0, d0, HL, HLK⟩ := hcut
  have HX : Hid (Box wc w1.heap.size [.int .i64 v0, .int .i64 v1, .int .i64 v2, .slice b0 xs0.length d0, .slice none 0 0, .slice none 0 0, .slice none 0 0]) := Lib.hid HL.out.box
  have HS := Lib.hid HL.out.rs
  have HK := Lib.hid (Keep.trans HK2.out (HL.out.turn.up2 (by have := HQ0.out; omega) (by have := HSZ.out; omega)))
  have HF0 : Hid (FarRow wl0 wc b0 (xs0.flatMap cellsWTen)) := Lib.hid ⟨HL.out.can.row, fun _ b o s e => (HL.out.far b o s e).1⟩
  have HLE0 := Lib.hid HL.out.can.le
  have HC2 := Lib.hid (Link.next (F := fun xs0 l p => bindP (listP 56 wLeaP l p) fun xs1 p => bindP (listP 56 wSesP l p) fun xs2 p => bindP (listP 64 wDskP l p) fun xs3 p => .ok ((⟨v0, v1, v2, xs0, xs1, xs2, xs3⟩ : WSt), p)) HC.out (Link.bind (F := fun n l p => timesP wTenP n l p) HLC.out HLK.out))
  clear HC
  have HC : Hid (∀ y st', Link (fun l p => bindP (listP 56 wLeaP l p) fun a q => (fun xs1 l p => bindP (listP 56 wSesP l p) fun xs2 p => bindP (listP 64 wDskP l p) fun xs3 p => .ok ((⟨v0, v1, v2, xs0, xs1, xs2, xs3⟩ : WSt), p)) a l q) bs se0 y st' → Link wStP bs (.ok 0) y st') := HC2
  clear HL HLK HLR HX2 HK2 HS2 HLC HC2 HKK
  have HWL := Lib.hid (show w1.heap.size ≤ wc.heap.size by have := HX.out.lt (by simp); omega)
  generalize wc = wb at HX HS HK HWL HF0 ⊢
  have HCNT : Hid (Calls Try.prog 57 #[.pointer (some ⟨(w.heap.size + 1), 0, none⟩), .int .i64 56] wb (RetCt wb (w.heap.size + 1) a c bs 56 se0)) := count_rr _ c 56 a bs se0 wb (by omega) HS.out (by decide) (by decide)
  go_upto_block 4 with (go_at_call 57; ((with_reducible refine HCNT.out.mono ?_); rintro e wl1 ⟨ht, kk1, sc1, hk, hs, rfl, h0⟩; have HKK := Lib.hid (cnt_kk hk (by omega) h0); have HX2 := Lib.hid (HX.out.turn ht (by simp) HXO.out.ne); have HK2 := Lib.hid (Keep.trans HK.out (ht.up (by have := HS.out.lt; omega))); replace HF0 := Lib.hid (HF0.out.turn ht (by have := HQ0.out; omega) (by have := HQ0.out; omega)); have HS2 := Lib.hid hs; have HLC := Lib.hid hk; have HQ1 := Lib.hid (show w.heap.size + 1 < wl1.heap.size ∧ w1.heap.size < wl1.heap.size from ⟨hs.lt, HX2.out.lt (by simp)⟩); clear ht hs hk h0))
  clear HX HK HS HCNT HWL
  have HLR : Hid (Lr wl1 wl1 (w.heap.size + 1) w1.heap.size 4 a c bs sc1 [.int .i64 v0, .int .i64 v1, .int .i64 v2, .slice b0 xs0.length d0, .slice none 0 0, .slice none 0 0, .slice none 0 0] 118 7 none 0 0 []) := Lib.hid ⟨HS2.out, Turn.refl _ _ _, HX2.out, Can.nil _ _ _ _, (fun _ _ _ h => by cases h), HQ1.out.1, HQ1.out.2, HXO.out, (fun k hk => HOF.out k (by have := HQ1.out.2; omega)), by simp⟩
  go_cut [17, 18, 19, 20] from 94 to 134 (fun _ _ _ _ wx => ∃ (xs : List WLea) (sx : Except Nat Nat) (a1 : Option Addr) (c1 : Nat), Hid (Lr wl1 wx (w.heap.size + 1) w1.heap.size 4 a c bs sx [.int .i64 v0, .int .i64 v1, .int .i64 v2, .slice b0 xs0.length d0, .slice none 0 0, .slice none 0 0, .slice none 0 0] 118 7 a1 xs.length c1 (xs.flatMap cellsWLea)) ∧ Hid (Link (timesP wLeaP kk1) bs sc1 xs sx))
  case first =>
    go_wp2_with fail
    go_loopw [17] (fun i wr => ∃ (xs : List WLea) (sx : Except Nat Nat) (a1 : Option Addr) (c1 : Nat), xs.length ≤ kk1 ∧ i = .int .i64 xs.length ∧ Hid (Lr wl1 wr (w.heap.size + 1) w1.heap.size 4 a c bs sx [.int .i64 v0, .int .i64 v1, .int .i64 v2, .slice b0 xs0.length d0, .slice none 0 0, .slice none 0 0, .slice none 0 0] 118 7 a1 xs.length c1 (xs.flatMap cellsWLea)) ∧ Hid (Link (timesP wLeaP xs.length) bs sc1 xs sx)) (fun i _ => kk1 - (intOf i).toNat)
    case atStart => exact ⟨[], sc1, none, 0, by simp, rfl, HLR.out, Link.pure [] bs sc1⟩
    case round =>
      clear HLR HX2 HK2 HS2 HLC HC HF0
      obtain ⟨xs, sx, a1, c1, hk, rfl, HL, HLK⟩ := hrel
      obtain ⟨wo, hwo⟩ : ∃ wo, wo = wr := ⟨_, rfl⟩
      subst hwo
      have hlen : xs.length ≤ 250000 := by have := HKK.out; omega
      by_cases hlt : xs.length < kk1
      · have hd : decide (xs.length < kk1) = true := decide_eq_true hlt
        cases sx with
        | error f =>
          have k2 := Rd0.box (show Rd0 _ _ _ _ _ _ _ from HL.out.rs) |>.cell (j := 2) rfl
          have hdb : decide ((f : Int) < 0) = false := decide_eq_false (by omega)
          go_wp2
          go_meet
          exact ⟨xs, .error f, a1, c1, HL.out, HLK.out.short (by omega)⟩
        | ok p =>
          have k2 := HL.out.rs.1.box.cell (j := 2) rfl
          have hdb : decide ((-1 : Int) < 0) = true := rfl
          go_wp2
          have hba : Below wo.heap.size wo (wo.alloc (.cells #[.int .i64 0, .int .i64 0, .int .i64 0, .int .i64 0, .int .i64 0, .int .i64 0, .int .i64 0] 116)) := mid_alloc' (Below.refl _ _)
          have HN := Lib.hid (Box.of_alloc (w := wo) (cs := [.int .i64 0, .int .i64 0, .int .i64 0, .int .i64 0, .int .i64 0, .int .i64 0, .int .i64 0]) (t := 116) (Below.refl _ _))
          have HTA := Lib.hid (Turn.below (g := (w.heap.size + 1)) (gx := (w.heap.size + 1)) hba)
          have HSA := Lib.hid (HL.out.rs.below hba)
          have HNO := Lib.hid (HL.out.offs wo.heap.size HL.out.turn.size)
          clear hba k2 hdb hd
          generalize wo.alloc (.cells #[.int .i64 0, .int .i64 0, .int .i64 0, .int .i64 0, .int .i64 0, .int .i64 0, .int .i64 0] 116) = wa at HN HTA HSA ⊢
          go_loopw [19] (fun i wq => ∃ (ys : List Int) (sy : Except Nat Nat), ys.length ≤ 7 ∧ i = .int .i64 ys.length ∧ Hid (Rs wq (w.heap.size + 1) a c bs sy) ∧ Hid (Turn (w.heap.size + 1) (w.heap.size + 1) wo wq) ∧ Hid (Box wq wo.heap.size (putI [.int .i64 0, .int .i64 0, .int .i64 0, .int .i64 0, .int .i64 0, .int .i64 0, .int .i64 0] 0 ys)) ∧ Hid (Link (timesP numP ys.length) bs (.ok p) ys sy)) (fun i _ => 7 - (intOf i).toNat)
          case atStart => exact ⟨[], .ok p, by simp, rfl, HSA.out, HTA.out, by show Box _ _ _; rw [putI_nil]; exact HN.out, Link.pure [] bs _⟩
          case round =>
            clear HN HTA HSA
            obtain ⟨ys, sy, hy, rfl, hs, ht, hn, hlk⟩ := hrel
            by_cases hlt4 : ys.length < 7
            · have HNU := Lib.hid (number_rr _ c a bs sy wr (by omega) hs.out)
              go_wp2_with (go_at_call 55; ((with_reducible refine HNU.out.mono ?_); rintro e w4 ⟨ht4, v4, st4, hk4, hs4, rfl⟩; have hn4 := hn.out.turn ht4 (by rw [putI_length (by simp; omega)]; simp) HNO.out.ne; have yc := hn4.cell (j := ys.length) (List.getElem?_eq_getElem (by rw [putI_length (by simp; omega)]; simp; omega)); have yz := hn4.froz (j := ys.length) (by rw [putI_length (by simp; omega)]; simp; omega); have HN4 := Lib.hid hn4; have HT4 := Lib.hid (Turn.next ht.out ht4); have HS4 := Lib.hid hs4; have HK4 := Lib.hid hk4; clear ht4 hk4 hs4 hn4))
              have hset := HN4.out.set (i := ys.length) (by rw [putI_length (by simp; omega)]; simp; omega) (.int .i64 v4)
              have hps := putI_snoc (cs := [.int .i64 0, .int .i64 0, .int .i64 0, .int .i64 0, .int .i64 0, .int .i64 0, .int .i64 0]) (o := 0) (xs := ys) (by simp; omega) v4
              rw [Nat.zero_add] at hps
              rw [hps] at hset
              exact ⟨⟨ys ++ [v4], st4, by simp; omega, by simp, HS4.out.put HNO.out, HT4.out.set _ _ (.inr (.inr (Nat.le_refl _))), hset, by (show Link _ _ _ _ _); rw [List.length_append]; exact hlk.out.snoc HK4.out⟩, by simp [intOf]; omega⟩
            · have h4 : ys.length = 7 := by omega
              have HLY := hlk.out
              rw [h4] at HLY
              obtain ⟨y0, y1, y2, y3, y4, y5, y6, rfl⟩ : ∃ y0 y1 y2 y3 y4 y5 y6, ys = [y0, y1, y2, y3, y4, y5, y6] := by
                match ys, h4 with
                | [y0, y1, y2, y3, y4, y5, y6], _ => exact ⟨y0, y1, y2, y3, y4, y5, y6, rfl⟩
              have HLY2 := Lib.hid HLY
              replace hn : Hid (Box wr wo.heap.size [.int .i64 y0, .int .i64 y1, .int .i64 y2, .int .i64 y3, .int .i64 y4, .int .i64 y5, .int .i64 y6]) := hn
              clear HLY hlk h4 hy hlt4
              have hl6 := HL.out.one ht.out hs.out
              have k3 := hl6.box.cell (j := 4) rfl
              have n0 := hn.out.cell (j := 0) rfl
              have n1 := hn.out.cell (j := 1) rfl
              have n2 := hn.out.cell (j := 2) rfl
              have n3 := hn.out.cell (j := 3) rfl
              have n4 := hn.out.cell (j := 4) rfl
              have n5 := hn.out.cell (j := 5) rfl
              have n6 := hn.out.cell (j := 6) rfl
              have HL6 := Lib.hid hl6
              clear hl6
              go_wp2_with (at_builtin; (refine wpList_far el_lea rfl (.tmp 116) (.tmp 132) rfl wl1.heap.size a1 xs.length c1 (xs.flatMap cellsWLea) rfl (HL6.out.can.alloc _) (some ⟨wr.heap.size, 0, none⟩) 1 1 [.int .i64 y0, .int .i64 y1, .int .i64 y2, .int .i64 y3, .int .i64 y4, .int .i64 y5, .int .i64 y6] rfl rfl (Row.new _ _ _ _) (by intro u hu; simp only [List.mem_cons, List.not_mem_nil, or_false] at hu; rcases hu with rfl | rfl | rfl | rfl | rfl | rfl | rfl <;> rfl) (by omega) (by have := HL6.out.turn.size; simp; omega) (fun b o s e => ⟨(HL6.out.far b o s e).1, by have := (HL6.out.far b o s e).2; simp; omega⟩) ?_); intro a2 c2 w7 hcan2 hg2 hn2 hf2 hl2; have hst := HL6.out.push ((Below.refl _ _).alloc (Nat.le_refl _) _) hcan2 hg2 hf2 hl2; have q0 := hst.2.1.cell (j := 4) rfl; have q1z := hst.2.1.froz (j := 4) (by simp); have HST := Lib.hid hst; clear hst hcan2 hg2 hn2 hf2 hl2)
              exact ⟨⟨xs ++ [⟨y0, y1, y2, y3, y4, y5, y6⟩], sy, a2, c2, by simp; omega, by simp, by (show Lr _ _ _ _ _ _ _ _ _ _ _ _ _ _ _ _); rw [List.length_append, List.flatMap_append, List.flatMap_singleton]; exact HST.out.1, by (show Link _ _ _ _ _); rw [List.length_append]; exact HLK.out.snoc ((Link.map HLY2.out (fun zs => (⟨zs.getD 0 0, zs.getD 1 0, zs.getD 2 0, zs.getD 3 0, zs.getD 4 0, zs.getD 5 0, zs.getD 6 0⟩ : WLea))).congr (fun p => (wLeaP_eq bs p).symm))⟩, by simp [intOf]; omega⟩
      · obtain rfl : xs.length = kk1 := by omega
        have hd : decide (xs.length < xs.length) = false := decide_eq_false (by omega)
        go_wp2
        go_meet
        exact ⟨xs, sx, a1, c1, HL.out, HLK.out⟩
  obtain ⟨xs1, se1, b1, d1, HL, HLK⟩ := hcut
  have HX : Hid (Box wc w1.heap.size [.int .i64 v0, .int .i64 v1, .int .i64 v2, .slice b0 xs0.length d0, .slice b1 xs1.length d1, .slice none 0 0, .slice none 0 0]) := Lib.hid HL.out.box
  have HS := Lib.hid HL.out.rs
  have HK := Lib.hid (Keep.trans HK2.out (HL.out.turn.up2 (by have := HQ1.out; omega) (by have := HSZ.out; omega)))
  replace HF0 := Lib.hid (HF0.out.turn HL.out.turn (by have := HQ0.out; omega) (by have := HQ0.out; omega))
  have HF1 : Hid (FarRow wl1 wc b1 (xs1.flatMap cellsWLea)) := Lib.hid ⟨HL.out.can.row, fun _ b o s e => (HL.out.far b o s e).1⟩
  have HLE1 := Lib.hid HL.out.can.le
  have HC2 := Lib.hid (Link.next (F := fun xs1 l p => bindP (listP 56 wSesP l p) fun xs2 p => bindP (listP 64 wDskP l p) fun xs3 p => .ok ((⟨v0, v1, v2, xs0, xs1, xs2, xs3⟩ : WSt), p)) HC.out (Link.bind (F := fun n l p => timesP wLeaP n l p) HLC.out HLK.out))
  clear HC
  have HC : Hid (∀ y st', Link (fun l p => bindP (listP 56 wSesP l p) fun a q => (fun xs2 l p => bindP (listP 64 wDskP l p) fun xs3 p => .ok ((⟨v0, v1, v2, xs0, xs1, xs2, xs3⟩ : WSt), p)) a l q) bs se1 y st' → Link wStP bs (.ok 0) y st') := HC2
  clear HL HLK HLR HX2 HK2 HS2 HLC HC2 HKK
  have HWL := Lib.hid (show w1.heap.size ≤ wc.heap.size by have := HX.out.lt (by simp); omega)
  generalize wc = wb at HX HS HK HWL HF0 HF1 ⊢
  have HCNT : Hid (Calls Try.prog 57 #[.pointer (some ⟨(w.heap.size + 1), 0, none⟩), .int .i64 56] wb (RetCt wb (w.heap.size + 1) a c bs 56 se1)) := count_rr _ c 56 a bs se1 wb (by omega) HS.out (by decide) (by decide)
  go_upto_block 8 with (go_at_call 57; ((with_reducible refine HCNT.out.mono ?_); rintro e wl2 ⟨ht, kk2, sc2, hk, hs, rfl, h0⟩; have HKK := Lib.hid (cnt_kk hk (by omega) h0); have HX2 := Lib.hid (HX.out.turn ht (by simp) HXO.out.ne); have HK2 := Lib.hid (Keep.trans HK.out (ht.up (by have := HS.out.lt; omega))); replace HF0 := Lib.hid (HF0.out.turn ht (by have := HQ0.out; omega) (by have := HQ0.out; omega)); replace HF1 := Lib.hid (HF1.out.turn ht (by have := HQ1.out; omega) (by have := HQ1.out; omega)); have HS2 := Lib.hid hs; have HLC := Lib.hid hk; have HQ2 := Lib.hid (show w.heap.size + 1 < wl2.heap.size ∧ w1.heap.size < wl2.heap.size from ⟨hs.lt, HX2.out.lt (by simp)⟩); clear ht hs hk h0))
  clear HX HK HS HCNT HWL
  have HLR : Hid (Lr wl2 wl2 (w.heap.size + 1) w1.heap.size 5 a c bs sc2 [.int .i64 v0, .int .i64 v1, .int .i64 v2, .slice b0 xs0.length d0, .slice b1 xs1.length d1, .slice none 0 0, .slice none 0 0] 120 7 none 0 0 []) := Lib.hid ⟨HS2.out, Turn.refl _ _ _, HX2.out, Can.nil _ _ _ _, (fun _ _ _ h => by cases h), HQ2.out.1, HQ2.out.2, HXO.out, (fun k hk => HOF.out k (by have := HQ2.out.2; omega)), by simp⟩
  go_cut [21, 22, 23, 24] from 137 to 163 (fun _ _ _ _ wx => ∃ (xs : List WSes) (sx : Except Nat Nat) (a1 : Option Addr) (c1 : Nat), Hid (Lr wl2 wx (w.heap.size + 1) w1.heap.size 5 a c bs sx [.int .i64 v0, .int .i64 v1, .int .i64 v2, .slice b0 xs0.length d0, .slice b1 xs1.length d1, .slice none 0 0, .slice none 0 0] 120 7 a1 xs.length c1 (xs.flatMap cellsWSes)) ∧ Hid (Link (timesP wSesP kk2) bs sc2 xs sx))
  case first =>
    go_wp2_with fail
    go_loopw [21] (fun i wr => ∃ (xs : List WSes) (sx : Except Nat Nat) (a1 : Option Addr) (c1 : Nat), xs.length ≤ kk2 ∧ i = .int .i64 xs.length ∧ Hid (Lr wl2 wr (w.heap.size + 1) w1.heap.size 5 a c bs sx [.int .i64 v0, .int .i64 v1, .int .i64 v2, .slice b0 xs0.length d0, .slice b1 xs1.length d1, .slice none 0 0, .slice none 0 0] 120 7 a1 xs.length c1 (xs.flatMap cellsWSes)) ∧ Hid (Link (timesP wSesP xs.length) bs sc2 xs sx)) (fun i _ => kk2 - (intOf i).toNat)
    case atStart => exact ⟨[], sc2, none, 0, by simp, rfl, HLR.out, Link.pure [] bs sc2⟩
    case round =>
      clear HLR HX2 HK2 HS2 HLC HC HF0 HF1
      obtain ⟨xs, sx, a1, c1, hk, rfl, HL, HLK⟩ := hrel
      obtain ⟨wo, hwo⟩ : ∃ wo, wo = wr := ⟨_, rfl⟩
      subst hwo
      have hlen : xs.length ≤ 250000 := by have := HKK.out; omega
      by_cases hlt : xs.length < kk2
      · have hd : decide (xs.length < kk2) = true := decide_eq_true hlt
        cases sx with
        | error f =>
          have k2 := Rd0.box (show Rd0 _ _ _ _ _ _ _ from HL.out.rs) |>.cell (j := 2) rfl
          have hdb : decide ((f : Int) < 0) = false := decide_eq_false (by omega)
          go_wp2
          go_meet
          exact ⟨xs, .error f, a1, c1, HL.out, HLK.out.short (by omega)⟩
        | ok p =>
          have k2 := HL.out.rs.1.box.cell (j := 2) rfl
          have hdb : decide ((-1 : Int) < 0) = true := rfl
          have HS := Lib.hid HL.out.rs
          have HT := Lib.hid (Turn.refl (w.heap.size + 1) (w.heap.size + 1) wo)
          go_upto_region 39 with (go_at_call 55; ((with_reducible refine (number_rr _ c a bs _ wo (by omega) HS.out).mono ?_); rintro e wn0 ⟨ht, y0, sn0, hk0, hs, rfl⟩; replace HS := Lib.hid hs; replace HT := Lib.hid (Turn.next HT.out ht); have HN0 := Lib.hid hk0; clear ht hs hk0))
          clear k2 hdb hd
          go_upto_region 40 with (go_at_call 55; ((with_reducible refine (number_rr _ c a bs _ wn0 (by omega) HS.out).mono ?_); rintro e wn1 ⟨ht, y1, sn1, hk1, hs, rfl⟩; replace HS := Lib.hid hs; replace HT := Lib.hid (Turn.next HT.out ht); have HN1 := Lib.hid hk1; clear ht hs hk1))
          go_upto_region 41 with (go_at_call 60; ((with_reducible refine (answer_rr _ c a bs _ wn1 (by omega) HS.out).mono ?_); rintro e w5 ⟨ht, ⟨e0, e1, e2, e3, e4⟩, sa, hka, hs, ⟨_, rfl, _⟩⟩; replace HS := Lib.hid hs; replace HT := Lib.hid (Turn.next HT.out ht); have HNA := Lib.hid hka; clear ht hs hka; unfold valAns; simp only))
          have hba : Below w5.heap.size w5 (w5.alloc (.cells #[.int .i64 e0, .int .i64 e1, .int .i64 e2, .int .i64 e3, .int .i64 e4] 42)) := mid_alloc' (Below.refl _ _)
          have HA := Lib.hid (Box.of_alloc (w := w5) (cs := [.int .i64 e0, .int .i64 e1, .int .i64 e2, .int .i64 e3, .int .i64 e4]) (t := 42) (Below.refl _ _))
          have HL6 := Lib.hid (HL.out.one (Turn.next HT.out (Turn.below hba)) (HS.out.below hba))
          clear hba HS HT
          generalize w5.alloc (.cells #[.int .i64 e0, .int .i64 e1, .int .i64 e2, .int .i64 e3, .int .i64 e4] 42) = w6 at HA HL6 ⊢
          have n0 := HA.out.cell (j := 0) rfl
          have n1 := HA.out.cell (j := 1) rfl
          have n2 := HA.out.cell (j := 2) rfl
          have n3 := HA.out.cell (j := 3) rfl
          have n4 := HA.out.cell (j := 4) rfl
          have k3 := HL6.out.box.cell (j := 5) rfl
          go_wp2_with (at_builtin; (refine wpList_far el_ses rfl (.tmp 156) (.tmp 161) rfl wl2.heap.size a1 xs.length c1 (xs.flatMap cellsWSes) rfl (HL6.out.can.alloc _) (some ⟨w6.heap.size, 0, none⟩) 1 1 [.int .i64 y0, .int .i64 y1, .int .i64 e0, .int .i64 e1, .int .i64 e2, .int .i64 e3, .int .i64 e4] rfl rfl (Row.new _ _ _ _) (by intro u hu; simp only [List.mem_cons, List.not_mem_nil, or_false] at hu; rcases hu with rfl | rfl | rfl | rfl | rfl | rfl | rfl <;> rfl) (by omega) (by have := HL6.out.turn.size; simp; omega) (fun b o s e => ⟨(HL6.out.far b o s e).1, by have := (HL6.out.far b o s e).2; simp; omega⟩) ?_); intro a2 c2 w7 hcan2 hg2 hn2 hf2 hl2; have hst := HL6.out.push ((Below.refl _ _).alloc (Nat.le_refl _) _) hcan2 hg2 hf2 hl2; have q0 := hst.2.1.cell (j := 5) rfl; have q1z := hst.2.1.froz (j := 5) (by simp); have HST := Lib.hid hst; clear hst hcan2 hg2 hn2 hf2 hl2)
          exact ⟨⟨xs ++ [⟨y0, y1, ⟨e0, e1, e2, e3, e4⟩⟩], sa, a2, c2, by simp; omega, by simp, by (show Lr _ _ _ _ _ _ _ _ _ _ _ _ _ _ _ _); rw [List.length_append, List.flatMap_append, List.flatMap_singleton]; exact HST.out.1, by (show Link _ _ _ _ _); rw [List.length_append]; exact HLK.out.snoc (Link.bind (F := fun u0_ l p => bindP (numP l p) fun u1_ p => bindP (wAnsP l p) fun z p => .ok ((⟨u0_, u1_, z⟩ : WSes), p)) HN0.out (Link.bind (F := fun u1_ l p => bindP (wAnsP l p) fun z p => .ok ((⟨y0, u1_, z⟩ : WSes), p)) HN1.out (Link.map HNA.out (fun z => (⟨y0, y1, z⟩ : WSes)))))⟩, by simp [intOf]; omega⟩
      · obtain rfl : xs.length = kk2 := by omega
        have hd : decide (xs.length < xs.length) = false := decide_eq_false (by omega)
        go_wp2
        go_meet
        exact ⟨xs, sx, a1, c1, HL.out, HLK.out⟩
  obtain ⟨xs2, se2, b2, d2, HL, HLK⟩ := hcut
  have HX : Hid (Box wc w1.heap.size [.int .i64 v0, .int .i64 v1, .int .i64 v2, .slice b0 xs0.length d0, .slice b1 xs1.length d1, .slice b2 xs2.length d2, .slice none 0 0]) := Lib.hid HL.out.box
  have HS := Lib.hid HL.out.rs
  have HK := Lib.hid (Keep.trans HK2.out (HL.out.turn.up2 (by have := HQ2.out; omega) (by have := HSZ.out; omega)))
  replace HF0 := Lib.hid (HF0.out.turn HL.out.turn (by have := HQ0.out; omega) (by have := HQ0.out; omega))
  replace HF1 := Lib.hid (HF1.out.turn HL.out.turn (by have := HQ1.out; omega) (by have := HQ1.out; omega))
  have HF2 : Hid (FarRow wl2 wc b2 (xs2.flatMap cellsWSes)) := Lib.hid ⟨HL.out.can.row, fun _ b o s e => (HL.out.far b o s e).1⟩
  have HLE2 := Lib.hid HL.out.can.le
  have HC2 := Lib.hid (Link.next (F := fun xs2 l p => bindP (listP 64 wDskP l p) fun xs3 p => .ok ((⟨v0, v1, v2, xs0, xs1, xs2, xs3⟩ : WSt), p)) HC.out (Link.bind (F := fun n l p => timesP wSesP n l p) HLC.out HLK.out))
  clear HC
  have HC : Hid (∀ y st', Link (fun l p => bindP (listP 64 wDskP l p) fun a q => (fun xs3 l p => .ok ((⟨v0, v1, v2, xs0, xs1, xs2, xs3⟩ : WSt), p)) a l q) bs se2 y st' → Link wStP bs (.ok 0) y st') := HC2
  clear HL HLK HLR HX2 HK2 HS2 HLC HC2 HKK
  have HWL := Lib.hid (show w1.heap.size ≤ wc.heap.size by have := HX.out.lt (by simp); omega)
  generalize wc = wb at HX HS HK HWL HF0 HF1 HF2 ⊢
  have HCNT : Hid (Calls Try.prog 57 #[.pointer (some ⟨(w.heap.size + 1), 0, none⟩), .int .i64 64] wb (RetCt wb (w.heap.size + 1) a c bs 64 se2)) := count_rr _ c 64 a bs se2 wb (by omega) HS.out (by decide) (by decide)
  go_upto_block 10 with (go_at_call 57; ((with_reducible refine HCNT.out.mono ?_); rintro e wl3 ⟨ht, kk3, sc3, hk, hs, rfl, h0⟩; have HKK := Lib.hid (cnt_kk hk (by omega) h0); have HX2 := Lib.hid (HX.out.turn ht (by simp) HXO.out.ne); have HK2 := Lib.hid (Keep.trans HK.out (ht.up (by have := HS.out.lt; omega))); replace HF0 := Lib.hid (HF0.out.turn ht (by have := HQ0.out; omega) (by have := HQ0.out; omega)); replace HF1 := Lib.hid (HF1.out.turn ht (by have := HQ1.out; omega) (by have := HQ1.out; omega)); replace HF2 := Lib.hid (HF2.out.turn ht (by have := HQ2.out; omega) (by have := HQ2.out; omega)); have HS2 := Lib.hid hs; have HLC := Lib.hid hk; have HQ3 := Lib.hid (show w.heap.size + 1 < wl3.heap.size ∧ w1.heap.size < wl3.heap.size from ⟨hs.lt, HX2.out.lt (by simp)⟩); clear ht hs hk h0))
  clear HX HK HS HCNT HWL
  have HLR : Hid (Lr wl3 wl3 (w.heap.size + 1) w1.heap.size 6 a c bs sc3 [.int .i64 v0, .int .i64 v1, .int .i64 v2, .slice b0 xs0.length d0, .slice b1 xs1.length d1, .slice b2 xs2.length d2, .slice none 0 0] 122 8 none 0 0 []) := Lib.hid ⟨HS2.out, Turn.refl _ _ _, HX2.out, Can.nil _ _ _ _, (fun _ _ _ h => by cases h), HQ3.out.1, HQ3.out.2, HXO.out, (fun k hk => HOF.out k (by have := HQ3.out.2; omega)), by simp⟩
  go_cut [25, 26, 27, 28, 29] from 166 to 195 (fun _ _ _ _ _ wx => ∃ (xs : List WDsk) (sx : Except Nat Nat) (a1 : Option Addr) (c1 : Nat), Hid (Lr wl3 wx (w.heap.size + 1) w1.heap.size 6 a c bs sx [.int .i64 v0, .int .i64 v1, .int .i64 v2, .slice b0 xs0.length d0, .slice b1 xs1.length d1, .slice b2 xs2.length d2, .slice none 0 0] 122 8 a1 xs.length c1 (xs.flatMap cellsWDsk)) ∧ Hid (Link (timesP wDskP kk3) bs sc3 xs sx))
  case first =>
    go_wp2_with fail
    go_loopw [25] (fun i wr => ∃ (xs : List WDsk) (sx : Except Nat Nat) (a1 : Option Addr) (c1 : Nat), xs.length ≤ kk3 ∧ i = .int .i64 xs.length ∧ Hid (Lr wl3 wr (w.heap.size + 1) w1.heap.size 6 a c bs sx [.int .i64 v0, .int .i64 v1, .int .i64 v2, .slice b0 xs0.length d0, .slice b1 xs1.length d1, .slice b2 xs2.length d2, .slice none 0 0] 122 8 a1 xs.length c1 (xs.flatMap cellsWDsk)) ∧ Hid (Link (timesP wDskP xs.length) bs sc3 xs sx)) (fun i _ => kk3 - (intOf i).toNat)
    case atStart => exact ⟨[], sc3, none, 0, by simp, rfl, HLR.out, Link.pure [] bs sc3⟩
    case round =>
      clear HLR HX2 HK2 HS2 HLC HC HF0 HF1 HF2
      obtain ⟨xs, sx, a1, c1, hk, rfl, HL, HLK⟩ := hrel
      obtain ⟨wo, hwo⟩ : ∃ wo, wo = wr := ⟨_, rfl⟩
      subst hwo
      have hlen : xs.length ≤ 250000 := by have := HKK.out; omega
      by_cases hlt : xs.length < kk3
      · have hd : decide (xs.length < kk3) = true := decide_eq_true hlt
        cases sx with
        | error f =>
          have k2 := Rd0.box (show Rd0 _ _ _ _ _ _ _ from HL.out.rs) |>.cell (j := 2) rfl
          have hdb : decide ((f : Int) < 0) = false := decide_eq_false (by omega)
          go_wp2
          go_meet
          exact ⟨xs, .error f, a1, c1, HL.out, HLK.out.short (by omega)⟩
        | ok p =>
          have k2 := HL.out.rs.1.box.cell (j := 2) rfl
          have hdb : decide ((-1 : Int) < 0) = true := rfl
          have HS := Lib.hid HL.out.rs
          have HT := Lib.hid (Turn.refl (w.heap.size + 1) (w.heap.size + 1) wo)
          go_upto_region 47 with (go_at_call 55; ((with_reducible refine (number_rr _ c a bs _ wo (by omega) HS.out).mono ?_); rintro e wn0 ⟨ht, y0, sn0, hk0, hs, rfl⟩; replace HS := Lib.hid hs; replace HT := Lib.hid (Turn.next HT.out ht); have HN0 := Lib.hid hk0; clear ht hs hk0))
          clear k2 hdb hd
          go_upto_region 48 with (go_at_call 55; ((with_reducible refine (number_rr _ c a bs _ wn0 (by omega) HS.out).mono ?_); rintro e wn1 ⟨ht, y1, sn1, hk1, hs, rfl⟩; replace HS := Lib.hid hs; replace HT := Lib.hid (Turn.next HT.out ht); have HN1 := Lib.hid hk1; clear ht hs hk1))
          go_upto_region 49 with (go_at_call 55; ((with_reducible refine (number_rr _ c a bs _ wn1 (by omega) HS.out).mono ?_); rintro e wn2 ⟨ht, y2, sn2, hk2, hs, rfl⟩; replace HS := Lib.hid hs; replace HT := Lib.hid (Turn.next HT.out ht); have HN2 := Lib.hid hk2; clear ht hs hk2))
          go_upto_region 50 with (go_at_call 60; ((with_reducible refine (answer_rr _ c a bs _ wn2 (by omega) HS.out).mono ?_); rintro e w5 ⟨ht, ⟨e0, e1, e2, e3, e4⟩, sa, hka, hs, ⟨_, rfl, _⟩⟩; replace HS := Lib.hid hs; replace HT := Lib.hid (Turn.next HT.out ht); have HNA := Lib.hid hka; clear ht hs hka; unfold valAns; simp only))
          have hba : Below w5.heap.size w5 (w5.alloc (.cells #[.int .i64 e0, .int .i64 e1, .int .i64 e2, .int .i64 e3, .int .i64 e4] 42)) := mid_alloc' (Below.refl _ _)
          have HA := Lib.hid (Box.of_alloc (w := w5) (cs := [.int .i64 e0, .int .i64 e1, .int .i64 e2, .int .i64 e3, .int .i64 e4]) (t := 42) (Below.refl _ _))
          have HL6 := Lib.hid (HL.out.one (Turn.next HT.out (Turn.below hba)) (HS.out.below hba))
          clear hba HS HT
          generalize w5.alloc (.cells #[.int .i64 e0, .int .i64 e1, .int .i64 e2, .int .i64 e3, .int .i64 e4] 42) = w6 at HA HL6 ⊢
          have n0 := HA.out.cell (j := 0) rfl
          have n1 := HA.out.cell (j := 1) rfl
          have n2 := HA.out.cell (j := 2) rfl
          have n3 := HA.out.cell (j := 3) rfl
          have n4 := HA.out.cell (j := 4) rfl
          have k3 := HL6.out.box.cell (j := 6) rfl
          go_wp2_with (at_builtin; (refine wpList_far el_dsk rfl (.tmp 187) (.tmp 193) rfl wl3.heap.size a1 xs.length c1 (xs.flatMap cellsWDsk) rfl (HL6.out.can.alloc _) (some ⟨w6.heap.size, 0, none⟩) 1 1 [.int .i64 y0, .int .i64 y1, .int .i64 y2, .int .i64 e0, .int .i64 e1, .int .i64 e2, .int .i64 e3, .int .i64 e4] rfl rfl (Row.new _ _ _ _) (by intro u hu; simp only [List.mem_cons, List.not_mem_nil, or_false] at hu; rcases hu with rfl | rfl | rfl | rfl | rfl | rfl | rfl | rfl <;> rfl) (by omega) (by have := HL6.out.turn.size; simp; omega) (fun b o s e => ⟨(HL6.out.far b o s e).1, by have := (HL6.out.far b o s e).2; simp; omega⟩) ?_); intro a2 c2 w7 hcan2 hg2 hn2 hf2 hl2; have hst := HL6.out.push ((Below.refl _ _).alloc (Nat.le_refl _) _) hcan2 hg2 hf2 hl2; have q0 := hst.2.1.cell (j := 6) rfl; have q1z := hst.2.1.froz (j := 6) (by simp); have HST := Lib.hid hst; clear hst hcan2 hg2 hn2 hf2 hl2)
          exact ⟨⟨xs ++ [⟨y0, y1, y2, ⟨e0, e1, e2, e3, e4⟩⟩], sa, a2, c2, by simp; omega, by simp, by (show Lr _ _ _ _ _ _ _ _ _ _ _ _ _ _ _ _); rw [List.length_append, List.flatMap_append, List.flatMap_singleton]; exact HST.out.1, by (show Link _ _ _ _ _); rw [List.length_append]; exact HLK.out.snoc (Link.bind (F := fun u0_ l p => bindP (numP l p) fun u1_ p => bindP (numP l p) fun u2_ p => bindP (wAnsP l p) fun z p => .ok ((⟨u0_, u1_, u2_, z⟩ : WDsk), p)) HN0.out (Link.bind (F := fun u1_ l p => bindP (numP l p) fun u2_ p => bindP (wAnsP l p) fun z p => .ok ((⟨y0, u1_, u2_, z⟩ : WDsk), p)) HN1.out (Link.bind (F := fun u2_ l p => bindP (wAnsP l p) fun z p => .ok ((⟨y0, y1, u2_, z⟩ : WDsk), p)) HN2.out (Link.map HNA.out (fun z => (⟨y0, y1, y2, z⟩ : WDsk))))))⟩, by simp [intOf]; omega⟩
      · obtain rfl : xs.length = kk3 := by omega
        have hd : decide (xs.length < xs.length) = false := decide_eq_false (by omega)
        go_wp2
        go_meet
        exact ⟨xs, sx, a1, c1, HL.out, HLK.out⟩
  obtain ⟨xs3, se3, b3, d3, HL, HLK⟩ := hcut
  have HX : Hid (Box wc w1.heap.size [.int .i64 v0, .int .i64 v1, .int .i64 v2, .slice b0 xs0.length d0, .slice b1 xs1.length d1, .slice b2 xs2.length d2, .slice b3 xs3.length d3]) := Lib.hid HL.out.box
  have HS := Lib.hid HL.out.rs
  have HK := Lib.hid (Keep.trans HK2.out (HL.out.turn.up2 (by have := HQ3.out; omega) (by have := HSZ.out; omega)))
  replace HF0 := Lib.hid (HF0.out.turn HL.out.turn (by have := HQ0.out; omega) (by have := HQ0.out; omega))
  replace HF1 := Lib.hid (HF1.out.turn HL.out.turn (by have := HQ1.out; omega) (by have := HQ1.out; omega))
  replace HF2 := Lib.hid (HF2.out.turn HL.out.turn (by have := HQ2.out; omega) (by have := HQ2.out; omega))
  have HF3 : Hid (FarRow wl3 wc b3 (xs3.flatMap cellsWDsk)) := Lib.hid ⟨HL.out.can.row, fun _ b o s e => (HL.out.far b o s e).1⟩
  have HLE3 := Lib.hid HL.out.can.le
  have HC2 := Lib.hid (Link.next (F := fun xs3 l p => .ok ((⟨v0, v1, v2, xs0, xs1, xs2, xs3⟩ : WSt), p)) HC.out (Link.bind (F := fun n l p => timesP wDskP n l p) HLC.out HLK.out))
  clear HC
  have HC : Hid (∀ y st', Link (fun _ p => .ok ((⟨v0, v1, v2, xs0, xs1, xs2, xs3⟩ : WSt), p)) bs se3 y st' → Link wStP bs (.ok 0) y st') := HC2
  clear HL HLK HLR HX2 HK2 HS2 HLC HC2 HKK
  have HWL := Lib.hid (show w1.heap.size ≤ wc.heap.size by have := HX.out.lt (by simp); omega)
  have HEND := Lib.hid (end_any _ c a bs se3 wc (by omega) HS.out)
  have HCF := Lib.hid (HC.out _ _ (Link.pure _ bs se3))
  go_wp2_with (go_at_call 48; ((with_reducible refine HEND.out.mono ?_); rintro e w9 ⟨ht, ⟨f, rfl, he⟩ | ⟨rfl, p, he, hp⟩⟩ <;> have HKE := Lib.hid (Keep.trans HK.out (ht.up (by have := HS.out.lt; omega))) <;> have HRE := Lib.hid (HRB.out.keep (by simp) HKE.out (by omega)) <;> have HXB := Lib.hid (HX.out.turn ht (by simp) HXO.out.ne) <;> have HE := Lib.hid he <;> have HF0E := Lib.hid (HF0.out.turn ht (by have := HQ0.out; omega) (by have := HQ0.out; omega)) <;> have HF1E := Lib.hid (HF1.out.turn ht (by have := HQ1.out; omega) (by have := HQ1.out; omega)) <;> have HF2E := Lib.hid (HF2.out.turn ht (by have := HQ2.out; omega) (by have := HQ2.out; omega)) <;> have HF3E := Lib.hid (HF3.out.turn ht (by have := HQ3.out; omega) (by have := HQ3.out; omega)) <;> clear ht he <;> (have r0 := HRE.out.cell (j := 0) rfl; have rz0 := HRE.out.froz (j := 0) (by simp); have y0c := HXB.out.cell (j := 0) rfl; have r1 := HRE.out.cell (j := 1) rfl; have rz1 := HRE.out.froz (j := 1) (by simp); have y1c := HXB.out.cell (j := 1) rfl; have r2 := HRE.out.cell (j := 2) rfl; have rz2 := HRE.out.froz (j := 2) (by simp); have y2c := HXB.out.cell (j := 2) rfl; have r3 := HRE.out.cell (j := 3) rfl; have rz3 := HRE.out.froz (j := 3) (by simp); have y3c := HXB.out.cell (j := 3) rfl; have r4 := HRE.out.cell (j := 4) rfl; have rz4 := HRE.out.froz (j := 4) (by simp); have y4c := HXB.out.cell (j := 4) rfl; have r5 := HRE.out.cell (j := 5) rfl; have rz5 := HRE.out.froz (j := 5) (by simp); have y5c := HXB.out.cell (j := 5) rfl; have r6 := HRE.out.cell (j := 6) rfl; have rz6 := HRE.out.froz (j := 6) (by simp); have y6c := HXB.out.cell (j := 6) rfl)))
  · rw [read_bad (z := zSt) HCF.out hl HE.out]
    obtain ⟨w4, hw4⟩ : ∃ w4, w4 = w9.setCells w.heap.size 0 [.int .i64 0, .int .i64 0, .int .i64 0, .slice none 0 0, .slice none 0 0, .slice none 0 0, .slice none 0 0] := ⟨_, rfl⟩
    have hk4 : Keep (fun k => k = w.heap.size) w9 w4 := by rw [hw4]; exact Keep.sets (S := fun k => k = w.heap.size) rfl _ 0 (Keep.refl _ _)
    have hX4 : Box w4 w.heap.size [.int .i64 0, .int .i64 0, .int .i64 0, .slice none 0 0, .slice none 0 0, .slice none 0 0, .slice none 0 0] := by rw [hw4]; exact HRE.out.whole rfl
    show bodyPost _ _ _ _ _ (w9.setCells w.heap.size 0 [.int .i64 0, .int .i64 0, .int .i64 0, .slice none 0 0, .slice none 0 0, .slice none 0 0, .slice none 0 0])
    rw [← hw4]
    have cc0 := hX4.cell (j := 0) rfl
    have cc1 := hX4.cell (j := 1) rfl
    have cc2 := hX4.cell (j := 2) rfl
    have cc3 := hX4.cell (j := 3) rfl
    have cc4 := hX4.cell (j := 4) rfl
    have cc5 := hX4.cell (j := 5) rfl
    have cc6 := hX4.cell (j := 6) rfl
    refine bodyPost_ret (v := .tuple #[.agg #[.int .i64 0, .int .i64 0, .int .i64 0, .slice none 0 0, .slice none 0 0, .slice none 0 0, .slice none 0 0], .int .i64 f, .int .i64 50]) (by simp [results, Try.results30, go_sem, cc0, cc1, cc2, cc3, cc4, cc5, cc6]) rfl ⟨pzSt, rfl, memzSt _ _, ?_⟩
    exact HBB.out.trans (((HKE.out.mono (S' := fun k => w.heap.size ≤ k) (fun k _ e => by omega)).trans (hk4.mono (S' := fun k => w.heap.size ≤ k) (fun k _ e => by omega))).bel HBB.out.size (fun k e => e))
  · obtain ⟨rfl, hnl⟩ := And.intro HE.out hp
    rw [read_ok (z := zSt) HCF.out hl hnl]
    obtain ⟨w4, hw4⟩ : ∃ w4, w4 = w9.setCells w.heap.size 0 [.int .i64 v0, .int .i64 v1, .int .i64 v2, .slice b0 xs0.length d0, .slice b1 xs1.length d1, .slice b2 xs2.length d2, .slice b3 xs3.length d3] := ⟨_, rfl⟩
    have hk4 : Keep (fun k => k = w.heap.size) w9 w4 := by rw [hw4]; exact Keep.sets (S := fun k => k = w.heap.size) rfl _ 0 (Keep.refl _ _)
    have hX4 : Box w4 w.heap.size [.int .i64 v0, .int .i64 v1, .int .i64 v2, .slice b0 xs0.length d0, .slice b1 xs1.length d1, .slice b2 xs2.length d2, .slice b3 xs3.length d3] := by rw [hw4]; exact HRE.out.whole rfl
    show bodyPost _ _ _ _ _ (w9.setCells w.heap.size 0 [.int .i64 v0, .int .i64 v1, .int .i64 v2, .slice b0 xs0.length d0, .slice b1 xs1.length d1, .slice b2 xs2.length d2, .slice b3 xs3.length d3])
    rw [← hw4]
    have cc0 := hX4.cell (j := 0) rfl
    have cc1 := hX4.cell (j := 1) rfl
    have cc2 := hX4.cell (j := 2) rfl
    have cc3 := hX4.cell (j := 3) rfl
    have cc4 := hX4.cell (j := 4) rfl
    have cc5 := hX4.cell (j := 5) rfl
    have cc6 := hX4.cell (j := 6) rfl
    refine bodyPost_ret (v := .tuple #[.agg #[.int .i64 v0, .int .i64 v1, .int .i64 v2, .slice b0 xs0.length d0, .slice b1 xs1.length d1, .slice b2 xs2.length d2, .slice b3 xs3.length d3], .int .i64 0, .int .i64 0]) (by simp [results, Try.results30, go_sem, cc0, cc1, cc2, cc3, cc4, cc5, cc6]) rfl ⟨(b0, d0, b1, d1, b2, d2, b3, d3), rfl, ⟨(HF0E.out.keep hk4 (fun k e => by have := HQ0.out; omega)).mono (by have := HQ0.out; omega), HLE0.out, (HF1E.out.keep hk4 (fun k e => by have := HQ1.out; omega)).mono (by have := HQ1.out; omega), HLE1.out, (HF2E.out.keep hk4 (fun k e => by have := HQ2.out; omega)).mono (by have := HQ2.out; omega), HLE2.out, (HF3E.out.keep hk4 (fun k e => by have := HQ3.out; omega)).mono (by have := HQ3.out; omega), HLE3.out⟩, ?_⟩
    exact HBB.out.trans (((HKE.out.mono (S' := fun k => w.heap.size ≤ k) (fun k _ e => by omega)).trans (hk4.mono (S' := fun k => w.heap.size ≤ k) (fun k _ e => by omega))).bel HBB.out.size (fun k e => e))
end Go.Proofs.Ytlckgnemmffdkaa
