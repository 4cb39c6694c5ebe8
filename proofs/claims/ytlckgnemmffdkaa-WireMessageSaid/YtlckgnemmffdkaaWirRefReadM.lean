import Derived.Test.YtlckgnemmffdkaaWirRefReadSt
import Derived.Test.YtlckgnemmffdkaaWirTopMsg
set_option linter.unusedVariables false
set_option linter.unusedSimpArgs false
/- The document's ReadMessage. (printed by gen_wirrefreadm.py) -/
namespace Go.Proofs.Ytlckgnemmffdkaa
open Go.ChangeShapes Go.WideShapes Go.ChangeAt Go.RowKit
set_option maxRecDepth 100000

theorem EntIn.turn {W wr w2 : World} {a1 : Option Addr} {y : WEnt × PEnt} {g : Nat} (h : EntIn W wr a1 y) (ht : Turn g g wr w2) (hg : g < W.heap.size) : EntIn W w2 a1 y :=
  h.blocks (fun k h1 h2 _ => ht.block k h2 (by omega)) (fun _ o s e => .inr ⟨o, s, e⟩)
theorem EntIn.below {W wr w2 : World} {a1 : Option Addr} {y : WEnt × PEnt} (h : EntIn W wr a1 y) (hb : Below wr.heap.size wr w2) : EntIn W w2 a1 y :=
  h.blocks (fun k _ h2 _ => hb.block k h2) (fun _ o s e => .inr ⟨o, s, e⟩)
set_option maxHeartbeats 64000000 in
theorem refreadmessage_any (a : Option Addr) (c : Nat) (bs : List UInt8) (w : World) (hr : RowB w a bs) (hc : bs.length ≤ c) (hl : bs.length ≤ 1048576) :
    Calls Try.prog 36 #[.slice a bs.length c] w (RetRdMsg w (readP zMsg wMsgP bs)) := by
  have hB1 : Below w.heap.size w (w.alloc (.cells #[.int .i8 0, .int .i64 0, .int .i64 0, .int .i64 0, .int .i64 0, .int .i64 0, .int .i64 0, .bool false, .slice none 0 0, .int .i64 0, .int .i64 0, .int .u8 0, .slice none 0 0, .slice none 0 0] 67)) := mid_alloc' (Below.refl _ _)
  have HR0 := Lib.hid (Box.of_alloc (w := w) (cs := [.int .i8 0, .int .i64 0, .int .i64 0, .int .i64 0, .int .i64 0, .int .i64 0, .int .i64 0, .bool false, .slice none 0 0, .int .i64 0, .int .i64 0, .int .u8 0, .slice none 0 0, .slice none 0 0]) (t := 67) (Below.refl _ _))
  have HBE := Lib.hid (begin_any a c bs (w.alloc (.cells #[.int .i8 0, .int .i64 0, .int .i64 0, .int .i64 0, .int .i64 0, .int .i64 0, .int .i64 0, .bool false, .slice none 0 0, .int .i64 0, .int .i64 0, .int .u8 0, .slice none 0 0, .slice none 0 0] 67)) (hr.below hB1) hc hl)
  have HB1 := Lib.hid hB1
  have HC : Hid (∀ y st', Link (fun l p => bindP (kindP l p) fun a q => (fun v0 l p => bindP (numP l p) fun v1 p => bindP (numP l p) fun v2 p => bindP (numP l p) fun v3 p => bindP (numP l p) fun v4 p => bindP (numP l p) fun v5 p => bindP (numP l p) fun v6 p => bindP (truthP l p) fun vt p => bindP (listP 26 wEntP l p) fun vE p => bindP (numP l p) fun v9 p => bindP (numP l p) fun v10 p => bindP (smallP l p) fun vs p => bindP (bytesP l p) fun u1 p => bindP (bytesP l p) fun u2 p => .ok ((⟨v0, v1, v2, v3, v4, v5, v6, vt, vE, v9, v10, vs, u1, u2⟩ : WMsg), p)) a l q) bs (.ok 0) y st' → Link wMsgP bs (.ok 0) y st') := Lib.hid (fun y st' h => h)
  clear hB1 hr
  go_enter Try.func36, Try.ntmps36
  go_upto_region 5 with (go_at_call 46; ((with_reducible refine HBE.out.mono ?_); rintro e w1 ⟨rfl, hs, hb⟩; rw [World.size_alloc] at hs; have HRB := Lib.hid (HR0.out.next (by simp) hb); have HS := Lib.hid hs; have HSZ := Lib.hid (show w.heap.size + 1 ≤ w1.heap.size by have := hb.size; simp at this; omega); have HBB := Lib.hid (HB1.out.trans (hb.mono HB1.out.size)); clear hs hb))
  clear HBE HR0 HB1
  have HXO := Lib.hid (HS.out.new (k := w1.heap.size) (Nat.le_refl _))
  have HOF := Lib.hid (fun k (hk : w1.heap.size ≤ k) => HS.out.new hk)
  have hba : Below w1.heap.size w1 (w1.alloc (.cells #[.int .i8 0, .int .i64 0, .int .i64 0, .int .i64 0, .int .i64 0, .int .i64 0, .int .i64 0, .bool false, .slice none 0 0, .int .i64 0, .int .i64 0, .int .u8 0, .slice none 0 0, .slice none 0 0] 67)) := mid_alloc' (Below.refl _ _)
  have HX := Lib.hid (Box.of_alloc (w := w1) (cs := [.int .i8 0, .int .i64 0, .int .i64 0, .int .i64 0, .int .i64 0, .int .i64 0, .int .i64 0, .bool false, .slice none 0 0, .int .i64 0, .int .i64 0, .int .u8 0, .slice none 0 0, .slice none 0 0]) (t := 67) (Below.refl _ _))
  have HK : Hid (Keep (fun k => w.heap.size < k) w1 (w1.alloc (.cells #[.int .i8 0, .int .i64 0, .int .i64 0, .int .i64 0, .int .i64 0, .int .i64 0, .int .i64 0, .bool false, .slice none 0 0, .int .i64 0, .int .i64 0, .int .u8 0, .slice none 0 0, .slice none 0 0] 67))) := Lib.hid (Keep.of hba)
  replace HS := Lib.hid (HS.out.below hba)
  clear hba
  generalize w1.alloc (.cells #[.int .i8 0, .int .i64 0, .int .i64 0, .int .i64 0, .int .i64 0, .int .i64 0, .int .i64 0, .bool false, .slice none 0 0, .int .i64 0, .int .i64 0, .int .u8 0, .slice none 0 0, .slice none 0 0] 67) = wb at HX HS HK ⊢
  go_upto_region 7 with (go_at_call 54; ((with_reducible refine (small_rr _ c a bs _ wb (by omega) HS.out).mono ?_); rintro e w2 ⟨ht, vb, st0, hk, hs, rfl⟩; have hx2 := HX.out.turn ht (by simp) HXO.out.ne; have yc := hx2.cell (j := 0) rfl; have yz := hx2.froz (j := 0) (by simp); have HX2 := Lib.hid hx2; have HT2 := Lib.hid ht; have HS2 := Lib.hid hs; have HC2 := Lib.hid (Link.next (F := fun v0 l p => bindP (numP l p) fun v1 p => bindP (numP l p) fun v2 p => bindP (numP l p) fun v3 p => bindP (numP l p) fun v4 p => bindP (numP l p) fun v5 p => bindP (numP l p) fun v6 p => bindP (truthP l p) fun vt p => bindP (listP 26 wEntP l p) fun vE p => bindP (numP l p) fun v9 p => bindP (numP l p) fun v10 p => bindP (smallP l p) fun vs p => bindP (bytesP l p) fun u1 p => bindP (bytesP l p) fun u2 p => .ok ((⟨v0, v1, v2, v3, v4, v5, v6, vt, vE, v9, v10, vs, u1, u2⟩ : WMsg), p)) HC.out (hk.map kindI)); clear ht hs hk hx2))
  clear yc yz HC
  have HC : Hid (∀ y st', Link (fun l p => bindP (numP l p) fun a q => (fun v1 l p => bindP (numP l p) fun v2 p => bindP (numP l p) fun v3 p => bindP (numP l p) fun v4 p => bindP (numP l p) fun v5 p => bindP (numP l p) fun v6 p => bindP (truthP l p) fun vt p => bindP (listP 26 wEntP l p) fun vE p => bindP (numP l p) fun v9 p => bindP (numP l p) fun v10 p => bindP (smallP l p) fun vs p => bindP (bytesP l p) fun u1 p => bindP (bytesP l p) fun u2 p => .ok ((⟨(kindI vb), v1, v2, v3, v4, v5, v6, vt, vE, v9, v10, vs, u1, u2⟩ : WMsg), p)) a l q) bs st0 y st' → Link wMsgP bs (.ok 0) y st') := HC2
  have HX3 : Hid (Box _ w1.heap.size [.int .i8 (IntKind.i8.wrap (vb.toNat : Int)), .int .i64 0, .int .i64 0, .int .i64 0, .int .i64 0, .int .i64 0, .int .i64 0, .bool false, .slice none 0 0, .int .i64 0, .int .i64 0, .int .u8 0, .slice none 0 0, .slice none 0 0]) := Lib.hid (HX2.out.set (i := 0) (by simp) (.int .i8 (IntKind.i8.wrap (vb.toNat : Int))))
  have HS3 := Lib.hid (HS2.out.put HXO.out (i := 0) (v := .int .i8 (IntKind.i8.wrap (vb.toNat : Int))))
  have HK3 := Lib.hid ((Keep.trans HK.out (HT2.out.up (by have := HS.out.lt; omega))).set ⟨w1.heap.size, 0, none⟩ (.int .i8 (IntKind.i8.wrap (vb.toNat : Int))) (by show w.heap.size < w1.heap.size; have := HSZ.out; omega))
  clear HX HS HK HC2 HX2 HT2 HS2
  have HX := HX3
  have HS := HS3
  have HK := HK3
  clear HX3 HS3 HK3
  generalize w2.setCell ⟨w1.heap.size, 0, none⟩ (.int .i8 (IntKind.i8.wrap (vb.toNat : Int))) = wb at HX HS HK ⊢
  go_upto_region 9 with (go_at_call 55; ((with_reducible refine (number_rr _ c a bs _ wb (by omega) HS.out).mono ?_); rintro e w2 ⟨ht, v1, st1, hk, hs, rfl⟩; have hx2 := HX.out.turn ht (by simp) HXO.out.ne; have yc := hx2.cell (j := 1) rfl; have yz := hx2.froz (j := 1) (by simp); have HX2 := Lib.hid hx2; have HT2 := Lib.hid ht; have HS2 := Lib.hid hs; have HC2 := Lib.hid (Link.next (F := fun v1 l p => bindP (numP l p) fun v2 p => bindP (numP l p) fun v3 p => bindP (numP l p) fun v4 p => bindP (numP l p) fun v5 p => bindP (numP l p) fun v6 p => bindP (truthP l p) fun vt p => bindP (listP 26 wEntP l p) fun vE p => bindP (numP l p) fun v9 p => bindP (numP l p) fun v10 p => bindP (smallP l p) fun vs p => bindP (bytesP l p) fun u1 p => bindP (bytesP l p) fun u2 p => .ok ((⟨(kindI vb), v1, v2, v3, v4, v5, v6, vt, vE, v9, v10, vs, u1, u2⟩ : WMsg), p)) HC.out (hk)); clear ht hs hk hx2))
  clear yc yz HC
  have HC : Hid (∀ y st', Link (fun l p => bindP (numP l p) fun a q => (fun v2 l p => bindP (numP l p) fun v3 p => bindP (numP l p) fun v4 p => bindP (numP l p) fun v5 p => bindP (numP l p) fun v6 p => bindP (truthP l p) fun vt p => bindP (listP 26 wEntP l p) fun vE p => bindP (numP l p) fun v9 p => bindP (numP l p) fun v10 p => bindP (smallP l p) fun vs p => bindP (bytesP l p) fun u1 p => bindP (bytesP l p) fun u2 p => .ok ((⟨(kindI vb), v1, v2, v3, v4, v5, v6, vt, vE, v9, v10, vs, u1, u2⟩ : WMsg), p)) a l q) bs st1 y st' → Link wMsgP bs (.ok 0) y st') := HC2
  have HX3 : Hid (Box _ w1.heap.size [.int .i8 (IntKind.i8.wrap (vb.toNat : Int)), .int .i64 v1, .int .i64 0, .int .i64 0, .int .i64 0, .int .i64 0, .int .i64 0, .bool false, .slice none 0 0, .int .i64 0, .int .i64 0, .int .u8 0, .slice none 0 0, .slice none 0 0]) := Lib.hid (HX2.out.set (i := 1) (by simp) (.int .i64 v1))
  have HS3 := Lib.hid (HS2.out.put HXO.out (i := 1) (v := .int .i64 v1))
  have HK3 := Lib.hid ((Keep.trans HK.out (HT2.out.up (by have := HS.out.lt; omega))).set ⟨w1.heap.size, 1, none⟩ (.int .i64 v1) (by show w.heap.size < w1.heap.size; have := HSZ.out; omega))
  clear HX HS HK HC2 HX2 HT2 HS2
  have HX := HX3
  have HS := HS3
  have HK := HK3
  clear HX3 HS3 HK3
  generalize w2.setCell ⟨w1.heap.size, 1, none⟩ (.int .i64 v1) = wb at HX HS HK ⊢
  go_upto_region 11 with (go_at_call 55; ((with_reducible refine (number_rr _ c a bs _ wb (by omega) HS.out).mono ?_); rintro e w2 ⟨ht, v2, st2, hk, hs, rfl⟩; have hx2 := HX.out.turn ht (by simp) HXO.out.ne; have yc := hx2.cell (j := 2) rfl; have yz := hx2.froz (j := 2) (by simp); have HX2 := Lib.hid hx2; have HT2 := Lib.hid ht; have HS2 := Lib.hid hs; have HC2 := Lib.hid (Link.next (F := fun v2 l p => bindP (numP l p) fun v3 p => bindP (numP l p) fun v4 p => bindP (numP l p) fun v5 p => bindP (numP l p) fun v6 p => bindP (truthP l p) fun vt p => bindP (listP 26 wEntP l p) fun vE p => bindP (numP l p) fun v9 p => bindP (numP l p) fun v10 p => bindP (smallP l p) fun vs p => bindP (bytesP l p) fun u1 p => bindP (bytesP l p) fun u2 p => .ok ((⟨(kindI vb), v1, v2, v3, v4, v5, v6, vt, vE, v9, v10, vs, u1, u2⟩ : WMsg), p)) HC.out (hk)); clear ht hs hk hx2))
  clear yc yz HC
  have HC : Hid (∀ y st', Link (fun l p => bindP (numP l p) fun a q => (fun v3 l p => bindP (numP l p) fun v4 p => bindP (numP l p) fun v5 p => bindP (numP l p) fun v6 p => bindP (truthP l p) fun vt p => bindP (listP 26 wEntP l p) fun vE p => bindP (numP l p) fun v9 p => bindP (numP l p) fun v10 p => bindP (smallP l p) fun vs p => bindP (bytesP l p) fun u1 p => bindP (bytesP l p) fun u2 p => .ok ((⟨(kindI vb), v1, v2, v3, v4, v5, v6, vt, vE, v9, v10, vs, u1, u2⟩ : WMsg), p)) a l q) bs st2 y st' → Link wMsgP bs (.ok 0) y st') := HC2
  have HX3 : Hid (Box _ w1.heap.size [.int .i8 (IntKind.i8.wrap (vb.toNat : Int)), .int .i64 v1, .int .i64 v2, .int .i64 0, .int .i64 0, .int .i64 0, .int .i64 0, .bool false, .slice none 0 0, .int .i64 0, .int .i64 0, .int .u8 0, .slice none 0 0, .slice none 0 0]) := Lib.hid (HX2.out.set (i := 2) (by simp) (.int .i64 v2))
  have HS3 := Lib.hid (HS2.out.put HXO.out (i := 2) (v := .int .i64 v2))
  have HK3 := Lib.hid ((Keep.trans HK.out (HT2.out.up (by have := HS.out.lt; omega))).set ⟨w1.heap.size, 2, none⟩ (.int .i64 v2) (by show w.heap.size < w1.heap.size; have := HSZ.out; omega))
  clear HX HS HK HC2 HX2 HT2 HS2
  have HX := HX3
  have HS := HS3
  have HK := HK3
  clear HX3 HS3 HK3
  generalize w2.setCell ⟨w1.heap.size, 2, none⟩ (.int .i64 v2) = wb at HX HS HK ⊢
  go_upto_region 13 with (go_at_call 55; ((with_reducible refine (number_rr _ c a bs _ wb (by omega) HS.out).mono ?_); rintro e w2 ⟨ht, v3, st3, hk, hs, rfl⟩; have hx2 := HX.out.turn ht (by simp) HXO.out.ne; have yc := hx2.cell (j := 3) rfl; have yz := hx2.froz (j := 3) (by simp); have HX2 := Lib.hid hx2; have HT2 := Lib.hid ht; have HS2 := Lib.hid hs; have HC2 := Lib.hid (Link.next (F := fun v3 l p => bindP (numP l p) fun v4 p => bindP (numP l p) fun v5 p => bindP (numP l p) fun v6 p => bindP (truthP l p) fun vt p => bindP (listP 26 wEntP l p) fun vE p => bindP (numP l p) fun v9 p => bindP (numP l p) fun v10 p => bindP (smallP l p) fun vs p => bindP (bytesP l p) fun u1 p => bindP (bytesP l p) fun u2 p => .ok ((⟨(kindI vb), v1, v2, v3, v4, v5, v6, vt, vE, v9, v10, vs, u1, u2⟩ : WMsg), p)) HC.out (hk)); clear ht hs hk hx2))
  clear yc yz HC
  have HC : Hid (∀ y st', Link (fun l p => bindP (numP l p) fun a q => (fun v4 l p => bindP (numP l p) fun v5 p => bindP (numP l p) fun v6 p => bindP (truthP l p) fun vt p => bindP (listP 26 wEntP l p) fun vE p => bindP (numP l p) fun v9 p => bindP (numP l p) fun v10 p => bindP (smallP l p) fun vs p => bindP (bytesP l p) fun u1 p => bindP (bytesP l p) fun u2 p => .ok ((⟨(kindI vb), v1, v2, v3, v4, v5, v6, vt, vE, v9, v10, vs, u1, u2⟩ : WMsg), p)) a l q) bs st3 y st' → Link wMsgP bs (.ok 0) y st') := HC2
  have HX3 : Hid (Box _ w1.heap.size [.int .i8 (IntKind.i8.wrap (vb.toNat : Int)), .int .i64 v1, .int .i64 v2, .int .i64 v3, .int .i64 0, .int .i64 0, .int .i64 0, .bool false, .slice none 0 0, .int .i64 0, .int .i64 0, .int .u8 0, .slice none 0 0, .slice none 0 0]) := Lib.hid (HX2.out.set (i := 3) (by simp) (.int .i64 v3))
  have HS3 := Lib.hid (HS2.out.put HXO.out (i := 3) (v := .int .i64 v3))
  have HK3 := Lib.hid ((Keep.trans HK.out (HT2.out.up (by have := HS.out.lt; omega))).set ⟨w1.heap.size, 3, none⟩ (.int .i64 v3) (by show w.heap.size < w1.heap.size; have := HSZ.out; omega))
  clear HX HS HK HC2 HX2 HT2 HS2
  have HX := HX3
  have HS := HS3
  have HK := HK3
  clear HX3 HS3 HK3
  generalize w2.setCell ⟨w1.heap.size, 3, none⟩ (.int .i64 v3) = wb at HX HS HK ⊢
  go_upto_region 15 with (go_at_call 55; ((with_reducible refine (number_rr _ c a bs _ wb (by omega) HS.out).mono ?_); rintro e w2 ⟨ht, v4, st4, hk, hs, rfl⟩; have hx2 := HX.out.turn ht (by simp) HXO.out.ne; have yc := hx2.cell (j := 4) rfl; have yz := hx2.froz (j := 4) (by simp); have HX2 := Lib.hid hx2; have HT2 := Lib.hid ht; have HS2 := Lib.hid hs; have HC2 := Lib.hid (Link.next (F := fun v4 l p => bindP (numP l p) fun v5 p => bindP (numP l p) fun v6 p => bindP (truthP l p) fun vt p => bindP (listP 26 wEntP l p) fun vE p => bindP (numP l p) fun v9 p => bindP (numP l p) fun v10 p => bindP (smallP l p) fun vs p => bindP (bytesP l p) fun u1 p => bindP (bytesP l p) fun u2 p => .ok ((⟨(kindI vb), v1, v2, v3, v4, v5, v6, vt, vE, v9, v10, vs, u1, u2⟩ : WMsg), p)) HC.out (hk)); clear ht hs hk hx2))
  clear yc yz HC
  have HC : Hid (∀ y st', Link (fun l p => bindP (numP l p) fun a q => (fun v5 l p => bindP (numP l p) fun v6 p => bindP (truthP l p) fun vt p => bindP (listP 26 wEntP l p) fun vE p => bindP (numP l p) fun v9 p => bindP (numP l p) fun v10 p => bindP (smallP l p) fun vs p => bindP (bytesP l p) fun u1 p => bindP (bytesP l p) fun u2 p => .ok ((⟨(kindI vb), v1, v2, v3, v4, v5, v6, vt, vE, v9, v10, vs, u1, u2⟩ : WMsg), p)) a l q) bs st4 y st' → Link wMsgP bs (.ok 0) y st') := HC2
  have HX3 : Hid (Box _ w1.heap.size [.int .i8 (IntKind.i8.wrap (vb.toNat : Int)), .int .i64 v1, .int .i64 v2, .int .i64 v3, .int .i64 v4, .int .i64 0, .int .i64 0, .bool false, .slice none 0 0, .int .i64 0, .int .i64 0, .int .u8 0, .slice none 0 0, .slice none 0 0]) := Lib.hid (HX2.out.set (i := 4) (by simp) (.int .i64 v4))
  have HS3 := Lib.hid (HS2.out.put HXO.out (i := 4) (v := .int .i64 v4))
  have HK3 := Lib.hid ((Keep.trans HK.out (HT2.out.up (by have := HS.out.lt; omega))).set ⟨w1.heap.size, 4, none⟩ (.int .i64 v4) (by show w.heap.size < w1.heap.size; have := HSZ.out; omega))
  clear HX HS HK HC2 HX2 HT2 HS2
  have HX := HX3
  have HS := HS3
  have HK := HK3
  clear HX3 HS3 HK3
  generalize w2.setCell ⟨w1.heap.size, 4, none⟩ (.int .i64 v4) = wb at HX HS HK ⊢
  go_upto_region 17 with (go_at_call 55; ((with_reducible refine (number_rr _ c a bs _ wb (by omega) HS.out).mono ?_); rintro e w2 ⟨ht, v5, st5, hk, hs, rfl⟩; have hx2 := HX.out.turn ht (by simp) HXO.out.ne; have yc := hx2.cell (j := 5) rfl; have yz := hx2.froz (j := 5) (by simp); have HX2 := Lib.hid hx2; have HT2 := Lib.hid ht; have HS2 := Lib.hid hs; have HC2 := Lib.hid (Link.next (F := fun v5 l p => bindP (numP l p) fun v6 p => bindP (truthP l p) fun vt p => bindP (listP 26 wEntP l p) fun vE p => bindP (numP l p) fun v9 p => bindP (numP l p) fun v10 p => bindP (smallP l p) fun vs p => bindP (bytesP l p) fun u1 p => bindP (bytesP l p) fun u2 p => .ok ((⟨(kindI vb), v1, v2, v3, v4, v5, v6, vt, vE, v9, v10, vs, u1, u2⟩ : WMsg), p)) HC.out (hk)); clear ht hs hk hx2))
  clear yc yz HC
  have HC : Hid (∀ y st', Link (fun l p => bindP (numP l p) fun a q => (fun v6 l p => bindP (truthP l p) fun vt p => bindP (listP 26 wEntP l p) fun vE p => bindP (numP l p) fun v9 p => bindP (numP l p) fun v10 p => bindP (smallP l p) fun vs p => bindP (bytesP l p) fun u1 p => bindP (bytesP l p) fun u2 p => .ok ((⟨(kindI vb), v1, v2, v3, v4, v5, v6, vt, vE, v9, v10, vs, u1, u2⟩ : WMsg), p)) a l q) bs st5 y st' → Link wMsgP bs (.ok 0) y st') := HC2
  have HX3 : Hid (Box _ w1.heap.size [.int .i8 (IntKind.i8.wrap (vb.toNat : Int)), .int .i64 v1, .int .i64 v2, .int .i64 v3, .int .i64 v4, .int .i64 v5, .int .i64 0, .bool false, .slice none 0 0, .int .i64 0, .int .i64 0, .int .u8 0, .slice none 0 0, .slice none 0 0]) := Lib.hid (HX2.out.set (i := 5) (by simp) (.int .i64 v5))
  have HS3 := Lib.hid (HS2.out.put HXO.out (i := 5) (v := .int .i64 v5))
  have HK3 := Lib.hid ((Keep.trans HK.out (HT2.out.up (by have := HS.out.lt; omega))).set ⟨w1.heap.size, 5, none⟩ (.int .i64 v5) (by show w.heap.size < w1.heap.size; have := HSZ.out; omega))
  clear HX HS HK HC2 HX2 HT2 HS2
  have HX := HX3
  have HS := HS3
  have HK := HK3
  clear HX3 HS3 HK3
  generalize w2.setCell ⟨w1.heap.size, 5, none⟩ (.int .i64 v5) = wb at HX HS HK ⊢
  go_upto_region 19 with (go_at_call 55; ((with_reducible refine (number_rr _ c a bs _ wb (by omega) HS.out).mono ?_); rintro e w2 ⟨ht, v6, st6, hk, hs, rfl⟩; have hx2 := HX.out.turn ht (by simp) HXO.out.ne; have yc := hx2.cell (j := 6) rfl; have yz := hx2.froz (j := 6) (by simp); have HX2 := Lib.hid hx2; have HT2 := Lib.hid ht; have HS2 := Lib.hid hs; have HC2 := Lib.hid (Link.next (F := fun v6 l p => bindP (truthP l p) fun vt p => bindP (listP 26 wEntP l p) fun vE p => bindP (numP l p) fun v9 p => bindP (numP l p) fun v10 p => bindP (smallP l p) fun vs p => bindP (bytesP l p) fun u1 p => bindP (bytesP l p) fun u2 p => .ok ((⟨(kindI vb), v1, v2, v3, v4, v5, v6, vt, vE, v9, v10, vs, u1, u2⟩ : WMsg), p)) HC.out (hk)); clear ht hs hk hx2))
  clear yc yz HC
  have HC : Hid (∀ y st', Link (fun l p => bindP (truthP l p) fun a q => (fun vt l p => bindP (listP 26 wEntP l p) fun vE p => bindP (numP l p) fun v9 p => bindP (numP l p) fun v10 p => bindP (smallP l p) fun vs p => bindP (bytesP l p) fun u1 p => bindP (bytesP l p) fun u2 p => .ok ((⟨(kindI vb), v1, v2, v3, v4, v5, v6, vt, vE, v9, v10, vs, u1, u2⟩ : WMsg), p)) a l q) bs st6 y st' → Link wMsgP bs (.ok 0) y st') := HC2
  have HX3 : Hid (Box _ w1.heap.size [.int .i8 (IntKind.i8.wrap (vb.toNat : Int)), .int .i64 v1, .int .i64 v2, .int .i64 v3, .int .i64 v4, .int .i64 v5, .int .i64 v6, .bool false, .slice none 0 0, .int .i64 0, .int .i64 0, .int .u8 0, .slice none 0 0, .slice none 0 0]) := Lib.hid (HX2.out.set (i := 6) (by simp) (.int .i64 v6))
  have HS3 := Lib.hid (HS2.out.put HXO.out (i := 6) (v := .int .i64 v6))
  have HK3 := Lib.hid ((Keep.trans HK.out (HT2.out.up (by have := HS.out.lt; omega))).set ⟨w1.heap.size, 6, none⟩ (.int .i64 v6) (by show w.heap.size < w1.heap.size; have := HSZ.out; omega))
  clear HX HS HK HC2 HX2 HT2 HS2
  have HX := HX3
  have HS := HS3
  have HK := HK3
  clear HX3 HS3 HK3
  generalize w2.setCell ⟨w1.heap.size, 6, none⟩ (.int .i64 v6) = wb at HX HS HK ⊢
  go_upto_region 21 with (go_at_call 56; ((with_reducible refine (truth_rr _ c a bs _ wb (by omega) HS.out).mono ?_); rintro e w2 ⟨ht, vt, st7, hk, hs, rfl⟩; have hx2 := HX.out.turn ht (by simp) HXO.out.ne; have yc := hx2.cell (j := 7) rfl; have yz := hx2.froz (j := 7) (by simp); have HX2 := Lib.hid hx2; have HT2 := Lib.hid ht; have HS2 := Lib.hid hs; have HC2 := Lib.hid (Link.next (F := fun vt l p => bindP (listP 26 wEntP l p) fun vE p => bindP (numP l p) fun v9 p => bindP (numP l p) fun v10 p => bindP (smallP l p) fun vs p => bindP (bytesP l p) fun u1 p => bindP (bytesP l p) fun u2 p => .ok ((⟨(kindI vb), v1, v2, v3, v4, v5, v6, vt, vE, v9, v10, vs, u1, u2⟩ : WMsg), p)) HC.out (hk)); clear ht hs hk hx2))
  clear yc yz HC
  have HC : Hid (∀ y st', Link (fun l p => bindP (listP 26 wEntP l p) fun a q => (fun vE l p => bindP (numP l p) fun v9 p => bindP (numP l p) fun v10 p => bindP (smallP l p) fun vs p => bindP (bytesP l p) fun u1 p => bindP (bytesP l p) fun u2 p => .ok ((⟨(kindI vb), v1, v2, v3, v4, v5, v6, vt, vE, v9, v10, vs, u1, u2⟩ : WMsg), p)) a l q) bs st7 y st' → Link wMsgP bs (.ok 0) y st') := HC2
  have HX3 : Hid (Box _ w1.heap.size [.int .i8 (IntKind.i8.wrap (vb.toNat : Int)), .int .i64 v1, .int .i64 v2, .int .i64 v3, .int .i64 v4, .int .i64 v5, .int .i64 v6, .bool vt, .slice none 0 0, .int .i64 0, .int .i64 0, .int .u8 0, .slice none 0 0, .slice none 0 0]) := Lib.hid (HX2.out.set (i := 7) (by simp) (.bool vt))
  have HS3 := Lib.hid (HS2.out.put HXO.out (i := 7) (v := .bool vt))
  have HK3 := Lib.hid ((Keep.trans HK.out (HT2.out.up (by have := HS.out.lt; omega))).set ⟨w1.heap.size, 7, none⟩ (.bool vt) (by show w.heap.size < w1.heap.size; have := HSZ.out; omega))
  clear HX HS HK HC2 HX2 HT2 HS2
  have HX := HX3
  have HS := HS3
  have HK := HK3
  clear HX3 HS3 HK3
  generalize w2.setCell ⟨w1.heap.size, 7, none⟩ (.bool vt) = wb at HX HS HK ⊢
  have HCNT : Hid (Calls Try.prog 57 #[.pointer (some ⟨(w.heap.size + 1), 0, none⟩), .int .i64 26] wb (RetCt wb (w.heap.size + 1) a c bs 26 st7)) := count_rr _ c 26 a bs st7 wb (by omega) HS.out (by decide) (by decide)
  go_upto_block 0 with (go_at_call 57; ((with_reducible refine HCNT.out.mono ?_); rintro e wl0 ⟨ht, kk, sc, hk, hs, rfl, h0⟩; have HKK := Lib.hid (cnt_kk hk (by omega) h0); have HX2 := Lib.hid (HX.out.turn ht (by simp) HXO.out.ne); have HK2 := Lib.hid (Keep.trans HK.out (ht.up (by have := HS.out.lt; omega))); have HS2 := Lib.hid hs; have HLC := Lib.hid hk; have HQ0 := Lib.hid (show w.heap.size + 1 < wl0.heap.size ∧ w1.heap.size < wl0.heap.size from ⟨hs.lt, HX2.out.lt (by simp)⟩); clear ht hs hk h0))
  clear HX HK HS HCNT
  have HLR : Hid (Lr wl0 wl0 (w.heap.size + 1) w1.heap.size 8 a c bs sc [.int .i8 (IntKind.i8.wrap (vb.toNat : Int)), .int .i64 v1, .int .i64 v2, .int .i64 v3, .int .i64 v4, .int .i64 v5, .int .i64 v6, .bool vt, .slice none 0 0, .int .i64 0, .int .i64 0, .int .u8 0, .slice none 0 0, .slice none 0 0] 32 5 none 0 0 []) := Lib.hid ⟨HS2.out, Turn.refl _ _ _, HX2.out, Can.nil _ _ _ _, (fun _ _ _ h => by cases h), HQ0.out.1, HQ0.out.2, HXO.out, (fun k hk => HOF.out k (by have := HQ0.out.2; omega)), by simp⟩
  go_cut [17, 18] from 69 to 88 (fun _ _ wx => ∃ (xs : List EntP) (sx : Except Nat Nat) (a1 : Option Addr) (c1 : Nat), Hid (Lr wl0 wx (w.heap.size + 1) w1.heap.size 8 a c bs sx [.int .i8 (IntKind.i8.wrap (vb.toNat : Int)), .int .i64 v1, .int .i64 v2, .int .i64 v3, .int .i64 v4, .int .i64 v5, .int .i64 v6, .bool vt, .slice none 0 0, .int .i64 0, .int .i64 0, .int .u8 0, .slice none 0 0, .slice none 0 0] 32 5 a1 xs.length c1 (xs.flatMap cellsEn)) ∧ Hid (Link (timesP wEntP kk) bs sc (xs.map Prod.fst) sx) ∧ Hid (∀ y ∈ xs, EntIn wl0 wx a1 y))
  case first =>
    go_wp2_with fail
    go_loopw [17] (fun i wr => ∃ (xs : List EntP) (sx : Except Nat Nat) (a1 : Option Addr) (c1 : Nat), xs.length ≤ kk ∧ i = .int .i64 xs.length ∧ Hid (Lr wl0 wr (w.heap.size + 1) w1.heap.size 8 a c bs sx [.int .i8 (IntKind.i8.wrap (vb.toNat : Int)), .int .i64 v1, .int .i64 v2, .int .i64 v3, .int .i64 v4, .int .i64 v5, .int .i64 v6, .bool vt, .slice none 0 0, .int .i64 0, .int .i64 0, .int .u8 0, .slice none 0 0, .slice none 0 0] 32 5 a1 xs.length c1 (xs.flatMap cellsEn)) ∧ Hid (Link (timesP wEntP xs.length) bs sc (xs.map Prod.fst) sx) ∧ Hid (∀ y ∈ xs, EntIn wl0 wr a1 y)) (fun i _ => kk - (intOf i).toNat)
    case atStart => exact ⟨[], sc, none, 0, by simp, rfl, HLR.out, Link.pure [] bs sc, fun y hy => by cases hy⟩
    case round =>
      clear HLR HX2 HK2 HS2 HLC HC
      obtain ⟨xs, sx, a1, c1, hk, rfl, HL, HLK, HM⟩ := hrel
      have hlen : xs.length ≤ 250000 := by have := HKK.out; omega
      by_cases hlt : xs.length < kk
      · have hd : decide (xs.length < kk) = true := decide_eq_true hlt
        cases sx with
        | error f =>
          have k2 := Rd0.box (show Rd0 _ _ _ _ _ _ _ from HL.out.rs) |>.cell (j := 2) rfl
          have hdb : decide ((f : Int) < 0) = false := decide_eq_false (by omega)
          go_wp2
          go_meet
          exact ⟨xs, .error f, a1, c1, HL.out, HLK.out.short (by omega), HM.out⟩
        | ok p =>
          have k2 := HL.out.rs.1.box.cell (j := 2) rfl
          have hdb : decide ((-1 : Int) < 0) = true := rfl
          go_upto_region 26 with (go_at_call 47; ((with_reducible refine (entry_rr _ c a bs _ wr (by omega) HL.out.rs).mono ?_); rintro e w5 ⟨ht, ⟨v0, z1, z2, z3, z4⟩, se, hke, hs, ⟨⟨r0, r1⟩, rfl, hm⟩⟩; have HS5 := Lib.hid hs; have HT5 := Lib.hid ht; have HKE := Lib.hid hke; have HME := Lib.hid hm; clear ht hs hke hm; unfold valEnt; simp only))
          clear k2 hdb hd
          have hba : Below w5.heap.size w5 (w5.alloc (.cells #[.int .i64 v0, .int .i8 z1, .int .i64 z2, B z3, .slice r0 z4.length r1] 32)) := mid_alloc' (Below.refl _ _)
          have HA := Lib.hid (Box.of_alloc (w := w5) (cs := [.int .i64 v0, .int .i8 z1, .int .i64 z2, B z3, .slice r0 z4.length r1]) (t := 32) (Below.refl _ _))
          have HL6 := Lib.hid (HL.out.one (Turn.next HT5.out (Turn.below hba)) (HS5.out.below hba))
          have HM6 : Hid (∀ y ∈ xs ++ [((⟨⟨v0, z1, z2, z3, z4⟩, (r0, r1)⟩ : EntP))], EntIn wl0 (w5.alloc (.cells #[.int .i64 v0, .int .i8 z1, .int .i64 z2, B z3, .slice r0 z4.length r1] 32)) a1 y) := fun y hy => by
            rcases List.mem_append.1 hy with hy | hy
            · exact ((HM.out y hy).turn HT5.out HL.out.gl).below hba
            · rw [List.mem_singleton] at hy; subst hy
              exact EntIn.new (HME.out.below hba) HL.out.turn.size (fun b o s e => (HL.out.far b o s e).2)
          clear hba HM HME HS5
          generalize w5.alloc (.cells #[.int .i64 v0, .int .i8 z1, .int .i64 z2, B z3, .slice r0 z4.length r1] 32) = w6 at HA HL6 HM6 ⊢
          have n0 := HA.out.cell (j := 0) rfl
          have n1 := HA.out.cell (j := 1) rfl
          have n2 := HA.out.cell (j := 2) rfl
          have n3 := HA.out.cell (j := 3) rfl
          have n4 := HA.out.cell (j := 4) rfl
          have k3 := HL6.out.box.cell (j := 8) rfl
          go_wp2_with (at_builtin; (refine wpList_far el_ent rfl (.tmp 84) (.tmp 86) rfl wl0.heap.size a1 xs.length c1 (xs.flatMap cellsEn) rfl (HL6.out.can.alloc _) (some ⟨w6.heap.size, 0, none⟩) 1 1 [.int .i64 v0, .int .i8 z1, .int .i64 z2, B z3, .slice r0 z4.length r1] rfl rfl (Row.new _ _ _ _) (by intro u hu; simp only [List.mem_cons, List.not_mem_nil, or_false] at hu; rcases hu with rfl | rfl | rfl | rfl | rfl <;> rfl) (by omega) (by have := HL6.out.turn.size; simp; omega) (fun b o s e => ⟨(HL6.out.far b o s e).1, by have := (HL6.out.far b o s e).2; simp; omega⟩) ?_); intro a2 c2 w7 hcan2 hg2 hn2 hf2 hl2; have hst := HL6.out.push ((Below.refl _ _).alloc (Nat.le_refl _) _) hcan2 hg2 hf2 hl2; have q0 := hst.2.1.cell (j := 8) rfl; have q1z := hst.2.1.froz (j := 8) (by simp); have HST := Lib.hid hst; have HN2 := Lib.hid hn2; clear hst hcan2 hg2 hn2 hf2 hl2)
          exact ⟨⟨xs ++ [(⟨⟨v0, z1, z2, z3, z4⟩, (r0, r1)⟩ : EntP)], se, a2, c2, by simp; omega, by simp, by (show Lr _ _ _ _ _ _ _ _ _ _ _ _ _ _ _ _); rw [List.length_append, List.flatMap_append, List.flatMap_singleton]; exact HST.out.1, by (show Link _ _ _ _ _); rw [List.length_append, List.map_append]; exact HLK.out.snoc HKE.out, fun y hy => (HM6.out y hy).push HST.out.2.2 HN2.out (by simp) HL6.out.xl _⟩, by simp [intOf]; omega⟩
      · obtain rfl : xs.length = kk := by omega
        have hd : decide (xs.length < xs.length) = false := decide_eq_false (by omega)
        go_wp2
        go_meet
        exact ⟨xs, sx, a1, c1, HL.out, HLK.out, HM.out⟩
  obtain ⟨es, st8, b0, d0, HL, HLK, HM⟩ := hcut
  obtain ⟨vE, hvE⟩ : ∃ vE, vE = es.map Prod.fst := ⟨_, rfl⟩
  have hev : es.length = vE.length := by rw [hvE, List.length_map]
  rw [← hvE] at HLK
  have HX0 : Hid (Box wc w1.heap.size [.int .i8 (IntKind.i8.wrap (vb.toNat : Int)), .int .i64 v1, .int .i64 v2, .int .i64 v3, .int .i64 v4, .int .i64 v5, .int .i64 v6, .bool vt, .slice b0 es.length d0, .int .i64 0, .int .i64 0, .int .u8 0, .slice none 0 0, .slice none 0 0]) := Lib.hid HL.out.box
  rw [hev] at HX0
  have HX := HX0
  have HS := Lib.hid HL.out.rs
  have HK := Lib.hid (Keep.trans HK2.out (HL.out.turn.up2 (by have := HQ0.out; omega) (by have := HSZ.out; omega)))
  have HE : Hid (MemEs wl0 wc b0 vE es) := Lib.hid ⟨hvE.symm, ⟨HL.out.can.row, fun _ b o s e => (HL.out.far b o s e).1⟩, fun y hy => (HM.out y hy).mem⟩
  have HLE : Hid (vE.length ≤ d0) := Lib.hid (by rw [← hev]; exact HL.out.can.le)
  have HC2 := Lib.hid (Link.next (F := fun vE l p => bindP (numP l p) fun v9 p => bindP (numP l p) fun v10 p => bindP (smallP l p) fun vs p => bindP (bytesP l p) fun u1 p => bindP (bytesP l p) fun u2 p => .ok ((⟨(kindI vb), v1, v2, v3, v4, v5, v6, vt, vE, v9, v10, vs, u1, u2⟩ : WMsg), p)) HC.out (Link.bind (F := fun n l p => timesP wEntP n l p) HLC.out HLK.out))
  have HWL := Lib.hid HL.out.turn.size
  clear HC
  have HC : Hid (∀ y st', Link (fun l p => bindP (numP l p) fun a q => (fun v9 l p => bindP (numP l p) fun v10 p => bindP (smallP l p) fun vs p => bindP (bytesP l p) fun u1 p => bindP (bytesP l p) fun u2 p => .ok ((⟨(kindI vb), v1, v2, v3, v4, v5, v6, vt, vE, v9, v10, vs, u1, u2⟩ : WMsg), p)) a l q) bs st8 y st' → Link wMsgP bs (.ok 0) y st') := HC2
  clear HL HLK HLR HX2 HK2 HS2 HLC HC2 HKK HM HX0 hvE hev
  generalize wc = wb at HX HS HK HE HWL ⊢
  go_upto_region 29 with (go_at_call 55; ((with_reducible refine (number_rr _ c a bs _ wb (by omega) HS.out).mono ?_); rintro e w2 ⟨ht, v9, st9, hk, hs, rfl⟩; have hx2 := HX.out.turn ht (by simp) HXO.out.ne; have yc := hx2.cell (j := 9) rfl; have yz := hx2.froz (j := 9) (by simp); have HX2 := Lib.hid hx2; have HET := Lib.hid (HE.out.turn ht (by have := HQ0.out; omega) (by have := HQ0.out; omega)); have HT2 := Lib.hid ht; have HS2 := Lib.hid hs; have HC2 := Lib.hid (Link.next (F := fun v9 l p => bindP (numP l p) fun v10 p => bindP (smallP l p) fun vs p => bindP (bytesP l p) fun u1 p => bindP (bytesP l p) fun u2 p => .ok ((⟨(kindI vb), v1, v2, v3, v4, v5, v6, vt, vE, v9, v10, vs, u1, u2⟩ : WMsg), p)) HC.out (hk)); clear ht hs hk hx2))
  clear yc yz HC
  have HC : Hid (∀ y st', Link (fun l p => bindP (numP l p) fun a q => (fun v10 l p => bindP (smallP l p) fun vs p => bindP (bytesP l p) fun u1 p => bindP (bytesP l p) fun u2 p => .ok ((⟨(kindI vb), v1, v2, v3, v4, v5, v6, vt, vE, v9, v10, vs, u1, u2⟩ : WMsg), p)) a l q) bs st9 y st' → Link wMsgP bs (.ok 0) y st') := HC2
  have HX3 : Hid (Box _ w1.heap.size [.int .i8 (IntKind.i8.wrap (vb.toNat : Int)), .int .i64 v1, .int .i64 v2, .int .i64 v3, .int .i64 v4, .int .i64 v5, .int .i64 v6, .bool vt, .slice b0 vE.length d0, .int .i64 v9, .int .i64 0, .int .u8 0, .slice none 0 0, .slice none 0 0]) := Lib.hid (HX2.out.set (i := 9) (by simp) (.int .i64 v9))
  have HS3 := Lib.hid (HS2.out.put HXO.out (i := 9) (v := .int .i64 v9))
  have HK3 := Lib.hid ((Keep.trans HK.out (HT2.out.up (by have := HS.out.lt; omega))).set ⟨w1.heap.size, 9, none⟩ (.int .i64 v9) (by show w.heap.size < w1.heap.size; have := HSZ.out; omega))
  have HE3 := Lib.hid (HET.out.keep ((Keep.refl (fun k => k = w1.heap.size) w2).set ⟨w1.heap.size, 9, none⟩ (.int .i64 v9) rfl) (fun k e => by have := HQ0.out; omega))
  have HW3 := Lib.hid (show wl0.heap.size ≤ (w2.setCell ⟨w1.heap.size, 9, none⟩ (.int .i64 v9)).heap.size by have := HT2.out.size; have := HWL.out; simp; omega)
  clear HX HS HK HC2 HX2 HT2 HS2 HE HET HWL
  have HX := HX3
  have HS := HS3
  have HK := HK3
  have HE := HE3
  have HWL := HW3
  clear HX3 HS3 HK3 HE3 HW3
  generalize w2.setCell ⟨w1.heap.size, 9, none⟩ (.int .i64 v9) = wb at HX HS HK HE HWL ⊢
  go_upto_region 31 with (go_at_call 55; ((with_reducible refine (number_rr _ c a bs _ wb (by omega) HS.out).mono ?_); rintro e w2 ⟨ht, v10, st10, hk, hs, rfl⟩; have hx2 := HX.out.turn ht (by simp) HXO.out.ne; have yc := hx2.cell (j := 10) rfl; have yz := hx2.froz (j := 10) (by simp); have HX2 := Lib.hid hx2; have HET := Lib.hid (HE.out.turn ht (by have := HQ0.out; omega) (by have := HQ0.out; omega)); have HT2 := Lib.hid ht; have HS2 := Lib.hid hs; have HC2 := Lib.hid (Link.next (F := fun v10 l p => bindP (smallP l p) fun vs p => bindP (bytesP l p) fun u1 p => bindP (bytesP l p) fun u2 p => .ok ((⟨(kindI vb), v1, v2, v3, v4, v5, v6, vt, vE, v9, v10, vs, u1, u2⟩ : WMsg), p)) HC.out (hk)); clear ht hs hk hx2))
  clear yc yz HC
  have HC : Hid (∀ y st', Link (fun l p => bindP (smallP l p) fun a q => (fun vs l p => bindP (bytesP l p) fun u1 p => bindP (bytesP l p) fun u2 p => .ok ((⟨(kindI vb), v1, v2, v3, v4, v5, v6, vt, vE, v9, v10, vs, u1, u2⟩ : WMsg), p)) a l q) bs st10 y st' → Link wMsgP bs (.ok 0) y st') := HC2
  have HX3 : Hid (Box _ w1.heap.size [.int .i8 (IntKind.i8.wrap (vb.toNat : Int)), .int .i64 v1, .int .i64 v2, .int .i64 v3, .int .i64 v4, .int .i64 v5, .int .i64 v6, .bool vt, .slice b0 vE.length d0, .int .i64 v9, .int .i64 v10, .int .u8 0, .slice none 0 0, .slice none 0 0]) := Lib.hid (HX2.out.set (i := 10) (by simp) (.int .i64 v10))
  have HS3 := Lib.hid (HS2.out.put HXO.out (i := 10) (v := .int .i64 v10))
  have HK3 := Lib.hid ((Keep.trans HK.out (HT2.out.up (by have := HS.out.lt; omega))).set ⟨w1.heap.size, 10, none⟩ (.int .i64 v10) (by show w.heap.size < w1.heap.size; have := HSZ.out; omega))
  have HE3 := Lib.hid (HET.out.keep ((Keep.refl (fun k => k = w1.heap.size) w2).set ⟨w1.heap.size, 10, none⟩ (.int .i64 v10) rfl) (fun k e => by have := HQ0.out; omega))
  have HW3 := Lib.hid (show wl0.heap.size ≤ (w2.setCell ⟨w1.heap.size, 10, none⟩ (.int .i64 v10)).heap.size by have := HT2.out.size; have := HWL.out; simp; omega)
  clear HX HS HK HC2 HX2 HT2 HS2 HE HET HWL
  have HX := HX3
  have HS := HS3
  have HK := HK3
  have HE := HE3
  have HWL := HW3
  clear HX3 HS3 HK3 HE3 HW3
  generalize w2.setCell ⟨w1.heap.size, 10, none⟩ (.int .i64 v10) = wb at HX HS HK HE HWL ⊢
  go_upto_region 33 with (go_at_call 54; ((with_reducible refine (small_rr _ c a bs _ wb (by omega) HS.out).mono ?_); rintro e w2 ⟨ht, vs, st11, hk, hs, rfl⟩; have hx2 := HX.out.turn ht (by simp) HXO.out.ne; have yc := hx2.cell (j := 11) rfl; have yz := hx2.froz (j := 11) (by simp); have HX2 := Lib.hid hx2; have HET := Lib.hid (HE.out.turn ht (by have := HQ0.out; omega) (by have := HQ0.out; omega)); have HT2 := Lib.hid ht; have HS2 := Lib.hid hs; have HC2 := Lib.hid (Link.next (F := fun vs l p => bindP (bytesP l p) fun u1 p => bindP (bytesP l p) fun u2 p => .ok ((⟨(kindI vb), v1, v2, v3, v4, v5, v6, vt, vE, v9, v10, vs, u1, u2⟩ : WMsg), p)) HC.out (hk)); clear ht hs hk hx2))
  clear yc yz HC
  have HC : Hid (∀ y st', Link (fun l p => bindP (bytesP l p) fun a q => (fun u1 l p => bindP (bytesP l p) fun u2 p => .ok ((⟨(kindI vb), v1, v2, v3, v4, v5, v6, vt, vE, v9, v10, vs, u1, u2⟩ : WMsg), p)) a l q) bs st11 y st' → Link wMsgP bs (.ok 0) y st') := HC2
  have HX3 : Hid (Box _ w1.heap.size [.int .i8 (IntKind.i8.wrap (vb.toNat : Int)), .int .i64 v1, .int .i64 v2, .int .i64 v3, .int .i64 v4, .int .i64 v5, .int .i64 v6, .bool vt, .slice b0 vE.length d0, .int .i64 v9, .int .i64 v10, B vs, .slice none 0 0, .slice none 0 0]) := Lib.hid (HX2.out.set (i := 11) (by simp) (B vs))
  have HS3 := Lib.hid (HS2.out.put HXO.out (i := 11) (v := B vs))
  have HK3 := Lib.hid ((Keep.trans HK.out (HT2.out.up (by have := HS.out.lt; omega))).set ⟨w1.heap.size, 11, none⟩ (B vs) (by show w.heap.size < w1.heap.size; have := HSZ.out; omega))
  have HE3 := Lib.hid (HET.out.keep ((Keep.refl (fun k => k = w1.heap.size) w2).set ⟨w1.heap.size, 11, none⟩ (B vs) rfl) (fun k e => by have := HQ0.out; omega))
  have HW3 := Lib.hid (show wl0.heap.size ≤ (w2.setCell ⟨w1.heap.size, 11, none⟩ (B vs)).heap.size by have := HT2.out.size; have := HWL.out; simp; omega)
  clear HX HS HK HC2 HX2 HT2 HS2 HE HET HWL
  have HX := HX3
  have HS := HS3
  have HK := HK3
  have HE := HE3
  have HWL := HW3
  clear HX3 HS3 HK3 HE3 HW3
  generalize w2.setCell ⟨w1.heap.size, 11, none⟩ (B vs) = wb at HX HS HK HE HWL ⊢
  go_upto_region 35 with (go_at_call 72; ((with_reducible refine (bytes_rr _ c a bs _ wb (by omega) HS.out HS.out.lt).mono ?_); rintro e w2 ⟨ht, u1, st12, hk, hs, ⟨ad1, k1, rfl, hd, hk1⟩⟩; have hx2 := HX.out.turn ht (by simp) HXO.out.ne; have yc := hx2.cell (j := 12) rfl; have yz := hx2.froz (j := 12) (by simp); have HX2 := Lib.hid hx2; have HET := Lib.hid (HE.out.turn ht (by have := HQ0.out; omega) (by have := HQ0.out; omega)); have HT2 := Lib.hid ht; have HS2 := Lib.hid hs; have HC2 := Lib.hid (Link.next (F := fun u1 l p => bindP (bytesP l p) fun u2 p => .ok ((⟨(kindI vb), v1, v2, v3, v4, v5, v6, vt, vE, v9, v10, vs, u1, u2⟩ : WMsg), p)) HC.out (hk)); have HD1T := Lib.hid (hd.mono HWL.out); have HK1 := Lib.hid hk1; clear hd hk1; clear ht hs hk hx2))
  clear yc yz HC
  have HC : Hid (∀ y st', Link (fun l p => bindP (bytesP l p) fun a q => (fun u2 l p => .ok ((⟨(kindI vb), v1, v2, v3, v4, v5, v6, vt, vE, v9, v10, vs, u1, u2⟩ : WMsg), p)) a l q) bs st12 y st' → Link wMsgP bs (.ok 0) y st') := HC2
  have HX3 : Hid (Box _ w1.heap.size [.int .i8 (IntKind.i8.wrap (vb.toNat : Int)), .int .i64 v1, .int .i64 v2, .int .i64 v3, .int .i64 v4, .int .i64 v5, .int .i64 v6, .bool vt, .slice b0 vE.length d0, .int .i64 v9, .int .i64 v10, B vs, .slice ad1 u1.length k1, .slice none 0 0]) := Lib.hid (HX2.out.set (i := 12) (by simp) (.slice ad1 u1.length k1))
  have HS3 := Lib.hid (HS2.out.put HXO.out (i := 12) (v := .slice ad1 u1.length k1))
  have HK3 := Lib.hid ((Keep.trans HK.out (HT2.out.up (by have := HS.out.lt; omega))).set ⟨w1.heap.size, 12, none⟩ (.slice ad1 u1.length k1) (by show w.heap.size < w1.heap.size; have := HSZ.out; omega))
  have HE3 := Lib.hid (HET.out.keep ((Keep.refl (fun k => k = w1.heap.size) w2).set ⟨w1.heap.size, 12, none⟩ (.slice ad1 u1.length k1) rfl) (fun k e => by have := HQ0.out; omega))
  have HD13 := Lib.hid (HD1T.out.keep ((Keep.refl (fun k => k = w1.heap.size) w2).set ⟨w1.heap.size, 12, none⟩ (.slice ad1 u1.length k1) rfl) (fun k e => by have := HQ0.out; omega))
  have HW3 := Lib.hid (show wl0.heap.size ≤ (w2.setCell ⟨w1.heap.size, 12, none⟩ (.slice ad1 u1.length k1)).heap.size by have := HT2.out.size; have := HWL.out; simp; omega)
  clear HX HS HK HC2 HX2 HT2 HS2 HE HET HD1T HWL
  have HX := HX3
  have HS := HS3
  have HK := HK3
  have HE := HE3
  have HD1 := HD13
  have HWL := HW3
  clear HX3 HS3 HK3 HE3 HD13 HW3
  generalize w2.setCell ⟨w1.heap.size, 12, none⟩ (.slice ad1 u1.length k1) = wb at HX HS HK HE HD1 HWL ⊢
  go_upto_region 37 with (go_at_call 72; ((with_reducible refine (bytes_rr _ c a bs _ wb (by omega) HS.out HS.out.lt).mono ?_); rintro e w2 ⟨ht, u2, st13, hk, hs, ⟨ad2, k2, rfl, hd, hk1⟩⟩; have hx2 := HX.out.turn ht (by simp) HXO.out.ne; have yc := hx2.cell (j := 13) rfl; have yz := hx2.froz (j := 13) (by simp); have HX2 := Lib.hid hx2; have HET := Lib.hid (HE.out.turn ht (by have := HQ0.out; omega) (by have := HQ0.out; omega)); have HD1T := Lib.hid (HD1.out.turn ht (by have := HQ0.out; omega) (by have := HQ0.out; omega)); have HT2 := Lib.hid ht; have HS2 := Lib.hid hs; have HC2 := Lib.hid (Link.next (F := fun u2 l p => .ok ((⟨(kindI vb), v1, v2, v3, v4, v5, v6, vt, vE, v9, v10, vs, u1, u2⟩ : WMsg), p)) HC.out (hk)); have HD2T := Lib.hid (hd.mono HWL.out); have HK2 := Lib.hid hk1; clear hd hk1; clear ht hs hk hx2))
  clear yc yz HC
  have HC : Hid (∀ y st', Link (fun _ p => .ok ((⟨(kindI vb), v1, v2, v3, v4, v5, v6, vt, vE, v9, v10, vs, u1, u2⟩ : WMsg), p)) bs st13 y st' → Link wMsgP bs (.ok 0) y st') := HC2
  have HX3 : Hid (Box _ w1.heap.size [.int .i8 (IntKind.i8.wrap (vb.toNat : Int)), .int .i64 v1, .int .i64 v2, .int .i64 v3, .int .i64 v4, .int .i64 v5, .int .i64 v6, .bool vt, .slice b0 vE.length d0, .int .i64 v9, .int .i64 v10, B vs, .slice ad1 u1.length k1, .slice ad2 u2.length k2]) := Lib.hid (HX2.out.set (i := 13) (by simp) (.slice ad2 u2.length k2))
  have HS3 := Lib.hid (HS2.out.put HXO.out (i := 13) (v := .slice ad2 u2.length k2))
  have HK3 := Lib.hid ((Keep.trans HK.out (HT2.out.up (by have := HS.out.lt; omega))).set ⟨w1.heap.size, 13, none⟩ (.slice ad2 u2.length k2) (by show w.heap.size < w1.heap.size; have := HSZ.out; omega))
  have HE3 := Lib.hid (HET.out.keep ((Keep.refl (fun k => k = w1.heap.size) w2).set ⟨w1.heap.size, 13, none⟩ (.slice ad2 u2.length k2) rfl) (fun k e => by have := HQ0.out; omega))
  have HD13 := Lib.hid (HD1T.out.keep ((Keep.refl (fun k => k = w1.heap.size) w2).set ⟨w1.heap.size, 13, none⟩ (.slice ad2 u2.length k2) rfl) (fun k e => by have := HQ0.out; omega))
  have HD23 := Lib.hid (HD2T.out.keep ((Keep.refl (fun k => k = w1.heap.size) w2).set ⟨w1.heap.size, 13, none⟩ (.slice ad2 u2.length k2) rfl) (fun k e => by have := HQ0.out; omega))
  have HW3 := Lib.hid (show wl0.heap.size ≤ (w2.setCell ⟨w1.heap.size, 13, none⟩ (.slice ad2 u2.length k2)).heap.size by have := HT2.out.size; have := HWL.out; simp; omega)
  clear HX HS HK HC2 HX2 HT2 HS2 HE HD1 HET HD1T HD2T HWL
  have HX := HX3
  have HS := HS3
  have HK := HK3
  have HE := HE3
  have HD1 := HD13
  have HD2 := HD23
  have HWL := HW3
  clear HX3 HS3 HK3 HE3 HD13 HD23 HW3
  generalize w2.setCell ⟨w1.heap.size, 13, none⟩ (.slice ad2 u2.length k2) = wb at HX HS HK HE HD1 HD2 HWL ⊢
  have HEND := Lib.hid (end_any _ c a bs st13 wb (by omega) HS.out)
  have HCF := Lib.hid (HC.out _ _ (Link.pure _ bs st13))
  go_wp2_with (go_at_call 48; ((with_reducible refine HEND.out.mono ?_); rintro e w9 ⟨ht, ⟨f, rfl, he⟩ | ⟨rfl, p, he, hp⟩⟩ <;> have HKE := Lib.hid (Keep.trans HK.out (ht.up (by have := HS.out.lt; omega))) <;> have HRE := Lib.hid (HRB.out.keep (by simp) HKE.out (by omega)) <;> have HXB := Lib.hid (HX.out.turn ht (by simp) HXO.out.ne) <;> have HEQ := Lib.hid he <;> have HEE := Lib.hid (HE.out.turn ht (by have := HQ0.out; omega) (by have := HQ0.out; omega)) <;> have HD1E := Lib.hid (HD1.out.turn ht (by have := HQ0.out; omega) (by have := HQ0.out; omega)) <;> have HD2E := Lib.hid (HD2.out.turn ht (by have := HQ0.out; omega) (by have := HQ0.out; omega)) <;> clear ht he <;> (have r0 := HRE.out.cell (j := 0) rfl; have rz0 := HRE.out.froz (j := 0) (by simp); have y0c := HXB.out.cell (j := 0) rfl; have r1 := HRE.out.cell (j := 1) rfl; have rz1 := HRE.out.froz (j := 1) (by simp); have y1c := HXB.out.cell (j := 1) rfl; have r2 := HRE.out.cell (j := 2) rfl; have rz2 := HRE.out.froz (j := 2) (by simp); have y2c := HXB.out.cell (j := 2) rfl; have r3 := HRE.out.cell (j := 3) rfl; have rz3 := HRE.out.froz (j := 3) (by simp); have y3c := HXB.out.cell (j := 3) rfl; have r4 := HRE.out.cell (j := 4) rfl; have rz4 := HRE.out.froz (j := 4) (by simp); have y4c := HXB.out.cell (j := 4) rfl; have r5 := HRE.out.cell (j := 5) rfl; have rz5 := HRE.out.froz (j := 5) (by simp); have y5c := HXB.out.cell (j := 5) rfl; have r6 := HRE.out.cell (j := 6) rfl; have rz6 := HRE.out.froz (j := 6) (by simp); have y6c := HXB.out.cell (j := 6) rfl; have r7 := HRE.out.cell (j := 7) rfl; have rz7 := HRE.out.froz (j := 7) (by simp); have y7c := HXB.out.cell (j := 7) rfl; have r8 := HRE.out.cell (j := 8) rfl; have rz8 := HRE.out.froz (j := 8) (by simp); have y8c := HXB.out.cell (j := 8) rfl; have r9 := HRE.out.cell (j := 9) rfl; have rz9 := HRE.out.froz (j := 9) (by simp); have y9c := HXB.out.cell (j := 9) rfl; have r10 := HRE.out.cell (j := 10) rfl; have rz10 := HRE.out.froz (j := 10) (by simp); have y10c := HXB.out.cell (j := 10) rfl; have r11 := HRE.out.cell (j := 11) rfl; have rz11 := HRE.out.froz (j := 11) (by simp); have y11c := HXB.out.cell (j := 11) rfl; have r12 := HRE.out.cell (j := 12) rfl; have rz12 := HRE.out.froz (j := 12) (by simp); have y12c := HXB.out.cell (j := 12) rfl; have r13 := HRE.out.cell (j := 13) rfl; have rz13 := HRE.out.froz (j := 13) (by simp); have y13c := HXB.out.cell (j := 13) rfl)))
  · rw [read_bad (z := zMsg) HCF.out hl HEQ.out]
    obtain ⟨w4, hw4⟩ : ∃ w4, w4 = w9.setCells w.heap.size 0 [.int .i8 0, .int .i64 0, .int .i64 0, .int .i64 0, .int .i64 0, .int .i64 0, .int .i64 0, .bool false, .slice none 0 0, .int .i64 0, .int .i64 0, .int .u8 0, .slice none 0 0, .slice none 0 0] := ⟨_, rfl⟩
    have hk4 : Keep (fun k => k = w.heap.size) w9 w4 := by rw [hw4]; exact Keep.sets (S := fun k => k = w.heap.size) rfl _ 0 (Keep.refl _ _)
    have hX4 : Box w4 w.heap.size [.int .i8 0, .int .i64 0, .int .i64 0, .int .i64 0, .int .i64 0, .int .i64 0, .int .i64 0, .bool false, .slice none 0 0, .int .i64 0, .int .i64 0, .int .u8 0, .slice none 0 0, .slice none 0 0] := by rw [hw4]; exact HRE.out.whole rfl
    show bodyPost _ _ _ _ _ (w9.setCells w.heap.size 0 [.int .i8 0, .int .i64 0, .int .i64 0, .int .i64 0, .int .i64 0, .int .i64 0, .int .i64 0, .bool false, .slice none 0 0, .int .i64 0, .int .i64 0, .int .u8 0, .slice none 0 0, .slice none 0 0])
    rw [← hw4]
    have cc0 := hX4.cell (j := 0) rfl
    have cc1 := hX4.cell (j := 1) rfl
    have cc2 := hX4.cell (j := 2) rfl
    have cc3 := hX4.cell (j := 3) rfl
    have cc4 := hX4.cell (j := 4) rfl
    have cc5 := hX4.cell (j := 5) rfl
    have cc6 := hX4.cell (j := 6) rfl
    have cc7 := hX4.cell (j := 7) rfl
    have cc8 := hX4.cell (j := 8) rfl
    have cc9 := hX4.cell (j := 9) rfl
    have cc10 := hX4.cell (j := 10) rfl
    have cc11 := hX4.cell (j := 11) rfl
    have cc12 := hX4.cell (j := 12) rfl
    have cc13 := hX4.cell (j := 13) rfl
    refine bodyPost_ret (v := .tuple #[.agg #[.int .i8 0, .int .i64 0, .int .i64 0, .int .i64 0, .int .i64 0, .int .i64 0, .int .i64 0, .bool false, .slice none 0 0, .int .i64 0, .int .i64 0, .int .u8 0, .slice none 0 0, .slice none 0 0], .int .i64 f, .int .i64 50]) (by simp [results, Try.results36, go_sem, cc0, cc1, cc2, cc3, cc4, cc5, cc6, cc7, cc8, cc9, cc10, cc11, cc12, cc13]) rfl ⟨pzMsg, rfl, memzMsg _ _, ?_⟩
    exact HBB.out.trans (((HKE.out.mono (S' := fun k => w.heap.size ≤ k) (fun k _ e => by omega)).trans (hk4.mono (S' := fun k => w.heap.size ≤ k) (fun k _ e => by omega))).bel HBB.out.size (fun k e => e))
  · obtain ⟨rfl, hnl⟩ := And.intro HEQ.out hp
    rw [read_ok (z := zMsg) HCF.out hl hnl, kind_wrap]
    obtain ⟨w4, hw4⟩ : ∃ w4, w4 = w9.setCells w.heap.size 0 [.int .i8 (kindI vb), .int .i64 v1, .int .i64 v2, .int .i64 v3, .int .i64 v4, .int .i64 v5, .int .i64 v6, .bool vt, .slice b0 vE.length d0, .int .i64 v9, .int .i64 v10, B vs, .slice ad1 u1.length k1, .slice ad2 u2.length k2] := ⟨_, rfl⟩
    have hk4 : Keep (fun k => k = w.heap.size) w9 w4 := by rw [hw4]; exact Keep.sets (S := fun k => k = w.heap.size) rfl _ 0 (Keep.refl _ _)
    have hX4 : Box w4 w.heap.size [.int .i8 (kindI vb), .int .i64 v1, .int .i64 v2, .int .i64 v3, .int .i64 v4, .int .i64 v5, .int .i64 v6, .bool vt, .slice b0 vE.length d0, .int .i64 v9, .int .i64 v10, B vs, .slice ad1 u1.length k1, .slice ad2 u2.length k2] := by rw [hw4]; exact HRE.out.whole rfl
    show bodyPost _ _ _ _ _ (w9.setCells w.heap.size 0 [.int .i8 (kindI vb), .int .i64 v1, .int .i64 v2, .int .i64 v3, .int .i64 v4, .int .i64 v5, .int .i64 v6, .bool vt, .slice b0 vE.length d0, .int .i64 v9, .int .i64 v10, B vs, .slice ad1 u1.length k1, .slice ad2 u2.length k2])
    rw [← hw4]
    have cc0 := hX4.cell (j := 0) rfl
    have cc1 := hX4.cell (j := 1) rfl
    have cc2 := hX4.cell (j := 2) rfl
    have cc3 := hX4.cell (j := 3) rfl
    have cc4 := hX4.cell (j := 4) rfl
    have cc5 := hX4.cell (j := 5) rfl
    have cc6 := hX4.cell (j := 6) rfl
    have cc7 := hX4.cell (j := 7) rfl
    have cc8 := hX4.cell (j := 8) rfl
    have cc9 := hX4.cell (j := 9) rfl
    have cc10 := hX4.cell (j := 10) rfl
    have cc11 := hX4.cell (j := 11) rfl
    have cc12 := hX4.cell (j := 12) rfl
    have cc13 := hX4.cell (j := 13) rfl
    refine bodyPost_ret (v := .tuple #[.agg #[.int .i8 (kindI vb), .int .i64 v1, .int .i64 v2, .int .i64 v3, .int .i64 v4, .int .i64 v5, .int .i64 v6, .bool vt, .slice b0 vE.length d0, .int .i64 v9, .int .i64 v10, B vs, .slice ad1 u1.length k1, .slice ad2 u2.length k2], .int .i64 0, .int .i64 0]) (by simp [results, Try.results36, go_sem, cc0, cc1, cc2, cc3, cc4, cc5, cc6, cc7, cc8, cc9, cc10, cc11, cc12, cc13]) rfl ⟨(b0, d0, ad1, k1, ad2, k2), rfl, ⟨⟨es, (HEE.out.keep hk4 (fun k e => by have := HQ0.out; omega)).mono (by have := HQ0.out; omega)⟩, HLE.out, (HD1E.out.keep hk4 (fun k e => by have := HQ0.out; omega)).mono (by have := HQ0.out; omega), HK1.out, (HD2E.out.keep hk4 (fun k e => by have := HQ0.out; omega)).mono (by have := HQ0.out; omega), HK2.out⟩, ?_⟩
    exact HBB.out.trans (((HKE.out.mono (S' := fun k => w.heap.size ≤ k) (fun k _ e => by omega)).trans (hk4.mono (S' := fun k => w.heap.size ≤ k) (fun k _ e => by omega))).bel HBB.out.size (fun k e => e))
end Go.Proofs.Ytlckgnemmffdkaa
