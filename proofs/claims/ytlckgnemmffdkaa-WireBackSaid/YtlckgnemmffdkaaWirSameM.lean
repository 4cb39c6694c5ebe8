import Derived.Test.YtlckgnemmffdkaaPackWireMessage3
import Derived.Test.YtlckgnemmffdkaaWirSameSt
import Derived.Test.YtlckgnemmffdkaaWirMsg
set_option linter.unusedVariables false
set_option linter.unusedSimpArgs false
/- The same entries, the same messages. (printed by gen_wirsamem.py) -/
namespace Go.Proofs.Ytlckgnemmffdkaa
open Go.ChangeShapes Go.WideShapes Go.ChangeAt Go.RowKit
set_option maxRecDepth 100000

/-- Rows of entries, each one's bytes. -/
structure RowEs (w : World) (a : Option Addr) (es : List (WEnt × PEnt)) : Prop where
  row : Row w a (es.flatMap cellsEn)
  each : ∀ y ∈ es, RowB w y.2.1 y.1.data
theorem RowEs.below {w w' : World} {a : Option Addr} {es : List (WEnt × PEnt)} (h : RowEs w a es) (hb : Below w.heap.size w w') : RowEs w' a es := ⟨h.row.below hb, fun y hy => (h.each y hy).below hb⟩
set_option maxHeartbeats 8000000 in
theorem same_entries (es fs : List (WEnt × PEnt)) (p q : Option Addr) (n c d : Nat) (w : World) (hm : es.map Prod.fst = fs.map Prod.fst) (hn : es.length = n) (he : RowEs w p es) (hf : RowEs w q fs) (hl : n ≤ 1000000) :
    Calls Try.prog 75 #[.slice p n c, .slice q n d] w (fun e w' => e = .returned (.bool true) ∧ Below w.heap.size w w') := by
  have hnf : fs.length = n := by rw [← hn, ← List.length_map Prod.fst, ← hm, List.length_map]
  have HN := Lib.hid (And.intro hn (And.intro hnf hm))
  have HE := Lib.hid he
  have HFS := Lib.hid hf
  clear hn hnf hm he hf
  go_enter Try.func75, Try.ntmps75
  go_wp2
  go_loopw [5] (fun i wr => ∃ k : Nat, k ≤ n ∧ i = .int .i64 k ∧ Hid (Below w.heap.size w wr)) (fun i _ => n - (intOf i).toNat)
  case atStart => exact ⟨0, by omega, rfl, Below.refl _ _⟩
  case round =>
    obtain ⟨k, hk, rfl, HB⟩ := hrel
    by_cases hlt : k < n
    · have h1 : k < es.length := by rw [HN.out.1]; exact hlt
      have h2 : k < fs.length := by rw [HN.out.2.1]; exact hlt
      have hfst : (es[k]'h1).1 = (fs[k]'h2).1 := by
        have h3 := congrArg (fun l => l[k]?) HN.out.2.2
        simp only [List.getElem?_map, List.getElem?_eq_getElem h1, List.getElem?_eq_getElem h2, Option.map_some, Option.some.injEq] at h3
        exact h3
      obtain ⟨b, o, rfl, hc⟩ := rows_at (cells := cellsEn) (size := 5) (fun _ => rfl) (HE.out.row.below HB.out) h1 (by decide)
      obtain ⟨b2, o2, rfl, hc2⟩ := rows_at (cells := cellsEn) (size := 5) (fun _ => rfl) (HFS.out.row.below HB.out) h2 (by decide)
      have he1 := (HE.out.each _ (List.getElem_mem h1)).below HB.out
      have he2 := (HFS.out.each _ (List.getElem_mem h2)).below HB.out
      generalize es[k]'h1 = x at hc he1 hfst
      generalize fs[k]'h2 = y at hc2 he2 hfst
      obtain ⟨⟨v0, v1, v2, v3, v4⟩, ⟨r0, r1⟩⟩ := x
      obtain ⟨z, ⟨s0, s1⟩⟩ := y
      simp only at hfst
      subst hfst
      have HSE := Lib.hid (fun W (hb : Below wr.heap.size wr W) => same_entry ⟨v0, v1, v2, v3, v4⟩ (r0, r1) (s0, s1) W (he1.below hb) (he2.below hb))
      unfold valEnt at HSE
      simp only at HSE
      clear h1 h2 he1 he2
      have a0 := hc 0 (by decide)
      rw [show (cellsEn ((⟨v0, v1, v2, v3, v4⟩, (r0, r1)) : EntP))[0]? = some (.int .i64 v0) from rfl] at a0
      have a1 := hc 1 (by decide)
      rw [show (cellsEn ((⟨v0, v1, v2, v3, v4⟩, (r0, r1)) : EntP))[1]? = some (.int .i8 v1) from rfl] at a1
      have a2 := hc 2 (by decide)
      rw [show (cellsEn ((⟨v0, v1, v2, v3, v4⟩, (r0, r1)) : EntP))[2]? = some (.int .i64 v2) from rfl] at a2
      have a3 := hc 3 (by decide)
      rw [show (cellsEn ((⟨v0, v1, v2, v3, v4⟩, (r0, r1)) : EntP))[3]? = some (B v3) from rfl] at a3
      have a4 := hc 4 (by decide)
      rw [show (cellsEn ((⟨v0, v1, v2, v3, v4⟩, (r0, r1)) : EntP))[4]? = some (.slice r0 v4.length r1) from rfl] at a4
      simp only [Nat.add_zero] at a0
      have c0 := hc2 0 (by decide)
      rw [show (cellsEn ((⟨v0, v1, v2, v3, v4⟩, (s0, s1)) : EntP))[0]? = some (.int .i64 v0) from rfl] at c0
      have c1 := hc2 1 (by decide)
      rw [show (cellsEn ((⟨v0, v1, v2, v3, v4⟩, (s0, s1)) : EntP))[1]? = some (.int .i8 v1) from rfl] at c1
      have c2 := hc2 2 (by decide)
      rw [show (cellsEn ((⟨v0, v1, v2, v3, v4⟩, (s0, s1)) : EntP))[2]? = some (.int .i64 v2) from rfl] at c2
      have c3 := hc2 3 (by decide)
      rw [show (cellsEn ((⟨v0, v1, v2, v3, v4⟩, (s0, s1)) : EntP))[3]? = some (B v3) from rfl] at c3
      have c4 := hc2 4 (by decide)
      rw [show (cellsEn ((⟨v0, v1, v2, v3, v4⟩, (s0, s1)) : EntP))[4]? = some (.slice s0 v4.length s1) from rfl] at c4
      simp only [Nat.add_zero] at c0
      clear hc hc2
      have hd : decide (k < n) = true := decide_eq_true hlt
      go_upto_region 6 with (fail)
      go_still_tail 8, (by kernel_rfl)
      have hbd : Below wr.heap.size wr wr.drew := (Below.refl _ _).drew
      have HBD := Lib.hid hbd
      clear hbd a0 a1 a2 a3 a4 c0 c1 c2 c3 c4
      go_wp2_with (go_at_call 18; ((with_reducible refine (HSE.out _ HBD.out).mono ?_); rintro e w2 ⟨rfl, hb⟩; have HB2 := Lib.hid (hb.mono HBD.out.size); clear hb))
      exact ⟨⟨k + 1, by omega, by go_num, (by show Below _ _ _; exact HB.out.trans ((HBD.out.trans HB2.out).mono HB.out.size))⟩, by simp [intOf]; omega⟩
    · obtain rfl : k = n := by omega
      have hd : decide (k < k) = false := decide_eq_false (by omega)
      go_wp2
      go_ret
      exact ⟨rfl, HB.out⟩
/-- A message's rows, wherever. -/
structure RowMsg (w : World) (v : WMsg) (p : PMsg) : Prop where
  ents : ∃ es : List (WEnt × PEnt), es.map Prod.fst = v.entries ∧ RowEs w p.1 es
  row1 : RowB w p.2.2.1 v.sdata
  row2 : RowB w p.2.2.2.2.1 v.data
theorem RowMsg.below {w w' : World} {v : WMsg} {p : PMsg} (h : RowMsg w v p) (hb : Below w.heap.size w w') : RowMsg w' v p := ⟨h.ents.imp fun _ e => ⟨e.1, e.2.below hb⟩, h.row1.below hb, h.row2.below hb⟩
theorem MemMsg.rows {W w : World} {v : WMsg} {p : PMsg} (h : MemMsg W w v p) : RowMsg w v p := ⟨h.ents.imp fun _ e => ⟨e.vals, e.row.row, fun y hy => (e.each y hy).row.row⟩, h.row1.row, h.row2.row⟩
set_option maxHeartbeats 8000000 in
theorem same_message (v : WMsg) (p q : PMsg) (w : World) (hp : RowMsg w v p) (hq : RowMsg w v q) (hl : v.entries.length ≤ 1000000) :
    Calls Try.prog 39 #[valMsg v p, valMsg v q] w (fun e w' => e = .returned (.bool true) ∧ Below w.heap.size w w') := by
  obtain ⟨kind, src, dst, term, index, last, commit, ok, entries, sindex, sterm, sset, sdata, data⟩ := v
  obtain ⟨p0, p1, p2, p3, p4, p5⟩ := p
  obtain ⟨q0, q1, q2, q3, q4, q5⟩ := q
  simp only at hl
  have hB : ∀ n : Nat, Below w.heap.size w ((w.alloc (.cells #[.int .i8 kind, .int .i64 src, .int .i64 dst, .int .i64 term, .int .i64 index, .int .i64 last, .int .i64 commit, .bool ok, .slice p0 n p1, .int .i64 sindex, .int .i64 sterm, B sset, .slice p2 sdata.length p3, .slice p4 data.length p5] 67)).alloc (.cells #[.int .i8 kind, .int .i64 src, .int .i64 dst, .int .i64 term, .int .i64 index, .int .i64 last, .int .i64 commit, .bool ok, .slice q0 n q1, .int .i64 sindex, .int .i64 sterm, B sset, .slice q2 sdata.length q3, .slice q4 data.length q5] 67)) := fun _ => mid_alloc' (mid_alloc' (Below.refl _ _))
  obtain ⟨⟨es, he1, he2⟩, hr1, hr2⟩ := hp
  obtain ⟨⟨fs, hf1, hf2⟩, hs1, hs2⟩ := hq
  simp only at he1 he2 hr1 hr2 hf1 hf2 hs1 hs2
  unfold valMsg
  simp only
  obtain ⟨n, hn⟩ : ∃ n, n = entries.length := ⟨_, rfl⟩
  rw [← hn] at hl ⊢
  have hen : es.length = n := by rw [hn, ← he1, List.length_map]
  obtain ⟨W, hW⟩ : ∃ W, W = (w.alloc (.cells #[.int .i8 kind, .int .i64 src, .int .i64 dst, .int .i64 term, .int .i64 index, .int .i64 last, .int .i64 commit, .bool ok, .slice p0 n p1, .int .i64 sindex, .int .i64 sterm, B sset, .slice p2 sdata.length p3, .slice p4 data.length p5] 67)).alloc (.cells #[.int .i8 kind, .int .i64 src, .int .i64 dst, .int .i64 term, .int .i64 index, .int .i64 last, .int .i64 commit, .bool ok, .slice q0 n q1, .int .i64 sindex, .int .i64 sterm, B sset, .slice q2 sdata.length q3, .slice q4 data.length q5] 67) := ⟨_, rfl⟩
  have hb := hB n
  rw [← hW] at hb
  have HX : Hid (Box W w.heap.size [.int .i8 kind, .int .i64 src, .int .i64 dst, .int .i64 term, .int .i64 index, .int .i64 last, .int .i64 commit, .bool ok, .slice p0 n p1, .int .i64 sindex, .int .i64 sterm, B sset, .slice p2 sdata.length p3, .slice p4 data.length p5]) := Lib.hid (by rw [hW]; exact Box.of_alloc (mid_alloc' (Below.refl _ _)))
  have HY : Hid (Box W (w.heap.size + 1) [.int .i8 kind, .int .i64 src, .int .i64 dst, .int .i64 term, .int .i64 index, .int .i64 last, .int .i64 commit, .bool ok, .slice q0 n q1, .int .i64 sindex, .int .i64 sterm, B sset, .slice q2 sdata.length q3, .slice q4 data.length q5]) := Lib.hid (by rw [hW]; exact Box.of_alloc1 (Below.refl _ _))
  have HSE := Lib.hid (same_entries es fs p0 q0 n p1 q1 W (he1.trans hf1.symm) hen (he2.below hb) (hf2.below hb) hl)
  have HR := Lib.hid (And.intro (And.intro (hr1.below hb) (hr2.below hb)) (And.intro (hs1.below hb) (hs2.below hb)))
  have HB := Lib.hid hb
  clear hn he1 he2 hf1 hf2 hr1 hr2 hs1 hs2 hen hB hb
  have y0 := HX.out.cell (j := 0) rfl
  have z0 := HY.out.cell (j := 0) rfl
  have y1 := HX.out.cell (j := 1) rfl
  have z1 := HY.out.cell (j := 1) rfl
  have y2 := HX.out.cell (j := 2) rfl
  have z2 := HY.out.cell (j := 2) rfl
  have y3 := HX.out.cell (j := 3) rfl
  have z3 := HY.out.cell (j := 3) rfl
  have y4 := HX.out.cell (j := 4) rfl
  have z4 := HY.out.cell (j := 4) rfl
  have y5 := HX.out.cell (j := 5) rfl
  have z5 := HY.out.cell (j := 5) rfl
  have y6 := HX.out.cell (j := 6) rfl
  have z6 := HY.out.cell (j := 6) rfl
  have y7 := HX.out.cell (j := 7) rfl
  have z7 := HY.out.cell (j := 7) rfl
  have y8 := HX.out.cell (j := 8) rfl
  have z8 := HY.out.cell (j := 8) rfl
  have y9 := HX.out.cell (j := 9) rfl
  have z9 := HY.out.cell (j := 9) rfl
  have y10 := HX.out.cell (j := 10) rfl
  have z10 := HY.out.cell (j := 10) rfl
  have y11 := HX.out.cell (j := 11) rfl
  have z11 := HY.out.cell (j := 11) rfl
  have y12 := HX.out.cell (j := 12) rfl
  have z12 := HY.out.cell (j := 12) rfl
  have y13 := HX.out.cell (j := 13) rfl
  have z13 := HY.out.cell (j := 13) rfl
  go_enter Try.func39, Try.ntmps39
  have HSD1 := Lib.hid (fun W2 (hb : Below W.heap.size W W2) => same_data p2 q2 p3 q3 sdata.length sdata.length sdata W2 (HR.out.1.1.below hb) (HR.out.2.1.below hb) rfl rfl)
  have HSD2 := Lib.hid (fun W2 (hb : Below W.heap.size W W2) => same_data p4 q4 p5 q5 data.length data.length data W2 (HR.out.1.2.below hb) (HR.out.2.2.below hb) rfl rfl)
  rw [hW] at HSE y0 z0 y1 z1 y2 z2 y3 z3 y4 z4 y5 z5 y6 z6 y7 z7 y8 z8 y9 z9 y10 z10 y11 z11 y12 z12 y13 z13
  go_wp2_with (first
    | (go_at_call 51; ((with_reducible refine (HSD1.out _ HB2.out).mono ?_); rintro e w3 ⟨rfl, rfl⟩))
    | (go_at_call 51; ((with_reducible refine (HSD2.out _ HB2.out).mono ?_); rintro e w4 ⟨rfl, rfl⟩))
    | (go_at_call 75; ((with_reducible refine HSE.out.mono ?_); rintro e w2 ⟨rfl, hb⟩; rw [← hW] at hb; clear y0 z0 y1 z1 y2 z2 y3 z3 y4 z4 y5 z5 y6 z6 y7 z7 y8 z8 y9 z9 y10 z10 y11 z11 y12 z12 y13 z13; have HX2 := Lib.hid (HX.out.next (by simp) hb); have HY2 := Lib.hid (HY.out.next (by simp) hb); have HB2 := Lib.hid hb; clear hb; have y0 := HX2.out.cell (j := 0) rfl; have z0 := HY2.out.cell (j := 0) rfl; have y1 := HX2.out.cell (j := 1) rfl; have z1 := HY2.out.cell (j := 1) rfl; have y2 := HX2.out.cell (j := 2) rfl; have z2 := HY2.out.cell (j := 2) rfl; have y3 := HX2.out.cell (j := 3) rfl; have z3 := HY2.out.cell (j := 3) rfl; have y4 := HX2.out.cell (j := 4) rfl; have z4 := HY2.out.cell (j := 4) rfl; have y5 := HX2.out.cell (j := 5) rfl; have z5 := HY2.out.cell (j := 5) rfl; have y6 := HX2.out.cell (j := 6) rfl; have z6 := HY2.out.cell (j := 6) rfl; have y7 := HX2.out.cell (j := 7) rfl; have z7 := HY2.out.cell (j := 7) rfl; have y8 := HX2.out.cell (j := 8) rfl; have z8 := HY2.out.cell (j := 8) rfl; have y9 := HX2.out.cell (j := 9) rfl; have z9 := HY2.out.cell (j := 9) rfl; have y10 := HX2.out.cell (j := 10) rfl; have z10 := HY2.out.cell (j := 10) rfl; have y11 := HX2.out.cell (j := 11) rfl; have z11 := HY2.out.cell (j := 11) rfl; have y12 := HX2.out.cell (j := 12) rfl; have z12 := HY2.out.cell (j := 12) rfl; have y13 := HX2.out.cell (j := 13) rfl; have z13 := HY2.out.cell (j := 13) rfl)))
  go_ret
  exact ⟨rfl, HB.out.trans (HB2.out.mono HB.out.size)⟩
end Go.Proofs.Ytlckgnemmffdkaa
