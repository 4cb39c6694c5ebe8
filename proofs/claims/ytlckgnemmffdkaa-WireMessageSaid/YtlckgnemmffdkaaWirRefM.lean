import Derived.Test.YtlckgnemmffdkaaWirRefSt
import Derived.Test.YtlckgnemmffdkaaWirMsg
set_option linter.unusedVariables false
set_option linter.unusedSimpArgs false
/- The document's Message, written. (printed by gen_wirrefwm.py) -/
namespace Go.Proofs.Ytlckgnemmffdkaa
open Go.ChangeShapes Go.WideShapes Go.ChangeAt Go.RowKit
set_option maxRecDepth 100000

theorem LowRows.gro {D c : Nat} {w w' : World} {a a' p0 p2 p4 : Option Addr} {bs l1 l2 : List UInt8} {es : List (WEnt × PEnt)} (h : LowRows D w p0 p2 p4 es l1 l2) (hc : Cb w D a c bs) (hg : Gro a a' w w') : LowRows D w' p0 p2 p4 es l1 l2 := ⟨h.row0.gro hc hg, fun y hy => ⟨(h.each y hy).row.gro hc hg⟩, h.row1.gro hc hg, h.row2.gro hc hg⟩
theorem LowRows.below {g : Nat} {w w' : World} {p0 p2 p4 : Option Addr} {l1 l2 : List UInt8} {es : List (WEnt × PEnt)} (h : LowRows g w p0 p2 p4 es l1 l2) (hb : Below w.heap.size w w') : LowRows g w' p0 p2 p4 es l1 l2 := ⟨h.row0.below hb, fun y hy => ⟨(h.each y hy).row.below hb⟩, h.row1.below hb, h.row2.below hb⟩
theorem app_step2 {l l' x y T F : List UInt8} (hl : l' = l ++ (x ++ y)) (h : l ++ (x ++ (y ++ T)) = F) : l' ++ T = F := by rw [hl, List.append_assoc, List.append_assoc]; exact h
set_option maxHeartbeats 32000000 in
theorem refmessage_bytes (x : WMsg) (p : PMsg) (w : World) (hp : LowMsg w.heap.size w x p) (hok : OkMsg x) :
    Calls Try.prog 38 #[valMsg x p] w (RetB w (encWMsg x)) := by
  have hFl := hok.size
  obtain ⟨kind, src, dst, term, index, last, commit, ok, entries, sindex, sterm, sset, sdata, data⟩ := x
  obtain ⟨p0, p1, p2, p3, p4, p5⟩ := p
  obtain ⟨⟨es, hes, hrow0, heach⟩, hrow1, hrow2⟩ := hp
  simp only at hes hrow0 heach hrow1 hrow2
  subst hes
  have HKB := Lib.hid (show B (kindB kind) = .int .u8 (kind % 256) by rw [B, ← kind_byte hok.kind, IntKind.wrap_u8])
  have hHL : (es.flatMap fun y => encWEnt y.1).length ≤ 1000000 ∧ es.length ≤ 1000000 ∧ sdata.length ≤ 1000000 ∧ data.length ≤ 1000000 := by
    have h1 := hok.size
    unfold encWMsg at h1
    simp only [List.length_append, map_flat] at h1
    have h2 := flat_len1 (f := fun y : WEnt × PEnt => encWEnt y.1) (fun y => by have := encWEnt_size y.1; omega) es
    omega
  obtain ⟨hle, hlm, hls, hld⟩ := hHL
  have HOK : Hid (∀ y ∈ es, OkEnt y.1) := fun y hy => ⟨hok.kinds _ (List.mem_map.2 ⟨y, hy, rfl⟩), Nat.le_trans (mem_flat (f := fun y : WEnt × PEnt => encWEnt y.1) hy) hle⟩
  have HF : Hid ([kindB kind] ++ (be8 src ++ (be8 dst ++ (be8 term ++ (be8 index ++ (be8 last ++ (be8 commit ++ ([truthB ok] ++ (be8 es.length ++ ((es.flatMap fun y => encWEnt y.1) ++ (be8 sindex ++ (be8 sterm ++ ([sset] ++ (be8 sdata.length ++ (sdata ++ (be8 data.length ++ data))))))))))))))) = encWMsg ⟨kind, src, dst, term, index, last, commit, ok, es.map Prod.fst, sindex, sterm, sset, sdata, data⟩) := by
    show _ = _
    simp only [encWMsg, List.append_assoc, map_flat, List.length_map]
  obtain ⟨F, hF⟩ : ∃ F, F = encWMsg ⟨kind, src, dst, term, index, last, commit, ok, es.map Prod.fst, sindex, sterm, sset, sdata, data⟩ := ⟨_, rfl⟩
  rw [← hF] at HF hFl ⊢
  clear hok hF
  unfold valMsg
  simp only [List.length_map]
  have hs : LowRows w.heap.size w p0 p2 p4 es sdata data := ⟨hrow0, heach, hrow1, hrow2⟩
  clear hrow0 heach hrow1 hrow2
  have hb1 : Below w.heap.size w (w.alloc (.cells #[.int .i8 kind, .int .i64 src, .int .i64 dst, .int .i64 term, .int .i64 index, .int .i64 last, .int .i64 commit, .bool ok, .slice p0 es.length p1, .int .i64 sindex, .int .i64 sterm, B sset, .slice p2 sdata.length p3, .slice p4 data.length p5] 67)) := mid_alloc' (Below.refl _ _)
  have hb2 : Below (w.alloc (.cells #[.int .i8 kind, .int .i64 src, .int .i64 dst, .int .i64 term, .int .i64 index, .int .i64 last, .int .i64 commit, .bool ok, .slice p0 es.length p1, .int .i64 sindex, .int .i64 sterm, B sset, .slice p2 sdata.length p3, .slice p4 data.length p5] 67)).heap.size (w.alloc (.cells #[.int .i8 kind, .int .i64 src, .int .i64 dst, .int .i64 term, .int .i64 index, .int .i64 last, .int .i64 commit, .bool ok, .slice p0 es.length p1, .int .i64 sindex, .int .i64 sterm, B sset, .slice p2 sdata.length p3, .slice p4 data.length p5] 67)) ((w.alloc (.cells #[.int .i8 kind, .int .i64 src, .int .i64 dst, .int .i64 term, .int .i64 index, .int .i64 last, .int .i64 commit, .bool ok, .slice p0 es.length p1, .int .i64 sindex, .int .i64 sterm, B sset, .slice p2 sdata.length p3, .slice p4 data.length p5] 67)).alloc (.cells #[.int .u8 (kind % 256)] 5)) := mid_alloc' (Below.refl _ _)
  have HX := Lib.hid ((Box.of_alloc (w := w) (cs := [.int .i8 kind, .int .i64 src, .int .i64 dst, .int .i64 term, .int .i64 index, .int .i64 last, .int .i64 commit, .bool ok, .slice p0 es.length p1, .int .i64 sindex, .int .i64 sterm, B sset, .slice p2 sdata.length p3, .slice p4 data.length p5]) (t := 67) (Below.refl _ _)).next (by simp) hb2)
  have HB : Hid (Cb ((w.alloc (.cells #[.int .i8 kind, .int .i64 src, .int .i64 dst, .int .i64 term, .int .i64 index, .int .i64 last, .int .i64 commit, .bool ok, .slice p0 es.length p1, .int .i64 sindex, .int .i64 sterm, B sset, .slice p2 sdata.length p3, .slice p4 data.length p5] 67)).alloc (.cells #[.int .u8 (kind % 256)] 5)) w.heap.size (some ⟨(w.alloc (.cells #[.int .i8 kind, .int .i64 src, .int .i64 dst, .int .i64 term, .int .i64 index, .int .i64 last, .int .i64 commit, .bool ok, .slice p0 es.length p1, .int .i64 sindex, .int .i64 sterm, B sset, .slice p2 sdata.length p3, .slice p4 data.length p5] 67)).heap.size, 0, none⟩) 1 [kindB kind]) := Lib.hid ⟨Can.full (n := 1) (by show Row _ _ [B (kindB kind)]; rw [HKB.out]; exact Row.new _ _ _ _) rfl (by decide), fun b o s e => by simp only [Option.some.injEq, Addr.mk.injEq] at e; obtain ⟨rfl, -⟩ := e; simp⟩
  rw [World.size_alloc] at HB
  have HO := Lib.hid (And.intro (show w.heap.size < ((w.alloc (.cells #[.int .i8 kind, .int .i64 src, .int .i64 dst, .int .i64 term, .int .i64 index, .int .i64 last, .int .i64 commit, .bool ok, .slice p0 es.length p1, .int .i64 sindex, .int .i64 sterm, B sset, .slice p2 sdata.length p3, .slice p4 data.length p5] 67)).alloc (.cells #[.int .u8 (kind % 256)] 5)).heap.size by simp; omega) (show ∀ o s, (some ⟨w.heap.size + 1, 0, none⟩ : Option Addr) ≠ some ⟨w.heap.size, o, s⟩ from fun o s e => by simp only [Option.some.injEq, Addr.mk.injEq] at e; omega))
  have HG := Lib.hid (Gro.refl (some ⟨w.heap.size + 1, 0, none⟩ : Option Addr) ((w.alloc (.cells #[.int .i8 kind, .int .i64 src, .int .i64 dst, .int .i64 term, .int .i64 index, .int .i64 last, .int .i64 commit, .bool ok, .slice p0 es.length p1, .int .i64 sindex, .int .i64 sterm, B sset, .slice p2 sdata.length p3, .slice p4 data.length p5] 67)).alloc (.cells #[.int .u8 (kind % 256)] 5)))
  have HS := Lib.hid ((hs.below hb1).below hb2)
  have HBW := Lib.hid (hb1.trans (hb2.mono hb1.size))
  have hD : w.heap.size ≤ ((w.alloc (.cells #[.int .i8 kind, .int .i64 src, .int .i64 dst, .int .i64 term, .int .i64 index, .int .i64 last, .int .i64 commit, .bool ok, .slice p0 es.length p1, .int .i64 sindex, .int .i64 sterm, B sset, .slice p2 sdata.length p3, .slice p4 data.length p5] 67)).alloc (.cells #[.int .u8 (kind % 256)] 5)).heap.size := by simp; omega
  have hn : ([kindB kind] : List UInt8).length ≤ 1000000 := by simp
  have HN1 : Hid (Calls Try.prog 62 #[.slice (some ⟨w.heap.size + 1, 0, none⟩ : Option Addr) 1 1, .int .i64 src] ((w.alloc (.cells #[.int .i8 kind, .int .i64 src, .int .i64 dst, .int .i64 term, .int .i64 index, .int .i64 last, .int .i64 commit, .bool ok, .slice p0 es.length p1, .int .i64 sindex, .int .i64 sterm, B sset, .slice p2 sdata.length p3, .slice p4 data.length p5] 67)).alloc (.cells #[.int .u8 (kind % 256)] 5)) (RetCbL ((w.alloc (.cells #[.int .i8 kind, .int .i64 src, .int .i64 dst, .int .i64 term, .int .i64 index, .int .i64 last, .int .i64 commit, .bool ok, .slice p0 es.length p1, .int .i64 sindex, .int .i64 sterm, B sset, .slice p2 sdata.length p3, .slice p4 data.length p5] 67)).alloc (.cells #[.int .u8 (kind % 256)] 5)) w.heap.size (some ⟨w.heap.size + 1, 0, none⟩ : Option Addr) [kindB kind] (be8 src) 8)) := number_rl w.heap.size 1 _ [kindB kind] src ((w.alloc (.cells #[.int .i8 kind, .int .i64 src, .int .i64 dst, .int .i64 term, .int .i64 index, .int .i64 last, .int .i64 commit, .bool ok, .slice p0 es.length p1, .int .i64 sindex, .int .i64 sterm, B sset, .slice p2 sdata.length p3, .slice p4 data.length p5] 67)).alloc (.cells #[.int .u8 (kind % 256)] 5)) HB.out hD (by simp)
  clear hs hb1 hb2
  have y0 := HX.out.cell (j := 0) rfl
  have y1 := HX.out.cell (j := 1) rfl
  have y2 := HX.out.cell (j := 2) rfl
  have y3 := HX.out.cell (j := 3) rfl
  have y4 := HX.out.cell (j := 4) rfl
  have y5 := HX.out.cell (j := 5) rfl
  have y6 := HX.out.cell (j := 6) rfl
  have y7 := HX.out.cell (j := 7) rfl
  have y8 := HX.out.cell (j := 8) rfl
  have y9 := HX.out.cell (j := 9) rfl
  have y10 := HX.out.cell (j := 10) rfl
  have y11 := HX.out.cell (j := 11) rfl
  have y12 := HX.out.cell (j := 12) rfl
  have y13 := HX.out.cell (j := 13) rfl
  go_enter Try.func38, Try.ntmps38
  go_upto_region 2 with (fail)
  obtain ⟨w0, hw0⟩ : ∃ w0, w0 = (w.alloc (.cells #[.int .i8 kind, .int .i64 src, .int .i64 dst, .int .i64 term, .int .i64 index, .int .i64 last, .int .i64 commit, .bool ok, .slice p0 es.length p1, .int .i64 sindex, .int .i64 sterm, B sset, .slice p2 sdata.length p3, .slice p4 data.length p5] 67)).alloc (.cells #[.int .u8 (kind % 256)] 5) := ⟨_, rfl⟩
  rw [← hw0] at HX HS HO HB HG HBW hD HN1 y0 y1 y2 y3 y4 y5 y6 y7 y8 y9 y10 y11 y12 y13 ⊢
  clear hw0
  go_wp2_with (first
    | (have hgq := HN1; clear hgq; go_at_call 62; ((with_reducible refine HN1.out.mono ?_); rintro en w1 ⟨l, a1, c1, rfl, hl, hlen, hb1, hg1⟩; replace HF := Lib.hid (app_step hl HF.out); replace hn := app_len HF.out hFl; clear hl hlen HN1; clear y0 y1 y2 y3 y4 y5 y6 y7 y8 y9 y10 y11 y12 y13; replace HX := Lib.hid (HX.out.gro (by simp) hg1 (HG.out.off HO.out.1 HO.out.2)); replace HS := Lib.hid (HS.out.gro HB.out hg1); replace HG := Lib.hid (HG.out.trans hg1); replace HB := Lib.hid hb1; clear hb1 hg1; have y0 := HX.out.cell (j := 0) rfl; have y1 := HX.out.cell (j := 1) rfl; have y2 := HX.out.cell (j := 2) rfl; have y3 := HX.out.cell (j := 3) rfl; have y4 := HX.out.cell (j := 4) rfl; have y5 := HX.out.cell (j := 5) rfl; have y6 := HX.out.cell (j := 6) rfl; have y7 := HX.out.cell (j := 7) rfl; have y8 := HX.out.cell (j := 8) rfl; have y9 := HX.out.cell (j := 9) rfl; have y10 := HX.out.cell (j := 10) rfl; have y11 := HX.out.cell (j := 11) rfl; have y12 := HX.out.cell (j := 12) rfl; have y13 := HX.out.cell (j := 13) rfl))
    | (go_at_call 62; ((with_reducible refine (number_rl w.heap.size _ _ _ _ _ HB.out (Nat.le_trans hD HG.out.size) (by omega)).mono ?_); rintro en w1 ⟨l, a1, c1, rfl, hl, hlen, hb1, hg1⟩; replace HF := Lib.hid (app_step hl HF.out); replace hn := app_len HF.out hFl; clear hl hlen; clear y0 y1 y2 y3 y4 y5 y6 y7 y8 y9 y10 y11 y12 y13; replace HX := Lib.hid (HX.out.gro (by simp) hg1 (HG.out.off HO.out.1 HO.out.2)); replace HS := Lib.hid (HS.out.gro HB.out hg1); replace HG := Lib.hid (HG.out.trans hg1); replace HB := Lib.hid hb1; clear hb1 hg1; have y0 := HX.out.cell (j := 0) rfl; have y1 := HX.out.cell (j := 1) rfl; have y2 := HX.out.cell (j := 2) rfl; have y3 := HX.out.cell (j := 3) rfl; have y4 := HX.out.cell (j := 4) rfl; have y5 := HX.out.cell (j := 5) rfl; have y6 := HX.out.cell (j := 6) rfl; have y7 := HX.out.cell (j := 7) rfl; have y8 := HX.out.cell (j := 8) rfl; have y9 := HX.out.cell (j := 9) rfl; have y10 := HX.out.cell (j := 10) rfl; have y11 := HX.out.cell (j := 11) rfl; have y12 := HX.out.cell (j := 12) rfl; have y13 := HX.out.cell (j := 13) rfl))
    | (go_at_call 63; ((with_reducible refine (truth_rl w.heap.size _ _ _ _ _ HB.out (Nat.le_trans hD HG.out.size) (by omega)).mono ?_); rintro en w1 ⟨l, a1, c1, rfl, hl, hlen, hb1, hg1⟩; replace HF := Lib.hid (app_step hl HF.out); replace hn := app_len HF.out hFl; clear hl hlen; clear y0 y1 y2 y3 y4 y5 y6 y7 y8 y9 y10 y11 y12 y13; replace HX := Lib.hid (HX.out.gro (by simp) hg1 (HG.out.off HO.out.1 HO.out.2)); replace HS := Lib.hid (HS.out.gro HB.out hg1); replace HG := Lib.hid (HG.out.trans hg1); replace HB := Lib.hid hb1; clear hb1 hg1; have y0 := HX.out.cell (j := 0) rfl; have y1 := HX.out.cell (j := 1) rfl; have y2 := HX.out.cell (j := 2) rfl; have y3 := HX.out.cell (j := 3) rfl; have y4 := HX.out.cell (j := 4) rfl; have y5 := HX.out.cell (j := 5) rfl; have y6 := HX.out.cell (j := 6) rfl; have y7 := HX.out.cell (j := 7) rfl; have y8 := HX.out.cell (j := 8) rfl; have y9 := HX.out.cell (j := 9) rfl; have y10 := HX.out.cell (j := 10) rfl; have y11 := HX.out.cell (j := 11) rfl; have y12 := HX.out.cell (j := 12) rfl; have y13 := HX.out.cell (j := 13) rfl)))
  clear y0 y1 y2 y3 y4 y5 y6 y7 y8 y9 y10 y11 y12 y13
  go_loopw [3, 4] (fun sl i wr => ∃ (k : Nat) (l : List UInt8) (a1 : Option Addr) (c1 : Nat), k ≤ es.length ∧ i = .int .i64 k ∧ sl = .slice a1 l.length c1 ∧ Hid (l ++ ((es.drop k).flatMap (fun y => encWEnt y.1) ++ (be8 sindex ++ (be8 sterm ++ ([sset] ++ (be8 sdata.length ++ (sdata ++ (be8 data.length ++ data))))))) = F) ∧ Hid (Cb wr w.heap.size a1 c1 l) ∧ Hid (Gro (some ⟨w.heap.size + 1, 0, none⟩ : Option Addr) a1 w0 wr) ∧ Hid (Box wr w.heap.size [.int .i8 kind, .int .i64 src, .int .i64 dst, .int .i64 term, .int .i64 index, .int .i64 last, .int .i64 commit, .bool ok, .slice p0 es.length p1, .int .i64 sindex, .int .i64 sterm, B sset, .slice p2 sdata.length p3, .slice p4 data.length p5]) ∧ Hid (LowRows w.heap.size wr p0 p2 p4 es sdata data)) (fun _ i _ => es.length - (intOf i).toNat)
  case atStart => exact ⟨0, l, a1, c1, by omega, rfl, rfl, HF.out, HB.out, HG.out, HX.out, HS.out⟩
  case round =>
    clear HF HB HG HX HS hn
    obtain ⟨k, l, a1, c1, hk, rfl, rfl, HF, HB, HG, HX, HS⟩ := hrel
    have hn := app_len HF.out hFl
    have y8 := HX.out.cell (j := 8) rfl
    by_cases hlt : k < es.length
    · obtain ⟨b, o, hp0, hc⟩ := rows_at (cells := cellsEn) (size := 5) (fun _ => rfl) HS.out.row0.row hlt (by decide)
      subst hp0
      replace HF : Hid (l ++ (encWEnt (es[k]'hlt).1 ++ ((es.drop (k + 1)).flatMap (fun y => encWEnt y.1) ++ (be8 sindex ++ (be8 sterm ++ ([sset] ++ (be8 sdata.length ++ (sdata ++ (be8 data.length ++ data)))))))) = F) := Lib.hid (drop_flat (f := fun y : WEnt × PEnt => encWEnt y.1) hlt HF.out)
      have HEY := Lib.hid (And.intro (HS.out.each _ (List.getElem_mem hlt)) (HOK.out _ (List.getElem_mem hlt)))
      generalize es[k]'hlt = x at hc HF HEY
      obtain ⟨⟨v0, v1, v2, v3, v4⟩, ⟨r0, r1⟩⟩ := x
      have q0 := hc 0 (by decide)
      rw [show (cellsEn (⟨⟨v0, v1, v2, v3, v4⟩, ⟨r0, r1⟩⟩ : EntP))[0]? = some (.int .i64 v0) from rfl] at q0
      have q1 := hc 1 (by decide)
      rw [show (cellsEn (⟨⟨v0, v1, v2, v3, v4⟩, ⟨r0, r1⟩⟩ : EntP))[1]? = some (.int .i8 v1) from rfl] at q1
      have q2 := hc 2 (by decide)
      rw [show (cellsEn (⟨⟨v0, v1, v2, v3, v4⟩, ⟨r0, r1⟩⟩ : EntP))[2]? = some (.int .i64 v2) from rfl] at q2
      have q3 := hc 3 (by decide)
      rw [show (cellsEn (⟨⟨v0, v1, v2, v3, v4⟩, ⟨r0, r1⟩⟩ : EntP))[3]? = some (B v3) from rfl] at q3
      have q4 := hc 4 (by decide)
      rw [show (cellsEn (⟨⟨v0, v1, v2, v3, v4⟩, ⟨r0, r1⟩⟩ : EntP))[4]? = some (.slice r0 v4.length r1) from rfl] at q4
      simp only [Nat.add_zero] at q0
      have hd : decide (k < es.length) = true := decide_eq_true hlt
      have HEN : Hid (Calls Try.prog 50 #[.slice a1 l.length c1, .agg #[.int .i64 v0, .int .i8 v1, .int .i64 v2, B v3, .slice r0 v4.length r1]] wr (RetCbL wr w.heap.size a1 l (encWEnt ⟨v0, v1, v2, v3, v4⟩) (encWEnt ⟨v0, v1, v2, v3, v4⟩).length)) := Lib.hid ((entry_rf w.heap.size c1 a1 l ⟨v0, v1, v2, v3, v4⟩ (r0, r1) wr HB.out (Nat.le_trans hD HG.out.size) HEY.out.1 HEY.out.2 (by omega)).mono fun _ _ h => h.l (Nat.le_refl _))
      clear hc
      go_wp2_with (go_at_call 50; ((with_reducible refine HEN.out.mono ?_); rintro en w1 ⟨l, a1, c1, rfl, hl, hlen, hb1, hg1⟩; replace HF := Lib.hid (app_step hl HF.out); clear hl hlen; clear y8 q0 q1 q2 q3 q4; replace HX := Lib.hid (HX.out.gro (by simp) hg1 (HG.out.off HO.out.1 HO.out.2)); replace HS := Lib.hid (HS.out.gro HB.out hg1); replace HG := Lib.hid (HG.out.trans hg1); replace HB := Lib.hid hb1; clear hb1 hg1))
      exact ⟨⟨k + 1, l, a1, c1, by omega, by go_num, rfl, HF.out, HB.out, HG.out, HX.out, HS.out⟩, by simp [intOf]; omega⟩
    · obtain rfl : k = es.length := by omega
      have hd : decide (es.length < es.length) = false := decide_eq_false (by omega)
      replace HF : Hid (l ++ ((be8 sindex ++ (be8 sterm ++ ([sset] ++ (be8 sdata.length ++ (sdata ++ (be8 data.length ++ data)))))) ++ []) = F) := Lib.hid (by have h := drop_all HF.out; rw [List.append_nil]; exact h)
      have hf := HF.out
      simp only [List.append_assoc] at hf
      clear HF y8
      have HF := Lib.hid hf
      clear hf
      have HW1 : Hid (wr = wr) := Lib.hid rfl
      have y0 := HX.out.cell (j := 0) rfl
      have y1 := HX.out.cell (j := 1) rfl
      have y2 := HX.out.cell (j := 2) rfl
      have y3 := HX.out.cell (j := 3) rfl
      have y4 := HX.out.cell (j := 4) rfl
      have y5 := HX.out.cell (j := 5) rfl
      have y6 := HX.out.cell (j := 6) rfl
      have y7 := HX.out.cell (j := 7) rfl
      have y8 := HX.out.cell (j := 8) rfl
      have y9 := HX.out.cell (j := 9) rfl
      have y10 := HX.out.cell (j := 10) rfl
      have y11 := HX.out.cell (j := 11) rfl
      have y12 := HX.out.cell (j := 12) rfl
      have y13 := HX.out.cell (j := 13) rfl
      go_wp2_with (first
        | (go_at_call 74; ((with_reducible refine (bytes_rl w.heap.size _ sdata.length p3 _ p2 _ sdata _ HB.out (Nat.le_trans hD HG.out.size) rfl HS.out.row1 (by omega) (by omega)).mono ?_); rintro en w1 ⟨l, a1, c1, rfl, hl, hlen, hb1, hg1⟩; replace HF := Lib.hid (app_step2 hl HF.out); replace hn := app_len HF.out hFl; clear hl hlen; clear y0 y1 y2 y3 y4 y5 y6 y7 y8 y9 y10 y11 y12 y13; replace HX := Lib.hid (HX.out.gro (by simp) hg1 (HG.out.off HO.out.1 HO.out.2)); replace HS := Lib.hid (HS.out.gro HB.out hg1); replace HG := Lib.hid (HG.out.trans hg1); replace HB := Lib.hid hb1; clear hb1 hg1; have y0 := HX.out.cell (j := 0) rfl; have y1 := HX.out.cell (j := 1) rfl; have y2 := HX.out.cell (j := 2) rfl; have y3 := HX.out.cell (j := 3) rfl; have y4 := HX.out.cell (j := 4) rfl; have y5 := HX.out.cell (j := 5) rfl; have y6 := HX.out.cell (j := 6) rfl; have y7 := HX.out.cell (j := 7) rfl; have y8 := HX.out.cell (j := 8) rfl; have y9 := HX.out.cell (j := 9) rfl; have y10 := HX.out.cell (j := 10) rfl; have y11 := HX.out.cell (j := 11) rfl; have y12 := HX.out.cell (j := 12) rfl; have y13 := HX.out.cell (j := 13) rfl))
        | (go_at_call 74; ((with_reducible refine (bytes_rl w.heap.size _ data.length p5 _ p4 _ data _ HB.out (Nat.le_trans hD HG.out.size) rfl HS.out.row2 (by omega) (by omega)).mono ?_); rintro en w1 ⟨l, a1, c1, rfl, hl, hlen, hb1, hg1⟩; replace HF := Lib.hid (app_step2 hl HF.out); replace hn := app_len HF.out hFl; clear hl hlen; clear y0 y1 y2 y3 y4 y5 y6 y7 y8 y9 y10 y11 y12 y13; replace HX := Lib.hid (HX.out.gro (by simp) hg1 (HG.out.off HO.out.1 HO.out.2)); replace HS := Lib.hid (HS.out.gro HB.out hg1); replace HG := Lib.hid (HG.out.trans hg1); replace HB := Lib.hid hb1; clear hb1 hg1; have y0 := HX.out.cell (j := 0) rfl; have y1 := HX.out.cell (j := 1) rfl; have y2 := HX.out.cell (j := 2) rfl; have y3 := HX.out.cell (j := 3) rfl; have y4 := HX.out.cell (j := 4) rfl; have y5 := HX.out.cell (j := 5) rfl; have y6 := HX.out.cell (j := 6) rfl; have y7 := HX.out.cell (j := 7) rfl; have y8 := HX.out.cell (j := 8) rfl; have y9 := HX.out.cell (j := 9) rfl; have y10 := HX.out.cell (j := 10) rfl; have y11 := HX.out.cell (j := 11) rfl; have y12 := HX.out.cell (j := 12) rfl; have y13 := HX.out.cell (j := 13) rfl))
        | (go_at_call 62; ((with_reducible refine (number_rl w.heap.size _ _ _ _ _ HB.out (Nat.le_trans hD HG.out.size) (by omega)).mono ?_); rintro en w1 ⟨l, a1, c1, rfl, hl, hlen, hb1, hg1⟩; replace HF := Lib.hid (app_step hl HF.out); replace hn := app_len HF.out hFl; clear hl hlen; clear y0 y1 y2 y3 y4 y5 y6 y7 y8 y9 y10 y11 y12 y13; replace HX := Lib.hid (HX.out.gro (by simp) hg1 (HG.out.off HO.out.1 HO.out.2)); replace HS := Lib.hid (HS.out.gro HB.out hg1); replace HG := Lib.hid (HG.out.trans hg1); replace HB := Lib.hid hb1; clear hb1 hg1; have y0 := HX.out.cell (j := 0) rfl; have y1 := HX.out.cell (j := 1) rfl; have y2 := HX.out.cell (j := 2) rfl; have y3 := HX.out.cell (j := 3) rfl; have y4 := HX.out.cell (j := 4) rfl; have y5 := HX.out.cell (j := 5) rfl; have y6 := HX.out.cell (j := 6) rfl; have y7 := HX.out.cell (j := 7) rfl; have y8 := HX.out.cell (j := 8) rfl; have y9 := HX.out.cell (j := 9) rfl; have y10 := HX.out.cell (j := 10) rfl; have y11 := HX.out.cell (j := 11) rfl; have y12 := HX.out.cell (j := 12) rfl; have y13 := HX.out.cell (j := 13) rfl))
        | (at_builtin; (refine wpList_far el_bytes rfl (.tmp 66) (.tmp 70) rfl w.heap.size a1 l.length c1 (l.map B) rfl (HB.out.can.alloc _) (some ⟨w1.heap.size, 0, none⟩) 1 1 [B sset] rfl rfl (Row.new _ _ _ _) (by intro u hu; simp at hu; subst hu; rfl) (by omega) (by have := HG.out.size; simp; omega) (fun b o s e => ⟨(HB.out.far b o s e).1, by have := (HB.out.far b o s e).2; simp; omega⟩) ?_); intro a1 c1 w1 hcan2 hg2 hn2 hf2 hl2; have hst := Cb.step (ns := [sset]) ((Below.refl _ _).alloc (Nat.le_refl _) _) hcan2 hg2 hn2 hf2 hl2; have hb1 := hst.1; have hg1 := hst.2; clear hst; obtain ⟨l, hl⟩ : ∃ l2, l2 = l ++ [sset] := ⟨_, rfl⟩; rw [← hl] at hb1; have hq := congrArg List.length hl; rw [List.length_append, List.length_singleton] at hq; rw [← hq]; clear hq; replace HF := Lib.hid (app_step hl HF.out); replace hn := app_len HF.out hFl; clear hl hcan2 hg2 hn2 hf2 hl2; clear y0 y1 y2 y3 y4 y5 y6 y7 y8 y9 y10 y11 y12 y13; replace HX := Lib.hid (HX.out.gro (by simp) hg1 (HG.out.off HO.out.1 HO.out.2)); replace HS := Lib.hid (HS.out.gro HB.out hg1); replace HG := Lib.hid (HG.out.trans hg1); replace HB := Lib.hid hb1; clear hb1 hg1; have y0 := HX.out.cell (j := 0) rfl; have y1 := HX.out.cell (j := 1) rfl; have y2 := HX.out.cell (j := 2) rfl; have y3 := HX.out.cell (j := 3) rfl; have y4 := HX.out.cell (j := 4) rfl; have y5 := HX.out.cell (j := 5) rfl; have y6 := HX.out.cell (j := 6) rfl; have y7 := HX.out.cell (j := 7) rfl; have y8 := HX.out.cell (j := 8) rfl; have y9 := HX.out.cell (j := 9) rfl; have y10 := HX.out.cell (j := 10) rfl; have y11 := HX.out.cell (j := 11) rfl; have y12 := HX.out.cell (j := 12) rfl; have y13 := HX.out.cell (j := 13) rfl))
      go_ret
      have hf := HF.out
      rw [List.append_nil] at hf
      subst hf
      refine ⟨a1, c1, rfl, HB.out.can.row, ?_⟩
      have hg := HG.out
      exact ⟨hg.os.trans HBW.out.os, hg.tape.trans HBW.out.tape, hg.output.trans HBW.out.output, Nat.le_trans HBW.out.size hg.size, fun k hk => by rw [hg.keep k (by have := HBW.out.size; omega) (fun o s e => by simp only [Option.some.injEq, Addr.mk.injEq] at e; omega)]; exact HBW.out.block k hk⟩
end Go.Proofs.Ytlckgnemmffdkaa
