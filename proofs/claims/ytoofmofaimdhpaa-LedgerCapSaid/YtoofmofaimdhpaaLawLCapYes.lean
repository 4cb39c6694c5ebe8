import Derived.Test.YtoofmofaimdhpaaLedWakes
import Derived.Test.YtoofmofaimdhpaaPackLedgerCap1
import Derived.Test.YtoofmofaimdhpaaLawLCapNot
import Derived.Test.YtoofmofaimdhpaaLedReport
import Derived.Test.YtoofmofaimdhpaaPackA6
import Derived.Test.YtoofmofaimdhpaaPackA4
import Derived.Test.YtoofmofaimdhpaaLedCredit
import Derived.Deep.Cut
import Derived.Deep.RegionHeld3
import Derived.Deep.CutRange
import Derived.StillTailTactics
set_option linter.unusedVariables false
set_option linter.unusedSimpArgs false
/- LedgerCap: the walk of a state that may be. -/
namespace Go.Proofs.Ytoofmofaimdhpaa
open Go.ChangeShapes Go.WideShapes Go.ChangeAt Go.RowKit
set_option maxRecDepth 100000

theorem on8 {B : Nat} {w0 w1 w2 w3 w4 w5 w6 w7 w8 : World} (h1 : Below w0.heap.size w0 w1) (h2 : Below w1.heap.size w1 w2) (h3 : Below w2.heap.size w2 w3) (h4 : Below w3.heap.size w3 w4) (h5 : Below w4.heap.size w4 w5) (h6 : Below w5.heap.size w5 w6) (h7 : Below w6.heap.size w6 w7) (h8 : Below w7.heap.size w7 w8) (hB : B ≤ w0.heap.size) : Below B w0 w8 :=
  (below_on (below_on (below_on (below_on (below_on (below_on (below_on h1 h2) h3) h4) h5) h6) h7) h8).mono hB
/-- Five states in five variables, and a command. -/
structure Five (s a b d u : St) (g3 g7 g9 g11 g12 : Nat) (r q7 q9 q11 q12 : Raw) (W : World) : Prop where
  b3 : Box W g3 r.cells
  b7 : Box W g7 q7.cells
  b9 : Box W g9 q9.cells
  b11 : Box W g11 q11.cells
  b12 : Box W g12 q12.cells
  s3 : StAt W 0 r s
  s7 : StAt W 0 q7 a
  s9 : StAt W 0 q9 b
  s11 : StAt W 0 q11 d
  s12 : StAt W 0 q12 u
theorem Five.next {s a b d u : St} {g3 g7 g9 g11 g12 : Nat} {r q7 q9 q11 q12 : Raw} {W W' : World} (h : Five s a b d u g3 g7 g9 g11 g12 r q7 q9 q11 q12 W) (hb : Below W.heap.size W W') : Five s a b d u g3 g7 g9 g11 g12 r q7 q9 q11 q12 W' :=
  ⟨h.b3.next (show 0 < 7 by decide) hb, h.b7.next (show 0 < 7 by decide) hb, h.b9.next (show 0 < 7 by decide) hb, h.b11.next (show 0 < 7 by decide) hb, h.b12.next (show 0 < 7 by decide) hb, h.s3.below hb, h.s7.below hb, h.s9.below hb, h.s11.below hb, h.s12.below hb⟩
set_option maxHeartbeats 32000000 in
theorem lcap_yes (s : St) (r : Raw) (c : Cmd) (zs : List Int) (ti : Int) (w : World) (h : StAt w 0 r s) (hzn : zs.length = c.leases.n) (hz : Row w c.leases.a (zs.map (Value.int .i64))) (hg : greatB s = false) (hl : c.leases.n ≤ 100) (hok : stOk s = true) :
    Calls Try.prog 8 #[r.agg, c.agg, .int .i64 ti] w fun e w' => e = .returned (.bool true) ∧ Below w.heap.size w w' := by
  have hsz : s.tens.length ≤ 60 ∧ s.leas.length ≤ 100 ∧ s.sess.length ≤ 60 ∧ s.dsks.length ≤ 60 := by
    have := of_decide_eq_false hg
    omega
  obtain ⟨z1, z2, z3, z4⟩ := hsz
  have HG := Lib.hid (fun w' (hb : Below w.heap.size w w') => great_st s r 0 w' (h.below hb))
  have HGG := Lib.hid hg
  have HRC := Lib.hid (fun w' (hb : Below w.heap.size w w') => refcheck_st s r 0 w' (h.below hb) (by omega) (by omega))
  have HOK := Lib.hid hok
  obtain ⟨term, stamp, next, ⟨a1, n1, c1⟩, ⟨a2, n2, c2⟩, ⟨a3, n3, c3⟩, ⟨a4, n4, c4⟩⟩ := r
  obtain ⟨kind, client, number, tenant, rate, burst, shaper, epoch, lease, size, spent, closed, ⟨za, zn, zc⟩⟩ := c
  simp only at hzn hz hl
  have d30 : decide ((100 : Int) < (zn : Int)) = false := decide_eq_false (by omega)
  obtain ⟨tk, HTK⟩ : ∃ tk, Hid (min (max ti 0) 1048576 = tk) := ⟨_, rfl⟩
  have htk1 : 0 ≤ tk := by rw [← HTK.out]; omega
  have htk2 : tk ≤ 1048576 := by rw [← HTK.out]; omega
  have f1 := grant_ok hok shaper epoch number tenant size
  have f2 := (report_ok hok shaper epoch lease spent closed).1
  have f3 := (expire_ok hok zs).1
  have f4 := (credit_ok hok tk htk1 (by omega)).1
  have f5 := cap_sums hok shaper epoch number tenant size lease spent closed zs tk htk1 htk2
  have l1 := grant_lens s shaper epoch number tenant size
  have l2 := report_lens s shaper epoch lease spent closed
  have l3 := expire_lens s zs
  have l4 := credit_lens s tk
  have c1' := (fun w' (hb : Below w.heap.size w w') => grant_st s ⟨term, stamp, next, ⟨a1, n1, c1⟩, ⟨a2, n2, c2⟩, ⟨a3, n3, c3⟩, ⟨a4, n4, c4⟩⟩ 0 shaper epoch number tenant size w' (h.below hb) (by omega) (by omega) (by omega) (by omega))
  have c2' := (fun w' (hb : Below w.heap.size w w') => report_st s ⟨term, stamp, next, ⟨a1, n1, c1⟩, ⟨a2, n2, c2⟩, ⟨a3, n3, c3⟩, ⟨a4, n4, c4⟩⟩ 0 shaper epoch lease spent closed w' (h.below hb) (by omega) (by omega) (by omega) (by omega))
  have c3' := (fun w' (hb : Below w.heap.size w w') => expire_st s ⟨term, stamp, next, ⟨a1, n1, c1⟩, ⟨a2, n2, c2⟩, ⟨a3, n3, c3⟩, ⟨a4, n4, c4⟩⟩ 0 zs za zn zc w' (h.below hb) (by omega) (by omega) (by omega) (by omega) hzn (by omega) (Row.below hz hb))
  have c4' := (fun w' (hb : Below w.heap.size w w') => credit_st s ⟨term, stamp, next, ⟨a1, n1, c1⟩, ⟨a2, n2, c2⟩, ⟨a3, n3, c3⟩, ⟨a4, n4, c4⟩⟩ 0 tk w' (h.below hb) (by omega) (by omega) (by omega) (by omega))
  generalize grantS s shaper epoch number tenant size = ga at f1 f5 l1 c1'
  generalize reportS s shaper epoch lease spent closed = gb at f2 f5 l2 c2'
  generalize expireS s zs = d at f3 f5 l3 c3'
  generalize creditS s tk = u at f4 f5 l4 c4'
  obtain ⟨a, ⟨ae, ar, ab, al, az⟩⟩ := ga
  obtain ⟨b, be⟩ := gb
  simp only at f1 f2 f5 l1 l2
  have HGS := Lib.hid f1
  have HOA := Lib.hid f1.1
  have HOB := Lib.hid f2
  have HOD := Lib.hid f3
  have HOU := Lib.hid f4
  have HSU := Lib.hid f5
  have HL := Lib.hid (And.intro l1 (And.intro l2 (And.intro l3 l4)))
  have HRG := Lib.hid (fun id => sum_range hok id)
  have HSZ := Lib.hid (And.intro z1 (And.intro z2 (And.intro z3 z4)))
  have HP := Lib.hid (stOk_parts hok)
  have HS := Lib.hid h
  have HC1 := Lib.hid c1'
  have HC2' := Lib.hid c2'
  have HC3' := Lib.hid c3'
  have KCR := Lib.hid c4'
  have HM := Lib.hid (And.intro htk1 htk2)
  have HBX : Hid (∀ w', Below ((w.alloc (.cells #[.int .i64 term, .int .i64 stamp, .int .i64 next, .slice a1 n1 c1, .slice a2 n2 c2, .slice a3 n3 c3, .slice a4 n4 c4] 27)).alloc (.cells #[.int .i8 kind, .int .i64 client, .int .i64 number, .int .i64 tenant, .int .i64 rate, .int .i64 burst, .int .i64 shaper, .int .i64 epoch, .int .i64 lease, .int .i64 size, .int .i64 spent, .bool closed, .slice za zn zc] 53)).heap.size ((w.alloc (.cells #[.int .i64 term, .int .i64 stamp, .int .i64 next, .slice a1 n1 c1, .slice a2 n2 c2, .slice a3 n3 c3, .slice a4 n4 c4] 27)).alloc (.cells #[.int .i8 kind, .int .i64 client, .int .i64 number, .int .i64 tenant, .int .i64 rate, .int .i64 burst, .int .i64 shaper, .int .i64 epoch, .int .i64 lease, .int .i64 size, .int .i64 spent, .bool closed, .slice za zn zc] 53)) w' → Box w' w.heap.size (Raw.cells ⟨term, stamp, next, ⟨a1, n1, c1⟩, ⟨a2, n2, c2⟩, ⟨a3, n3, c3⟩, ⟨a4, n4, c4⟩⟩) ∧ Box w' (w.heap.size + 1) (Cmd.cells ⟨kind, client, number, tenant, rate, burst, shaper, epoch, lease, size, spent, closed, ⟨za, zn, zc⟩⟩)) := fun w' hb => ⟨Box.of_alloc (mid_alloc' hb), Box.of_alloc1 hb⟩
  clear h hz hzn hg hok z1 z2 z3 z4 htk1 htk2 hl f1 f2 f3 f4 f5 l1 l2 l3 l4 c1' c2' c3' c4'
  go_enter Try.func8, Try.ntmps8
  go_upto_region 6 with (first
      | (have hgq := HB9; clear hgq; refine wpList_store_box laySt rfl (.tmp 11) (.tmp 63) rfl ⟨td, sd, nd, ⟨x1d, m1d, y1d⟩, ⟨x2d, m2d, y2d⟩, ⟨x3d, m3d, y3d⟩, ⟨x4d, m4d, y4d⟩⟩ rfl rfl rfl ?_; intro w10 hw10 ht10 hb10 hs10; have PD10 : Hid (Box w10 w9.heap.size (Raw.cells ⟨td, sd, nd, ⟨x1d, m1d, y1d⟩, ⟨x2d, m2d, y2d⟩, ⟨x3d, m3d, y3d⟩, ⟨x4d, m4d, y4d⟩⟩)) := ⟨hw10, ht10⟩; have HB10 := Lib.hid (below_on HB9.out hb10); have HX10 := Lib.hid (HX9.out.next (show 0 < 7 by decide) hb10); have HC10 := Lib.hid (HC9.out.next (show 0 < 13 by decide) hb10); have PA10 := Lib.hid (PA9.out.next (show 0 < 7 by decide) hb10); have PN10 := Lib.hid (PN9.out.next (show 0 < 5 by decide) hb10); have PB10 := Lib.hid (PB9.out.next (show 0 < 7 by decide) hb10); have TA10 := Lib.hid (TA9.out.below hb10); have TB10 := Lib.hid (TB9.out.below hb10); have TD10 := Lib.hid (TD9.out.below hb10); have kc2 := HC10.out.cell (j := 2) rfl; have kc3 := HC10.out.cell (j := 3) rfl; have kc6 := HC10.out.cell (j := 6) rfl; have kc7 := HC10.out.cell (j := 7) rfl; have kc8 := HC10.out.cell (j := 8) rfl; have kc9 := HC10.out.cell (j := 9) rfl; have kc10 := HC10.out.cell (j := 10) rfl; have kc11 := HC10.out.cell (j := 11) rfl; have kc12 := HC10.out.cell (j := 12) rfl; clear hw10 ht10 hs10)
      | (go_at_call 24; ((with_reducible refine (HC3'.out w8 HB8.out).mono ?_); rintro e w9 ⟨⟨td, sd, nd, ⟨x1d, m1d, y1d⟩, ⟨x2d, m2d, y2d⟩, ⟨x3d, m3d, y3d⟩, ⟨x4d, m4d, y4d⟩⟩, rfl, hs9, hb9⟩; have TD9 := Lib.hid hs9; have HB9 := Lib.hid (below_on HB8.out hb9); have HX9 := Lib.hid (HX8.out.next (show 0 < 7 by decide) hb9); have HC9 := Lib.hid (HC8.out.next (show 0 < 13 by decide) hb9); have PA9 := Lib.hid (PA8.out.next (show 0 < 7 by decide) hb9); have PN9 := Lib.hid (PN8.out.next (show 0 < 5 by decide) hb9); have PB9 := Lib.hid (PB8.out.next (show 0 < 7 by decide) hb9); have TA9 := Lib.hid (TA8.out.below hb9); have TB9 := Lib.hid (TB8.out.below hb9); clear kc2 kc3 kc6 kc7 kc8 kc9 kc10 kc11 kc12; clear hs9))
      | (have hgq := HB8; clear hgq; refine wpList_load_as laySt rfl (.tmp 3) rfl w.heap.size 0 rfl ⟨term, stamp, next, ⟨a1, n1, c1⟩, ⟨a2, n2, c2⟩, ⟨a3, n3, c3⟩, ⟨a4, n4, c4⟩⟩ (.agg #[.int .i64 term, .int .i64 stamp, .int .i64 next, .slice a1 n1 c1, .slice a2 n2 c2, .slice a3 n3 c3, .slice a4 n4 c4]) rfl HX8.out.range ?_)
      | (have hgq := HB7; clear hgq; refine wpList_store_box laySt rfl (.tmp 9) (.tmp 58) rfl ⟨tb, sb, nb, ⟨x1b, m1b, y1b⟩, ⟨x2b, m2b, y2b⟩, ⟨x3b, m3b, y3b⟩, ⟨x4b, m4b, y4b⟩⟩ rfl rfl rfl ?_; intro w8 hw8 ht8 hb8 hs8; have PB8 : Hid (Box w8 w7.heap.size (Raw.cells ⟨tb, sb, nb, ⟨x1b, m1b, y1b⟩, ⟨x2b, m2b, y2b⟩, ⟨x3b, m3b, y3b⟩, ⟨x4b, m4b, y4b⟩⟩)) := ⟨hw8, ht8⟩; have HB8 := Lib.hid (below_on HB7.out hb8); have HX8 := Lib.hid (HX7.out.next (show 0 < 7 by decide) hb8); have HC8 := Lib.hid (HC7.out.next (show 0 < 13 by decide) hb8); have PA8 := Lib.hid (PA7.out.next (show 0 < 7 by decide) hb8); have PN8 := Lib.hid (PN7.out.next (show 0 < 5 by decide) hb8); have TA8 := Lib.hid (TA7.out.below hb8); have TB8 := Lib.hid (TB7.out.below hb8); have kc2 := HC8.out.cell (j := 2) rfl; have kc3 := HC8.out.cell (j := 3) rfl; have kc6 := HC8.out.cell (j := 6) rfl; have kc7 := HC8.out.cell (j := 7) rfl; have kc8 := HC8.out.cell (j := 8) rfl; have kc9 := HC8.out.cell (j := 9) rfl; have kc10 := HC8.out.cell (j := 10) rfl; have kc11 := HC8.out.cell (j := 11) rfl; have kc12 := HC8.out.cell (j := 12) rfl; clear hw8 ht8 hs8)
      | (go_at_call 22; ((with_reducible refine (HC2'.out w6 HB6.out).mono ?_); rintro e w7 ⟨⟨tb, sb, nb, ⟨x1b, m1b, y1b⟩, ⟨x2b, m2b, y2b⟩, ⟨x3b, m3b, y3b⟩, ⟨x4b, m4b, y4b⟩⟩, rfl, hs7, hb7⟩; have TB7 := Lib.hid hs7; have HB7 := Lib.hid (below_on HB6.out hb7); have HX7 := Lib.hid (HX6.out.next (show 0 < 7 by decide) hb7); have HC7 := Lib.hid (HC6.out.next (show 0 < 13 by decide) hb7); have PA7 := Lib.hid (PA6.out.next (show 0 < 7 by decide) hb7); have PN7 := Lib.hid (PN6.out.next (show 0 < 5 by decide) hb7); have TA7 := Lib.hid (TA6.out.below hb7); clear kc2 kc3 kc6 kc7 kc8 kc9 kc10 kc11 kc12; clear hs7))
      | (have hgq := HB6; clear hgq; refine wpList_load_as laySt rfl (.tmp 3) rfl w.heap.size 0 rfl ⟨term, stamp, next, ⟨a1, n1, c1⟩, ⟨a2, n2, c2⟩, ⟨a3, n3, c3⟩, ⟨a4, n4, c4⟩⟩ (.agg #[.int .i64 term, .int .i64 stamp, .int .i64 next, .slice a1 n1 c1, .slice a2 n2 c2, .slice a3 n3 c3, .slice a4 n4 c4]) rfl HX6.out.range ?_)
      | (have hgq := PN5; clear hgq; refine wpList_store_whole layAns rfl (.tmp 8) (.tmp 44) rfl (w4.heap.size + 1) ⟨ae, ar, ab, al, az⟩ _ rfl rfl PN5.out rfl ?_; intro w6 hbx6 hw6; have PN6 := Lib.hid hbx6; have PA6 := Lib.hid (PA5.out.wrote hw6 (by omega)); have hb46 : Below w4.heap.size w4 w6 := HB45.out.trans (hw6.below _ (by omega)); have HB6 := Lib.hid (below_on HB4.out hb46); have HX6 := Lib.hid (HX4.out.next (show 0 < 7 by decide) hb46); have HC6 := Lib.hid (HC4.out.next (show 0 < 13 by decide) hb46); have TA6 := Lib.hid (TA4.out.below hb46); have kc2 := HC6.out.cell (j := 2) rfl; have kc3 := HC6.out.cell (j := 3) rfl; have kc6 := HC6.out.cell (j := 6) rfl; have kc7 := HC6.out.cell (j := 7) rfl; have kc8 := HC6.out.cell (j := 8) rfl; have kc9 := HC6.out.cell (j := 9) rfl; have kc10 := HC6.out.cell (j := 10) rfl; have kc11 := HC6.out.cell (j := 11) rfl; have kc12 := HC6.out.cell (j := 12) rfl; clear hbx6 hw6 hb46)
      | (have hgq := HB4; clear hgq; refine wpList_store_whole laySt rfl (.tmp 7) (.tmp 43) rfl w4.heap.size ⟨ta, sa, na, ⟨x1a, m1a, y1a⟩, ⟨x2a, m2a, y2a⟩, ⟨x3a, m3a, y3a⟩, ⟨x4a, m4a, y4a⟩⟩ _ rfl rfl (Box.of_alloc (mid_alloc' (Below.refl _ _))) rfl ?_; intro w5 hbx5 hw5; have PA5 := Lib.hid hbx5; have PN5 := Lib.hid ((Box.of_alloc1 (w := w4) (cs := [.int .i64 0, .int .i64 0, .int .i64 0, .int .i64 0, .int .i64 0]) (Below.refl _ _)).wrote hw5 (by omega)); have hb45 : Below w4.heap.size w4 w5 := (mid_alloc' (mid_alloc' (Below.refl _ _))).trans (hw5.below _ (Nat.le_refl _)); have HB45 := Lib.hid hb45; clear hbx5 hw5 hb45)
      | (go_at_call 11; ((with_reducible refine (HC1.out w3 HB3.out).mono ?_); rintro e w4 ⟨⟨ta, sa, na, ⟨x1a, m1a, y1a⟩, ⟨x2a, m2a, y2a⟩, ⟨x3a, m3a, y3a⟩, ⟨x4a, m4a, y4a⟩⟩, rfl, hs4, hb4⟩; have TA4 := Lib.hid hs4; have HB4 := Lib.hid (below_on HB3.out hb4); have HX4 := Lib.hid (HX3.out.next (show 0 < 7 by decide) hb4); have HC4 := Lib.hid (HC3.out.next (show 0 < 13 by decide) hb4); clear kc2 kc3 kc6 kc7 kc8 kc9 kc10 kc11 kc12; clear hs4))
      | (have hgq := HB3; clear hgq; refine wpList_load_as laySt rfl (.tmp 3) rfl w.heap.size 0 rfl ⟨term, stamp, next, ⟨a1, n1, c1⟩, ⟨a2, n2, c2⟩, ⟨a3, n3, c3⟩, ⟨a4, n4, c4⟩⟩ (.agg #[.int .i64 term, .int .i64 stamp, .int .i64 next, .slice a1 n1 c1, .slice a2 n2 c2, .slice a3 n3 c3, .slice a4 n4 c4]) rfl HX3.out.range ?_)
      | (go_at_call 16; ((with_reducible refine (HRC.out w2 HB2.out).mono ?_); rw [HOK.out]; rintro e w3 ⟨rfl, hb3⟩; have HB3 := Lib.hid (below_on HB2.out hb3); have HX3 := Lib.hid (HX2.out.next (show 0 < 7 by decide) hb3); have HC3 := Lib.hid (HC2.out.next (show 0 < 13 by decide) hb3); clear kz; have kc2 := HC3.out.cell (j := 2) rfl; have kc3 := HC3.out.cell (j := 3) rfl; have kc6 := HC3.out.cell (j := 6) rfl; have kc7 := HC3.out.cell (j := 7) rfl; have kc8 := HC3.out.cell (j := 8) rfl; have kc9 := HC3.out.cell (j := 9) rfl; have kc10 := HC3.out.cell (j := 10) rfl; have kc11 := HC3.out.cell (j := 11) rfl; have kc12 := HC3.out.cell (j := 12) rfl))
      | (have hgq := HB2; clear hgq; refine wpList_strip (by rfl) ?_; refine wpList_load_as laySt rfl (.tmp 3) rfl w.heap.size 0 rfl ⟨term, stamp, next, ⟨a1, n1, c1⟩, ⟨a2, n2, c2⟩, ⟨a3, n3, c3⟩, ⟨a4, n4, c4⟩⟩ (.agg #[.int .i64 term, .int .i64 stamp, .int .i64 next, .slice a1 n1 c1, .slice a2 n2 c2, .slice a3 n3 c3, .slice a4 n4 c4]) rfl HX2.out.range ?_)
      | (go_at_call 9; ((with_reducible refine (HG.out _ (by repeat' (first | (with_reducible exact Below.refl _ _) | (with_reducible assumption) | (with_reducible refine Below.drew ?_) | (with_reducible refine Below.more ?_ _) | (with_reducible refine Below.put ?_ ?_ _) | (with_reducible refine Below.next ?_ (by with_reducible assumption)) | (with_reducible exact Nat.le_refl _) | (with_reducible refine Below.size' ?_) | omega))).mono ?_); rw [HGG.out]; rintro e w2 ⟨rfl, hb2⟩; have hb2' : Below w.heap.size w w2 := (by repeat' (first | (with_reducible exact Below.refl _ _) | (with_reducible assumption) | (with_reducible refine Below.drew ?_) | (with_reducible refine Below.more ?_ _) | (with_reducible refine Below.put ?_ ?_ _) | (with_reducible refine Below.next ?_ (by with_reducible assumption)) | (with_reducible exact Nat.le_refl _) | (with_reducible refine Below.size' ?_) | omega)); have HB2 := Lib.hid hb2'; have HX2 := Lib.hid (HBX.out w2 (by repeat' (first | (with_reducible exact Below.refl _ _) | (with_reducible assumption) | (with_reducible refine Below.drew ?_) | (with_reducible refine Below.more ?_ _) | (with_reducible refine Below.put ?_ ?_ _) | (with_reducible refine Below.next ?_ (by with_reducible assumption)) | (with_reducible exact Nat.le_refl _) | (with_reducible refine Below.size' ?_) | omega))).1; have HC2 := Lib.hid (HBX.out w2 (by repeat' (first | (with_reducible exact Below.refl _ _) | (with_reducible assumption) | (with_reducible refine Below.drew ?_) | (with_reducible refine Below.more ?_ _) | (with_reducible refine Below.put ?_ ?_ _) | (with_reducible refine Below.next ?_ (by with_reducible assumption)) | (with_reducible exact Nat.le_refl _) | (with_reducible refine Below.size' ?_) | omega))).2; have kz := HC2.out.cell (j := 12) rfl; clear hb2'))
      | (refine wpList_load_as laySt rfl (.tmp 3) rfl w.heap.size 0 rfl ⟨term, stamp, next, ⟨a1, n1, c1⟩, ⟨a2, n2, c2⟩, ⟨a3, n3, c3⟩, ⟨a4, n4, c4⟩⟩ (.agg #[.int .i64 term, .int .i64 stamp, .int .i64 next, .slice a1 n1 c1, .slice a2 n2 c2, .slice a3 n3 c3, .slice a4 n4 c4]) rfl (HBX.out _ (by repeat' (first | (with_reducible exact Below.refl _ _) | (with_reducible assumption) | (with_reducible refine Below.drew ?_) | (with_reducible refine Below.more ?_ _) | (with_reducible refine Below.put ?_ ?_ _) | (with_reducible refine Below.next ?_ (by with_reducible assumption)) | (with_reducible exact Nat.le_refl _) | (with_reducible refine Below.size' ?_) | omega))).1.range ?_))
  (try simp only [Act.put, List.setIfInBounds_toArray, List.set_cons_zero, List.set_cons_succ])
  go_cut [2] from 64 to 66 (fun v wx => .int .i64 tk = v ∧ w10 = wx)
  case first =>
    go_wp2_with fail
    all_goals (go_meet; exact ⟨congrArg (Value.int .i64) (by rw [← HTK.out]; omega), rfl⟩)
  obtain ⟨rfl, rfl⟩ := hcut
  go_upto_region 8 with (first
      | (have hgq := HB11; clear hgq; refine wpList_store_box laySt rfl (.tmp 12) (.tmp 69) rfl ⟨tu, su, nu, ⟨x1u, m1u, y1u⟩, ⟨x2u, m2u, y2u⟩, ⟨x3u, m3u, y3u⟩, ⟨x4u, m4u, y4u⟩⟩ rfl rfl rfl ?_; intro w12 hw12 ht12 hb12 hs12; have PU12 : Hid (Box w12 w11.heap.size (Raw.cells ⟨tu, su, nu, ⟨x1u, m1u, y1u⟩, ⟨x2u, m2u, y2u⟩, ⟨x3u, m3u, y3u⟩, ⟨x4u, m4u, y4u⟩⟩)) := ⟨hw12, ht12⟩; have HB12 := Lib.hid (below_on HB11.out hb12); have HX12 := Lib.hid (HX11.out.next (show 0 < 7 by decide) hb12); have HC12 := Lib.hid (HC11.out.next (show 0 < 13 by decide) hb12); have PA12 := Lib.hid (PA11.out.next (show 0 < 7 by decide) hb12); have PN12 := Lib.hid (PN11.out.next (show 0 < 5 by decide) hb12); have PB12 := Lib.hid (PB11.out.next (show 0 < 7 by decide) hb12); have PD12 := Lib.hid (PD11.out.next (show 0 < 7 by decide) hb12); have TA12 := Lib.hid (TA11.out.below hb12); have TB12 := Lib.hid (TB11.out.below hb12); have TD12 := Lib.hid (TD11.out.below hb12); have TU12 := Lib.hid (TU11.out.below hb12); clear hw12 ht12 hs12)
      | (go_at_call 20; (try rw [HTK.out]); ((with_reducible refine (KCR.out w10 HB10.out).mono ?_); rintro e w11 ⟨⟨tu, su, nu, ⟨x1u, m1u, y1u⟩, ⟨x2u, m2u, y2u⟩, ⟨x3u, m3u, y3u⟩, ⟨x4u, m4u, y4u⟩⟩, rfl, hs11, hb11⟩; have TU11 := Lib.hid hs11; have HB11 := Lib.hid (below_on HB10.out hb11); have HX11 := Lib.hid (HX10.out.next (show 0 < 7 by decide) hb11); have HC11 := Lib.hid (HC10.out.next (show 0 < 13 by decide) hb11); have PA11 := Lib.hid (PA10.out.next (show 0 < 7 by decide) hb11); have PN11 := Lib.hid (PN10.out.next (show 0 < 5 by decide) hb11); have PB11 := Lib.hid (PB10.out.next (show 0 < 7 by decide) hb11); have PD11 := Lib.hid (PD10.out.next (show 0 < 7 by decide) hb11); have TA11 := Lib.hid (TA10.out.below hb11); have TB11 := Lib.hid (TB10.out.below hb11); have TD11 := Lib.hid (TD10.out.below hb11); clear kc2 kc3 kc6 kc7 kc8 kc9 kc10 kc11 kc12; clear hs11))
      | (have hgq := HB10; clear hgq; refine wpList_load_as laySt rfl (.tmp 3) rfl w.heap.size 0 rfl ⟨term, stamp, next, ⟨a1, n1, c1⟩, ⟨a2, n2, c2⟩, ⟨a3, n3, c3⟩, ⟨a4, n4, c4⟩⟩ (.agg #[.int .i64 term, .int .i64 stamp, .int .i64 next, .slice a1 n1 c1, .slice a2 n2 c2, .slice a3 n3 c3, .slice a4 n4 c4]) rfl HX10.out.range ?_))
  have HF12 : Hid (Five s a b d u w.heap.size w4.heap.size w7.heap.size w9.heap.size w11.heap.size ⟨term, stamp, next, ⟨a1, n1, c1⟩, ⟨a2, n2, c2⟩, ⟨a3, n3, c3⟩, ⟨a4, n4, c4⟩⟩ ⟨ta, sa, na, ⟨x1a, m1a, y1a⟩, ⟨x2a, m2a, y2a⟩, ⟨x3a, m3a, y3a⟩, ⟨x4a, m4a, y4a⟩⟩ ⟨tb, sb, nb, ⟨x1b, m1b, y1b⟩, ⟨x2b, m2b, y2b⟩, ⟨x3b, m3b, y3b⟩, ⟨x4b, m4b, y4b⟩⟩ ⟨td, sd, nd, ⟨x1d, m1d, y1d⟩, ⟨x2d, m2d, y2d⟩, ⟨x3d, m3d, y3d⟩, ⟨x4d, m4d, y4d⟩⟩ ⟨tu, su, nu, ⟨x1u, m1u, y1u⟩, ⟨x2u, m2u, y2u⟩, ⟨x3u, m3u, y3u⟩, ⟨x4u, m4u, y4u⟩⟩ w12) := ⟨HX12.out, PA12.out, PB12.out, PD12.out, PU12.out, HS.out.below HB12.out, TA12.out, TB12.out, TD12.out, TU12.out⟩
  have HBC12 := Lib.hid HC12.out
  clear HX12 PA12 PB12 PD12 PU12 TA12 TB12 TD12 TU12
  go_wp2_with (first
      | (have hgq := HF15; clear hgq; go_at_call 16; ((with_reducible refine (refcheck_st u ⟨tu, su, nu, ⟨x1u, m1u, y1u⟩, ⟨x2u, m2u, y2u⟩, ⟨x3u, m3u, y3u⟩, ⟨x4u, m4u, y4u⟩⟩ 0 w15 HF15.out.s12 (by have := HL.out; have := HSZ.out; omega) (by have := HL.out; have := HSZ.out; omega)).mono ?_); rw [HOU.out]; rintro e w16 ⟨rfl, hb16⟩; have HB16 := Lib.hid (below_on HB15.out hb16); have HF16 := Lib.hid (HF15.out.next hb16); have HC16 := Lib.hid (HC15.out.next (show 0 < 13 by decide) hb16); have PN16 := Lib.hid (PN15.out.next (show 0 < 5 by decide) hb16)))
      | (have hgq := HF15; clear hgq; refine wpList_strip (by rfl) ?_; refine wpList_load_as laySt rfl (.tmp 12) rfl w11.heap.size 0 rfl ⟨tu, su, nu, ⟨x1u, m1u, y1u⟩, ⟨x2u, m2u, y2u⟩, ⟨x3u, m3u, y3u⟩, ⟨x4u, m4u, y4u⟩⟩ (.agg #[.int .i64 tu, .int .i64 su, .int .i64 nu, .slice x1u m1u y1u, .slice x2u m2u y2u, .slice x3u m3u y3u, .slice x4u m4u y4u]) rfl HF15.out.b12.range ?_)
      | (have hgq := HF14; clear hgq; go_at_call 16; ((with_reducible refine (refcheck_st d ⟨td, sd, nd, ⟨x1d, m1d, y1d⟩, ⟨x2d, m2d, y2d⟩, ⟨x3d, m3d, y3d⟩, ⟨x4d, m4d, y4d⟩⟩ 0 w14 HF14.out.s11 (by have := HL.out; have := HSZ.out; omega) (by have := HL.out; have := HSZ.out; omega)).mono ?_); rw [HOD.out]; rintro e w15 ⟨rfl, hb15⟩; have HB15 := Lib.hid (below_on HB14.out hb15); have HF15 := Lib.hid (HF14.out.next hb15); have HC15 := Lib.hid (HC14.out.next (show 0 < 13 by decide) hb15); have PN15 := Lib.hid (PN14.out.next (show 0 < 5 by decide) hb15)))
      | (have hgq := HF14; clear hgq; refine wpList_strip (by rfl) ?_; refine wpList_load_as laySt rfl (.tmp 11) rfl w9.heap.size 0 rfl ⟨td, sd, nd, ⟨x1d, m1d, y1d⟩, ⟨x2d, m2d, y2d⟩, ⟨x3d, m3d, y3d⟩, ⟨x4d, m4d, y4d⟩⟩ (.agg #[.int .i64 td, .int .i64 sd, .int .i64 nd, .slice x1d m1d y1d, .slice x2d m2d y2d, .slice x3d m3d y3d, .slice x4d m4d y4d]) rfl HF14.out.b11.range ?_)
      | (have hgq := HF13; clear hgq; go_at_call 16; ((with_reducible refine (refcheck_st b ⟨tb, sb, nb, ⟨x1b, m1b, y1b⟩, ⟨x2b, m2b, y2b⟩, ⟨x3b, m3b, y3b⟩, ⟨x4b, m4b, y4b⟩⟩ 0 w13 HF13.out.s9 (by have := HL.out; have := HSZ.out; omega) (by have := HL.out; have := HSZ.out; omega)).mono ?_); rw [HOB.out]; rintro e w14 ⟨rfl, hb14⟩; have HB14 := Lib.hid (below_on HB13.out hb14); have HF14 := Lib.hid (HF13.out.next hb14); have HC14 := Lib.hid (HC13.out.next (show 0 < 13 by decide) hb14); have PN14 := Lib.hid (PN13.out.next (show 0 < 5 by decide) hb14)))
      | (have hgq := HF13; clear hgq; refine wpList_strip (by rfl) ?_; refine wpList_load_as laySt rfl (.tmp 9) rfl w7.heap.size 0 rfl ⟨tb, sb, nb, ⟨x1b, m1b, y1b⟩, ⟨x2b, m2b, y2b⟩, ⟨x3b, m3b, y3b⟩, ⟨x4b, m4b, y4b⟩⟩ (.agg #[.int .i64 tb, .int .i64 sb, .int .i64 nb, .slice x1b m1b y1b, .slice x2b m2b y2b, .slice x3b m3b y3b, .slice x4b m4b y4b]) rfl HF13.out.b9.range ?_)
      | (have hgq := HF12; clear hgq; go_at_call 16; ((with_reducible refine (refcheck_st a ⟨ta, sa, na, ⟨x1a, m1a, y1a⟩, ⟨x2a, m2a, y2a⟩, ⟨x3a, m3a, y3a⟩, ⟨x4a, m4a, y4a⟩⟩ 0 w12 HF12.out.s7 (by have := HL.out; have := HSZ.out; omega) (by have := HL.out; have := HSZ.out; omega)).mono ?_); rw [HOA.out]; rintro e w13 ⟨rfl, hb13⟩; have HB13 := Lib.hid (below_on HB12.out hb13); have HF13 := Lib.hid (HF12.out.next hb13); have HC13 := Lib.hid (HC12.out.next (show 0 < 13 by decide) hb13); have PN13 := Lib.hid (PN12.out.next (show 0 < 5 by decide) hb13)))
      | (have hgq := HF12; clear hgq; refine wpList_load_as laySt rfl (.tmp 7) rfl w4.heap.size 0 rfl ⟨ta, sa, na, ⟨x1a, m1a, y1a⟩, ⟨x2a, m2a, y2a⟩, ⟨x3a, m3a, y3a⟩, ⟨x4a, m4a, y4a⟩⟩ (.agg #[.int .i64 ta, .int .i64 sa, .int .i64 na, .slice x1a m1a y1a, .slice x2a m2a y2a, .slice x3a m3a y3a, .slice x4a m4a y4a]) rfl HF12.out.b7.range ?_))
  go_loopw [13] (fun i wr => ∃ k : Nat, 1 ≤ k ∧ k ≤ 17 ∧ i = .int .i64 k ∧ Hid (Below w16.heap.size w16 wr)) (fun i _ => 17 - (intOf i).toNat)
  case atStart => exact ⟨1, by omega, by omega, rfl, Below.refl _ _⟩
  case round =>
    obtain ⟨k, hk1, hk2, rfl, hbr⟩ := hrel
    have HFR := Lib.hid (HF16.out.next hbr.out)
    have HBR := Lib.hid (below_on HB16.out hbr.out)
    by_cases hlt : k < 17
    · have hpf := reffind_any s.tens a1 n1 c1 (k : Int) wr HFR.out.s3.ten.len (le_maxLen (by have := HSZ.out; omega)) HFR.out.s3.trow
      have g5 := HSU.out (k : Int)
      have g6 := HRG.out (k : Int)
      rcases hft : findT s.tens (k : Int) with ⟨⟨fid, frate, fburst, fbucket, fgone⟩, fok⟩
      rw [hft] at hpf g5
      simp only at g5
      obtain ⟨e1, e2, e3, e4, e5, e6⟩ := g5
      have sA := fun W (hF : Five s a b d u w.heap.size w4.heap.size w7.heap.size w9.heap.size w11.heap.size ⟨term, stamp, next, ⟨a1, n1, c1⟩, ⟨a2, n2, c2⟩, ⟨a3, n3, c3⟩, ⟨a4, n4, c4⟩⟩ ⟨ta, sa, na, ⟨x1a, m1a, y1a⟩, ⟨x2a, m2a, y2a⟩, ⟨x3a, m3a, y3a⟩, ⟨x4a, m4a, y4a⟩⟩ ⟨tb, sb, nb, ⟨x1b, m1b, y1b⟩, ⟨x2b, m2b, y2b⟩, ⟨x3b, m3b, y3b⟩, ⟨x4b, m4b, y4b⟩⟩ ⟨td, sd, nd, ⟨x1d, m1d, y1d⟩, ⟨x2d, m2d, y2d⟩, ⟨x3d, m3d, y3d⟩, ⟨x4d, m4d, y4d⟩⟩ ⟨tu, su, nu, ⟨x1u, m1u, y1u⟩, ⟨x2u, m2u, y2u⟩, ⟨x3u, m3u, y3u⟩, ⟨x4u, m4u, y4u⟩⟩ W) => sum_st a ⟨ta, sa, na, ⟨x1a, m1a, y1a⟩, ⟨x2a, m2a, y2a⟩, ⟨x3a, m3a, y3a⟩, ⟨x4a, m4a, y4a⟩⟩ (k : Int) W hF.s7 HOA.out (by have := HL.out; have := HSZ.out; omega) (by have := HL.out; have := HSZ.out; omega)
      have sB := fun W (hF : Five s a b d u w.heap.size w4.heap.size w7.heap.size w9.heap.size w11.heap.size ⟨term, stamp, next, ⟨a1, n1, c1⟩, ⟨a2, n2, c2⟩, ⟨a3, n3, c3⟩, ⟨a4, n4, c4⟩⟩ ⟨ta, sa, na, ⟨x1a, m1a, y1a⟩, ⟨x2a, m2a, y2a⟩, ⟨x3a, m3a, y3a⟩, ⟨x4a, m4a, y4a⟩⟩ ⟨tb, sb, nb, ⟨x1b, m1b, y1b⟩, ⟨x2b, m2b, y2b⟩, ⟨x3b, m3b, y3b⟩, ⟨x4b, m4b, y4b⟩⟩ ⟨td, sd, nd, ⟨x1d, m1d, y1d⟩, ⟨x2d, m2d, y2d⟩, ⟨x3d, m3d, y3d⟩, ⟨x4d, m4d, y4d⟩⟩ ⟨tu, su, nu, ⟨x1u, m1u, y1u⟩, ⟨x2u, m2u, y2u⟩, ⟨x3u, m3u, y3u⟩, ⟨x4u, m4u, y4u⟩⟩ W) => sum_st b ⟨tb, sb, nb, ⟨x1b, m1b, y1b⟩, ⟨x2b, m2b, y2b⟩, ⟨x3b, m3b, y3b⟩, ⟨x4b, m4b, y4b⟩⟩ (k : Int) W hF.s9 HOB.out (by have := HL.out; have := HSZ.out; omega) (by have := HL.out; have := HSZ.out; omega)
      have sD := fun W (hF : Five s a b d u w.heap.size w4.heap.size w7.heap.size w9.heap.size w11.heap.size ⟨term, stamp, next, ⟨a1, n1, c1⟩, ⟨a2, n2, c2⟩, ⟨a3, n3, c3⟩, ⟨a4, n4, c4⟩⟩ ⟨ta, sa, na, ⟨x1a, m1a, y1a⟩, ⟨x2a, m2a, y2a⟩, ⟨x3a, m3a, y3a⟩, ⟨x4a, m4a, y4a⟩⟩ ⟨tb, sb, nb, ⟨x1b, m1b, y1b⟩, ⟨x2b, m2b, y2b⟩, ⟨x3b, m3b, y3b⟩, ⟨x4b, m4b, y4b⟩⟩ ⟨td, sd, nd, ⟨x1d, m1d, y1d⟩, ⟨x2d, m2d, y2d⟩, ⟨x3d, m3d, y3d⟩, ⟨x4d, m4d, y4d⟩⟩ ⟨tu, su, nu, ⟨x1u, m1u, y1u⟩, ⟨x2u, m2u, y2u⟩, ⟨x3u, m3u, y3u⟩, ⟨x4u, m4u, y4u⟩⟩ W) => sum_st d ⟨td, sd, nd, ⟨x1d, m1d, y1d⟩, ⟨x2d, m2d, y2d⟩, ⟨x3d, m3d, y3d⟩, ⟨x4d, m4d, y4d⟩⟩ (k : Int) W hF.s11 HOD.out (by have := HL.out; have := HSZ.out; omega) (by have := HL.out; have := HSZ.out; omega)
      have sU := fun W (hF : Five s a b d u w.heap.size w4.heap.size w7.heap.size w9.heap.size w11.heap.size ⟨term, stamp, next, ⟨a1, n1, c1⟩, ⟨a2, n2, c2⟩, ⟨a3, n3, c3⟩, ⟨a4, n4, c4⟩⟩ ⟨ta, sa, na, ⟨x1a, m1a, y1a⟩, ⟨x2a, m2a, y2a⟩, ⟨x3a, m3a, y3a⟩, ⟨x4a, m4a, y4a⟩⟩ ⟨tb, sb, nb, ⟨x1b, m1b, y1b⟩, ⟨x2b, m2b, y2b⟩, ⟨x3b, m3b, y3b⟩, ⟨x4b, m4b, y4b⟩⟩ ⟨td, sd, nd, ⟨x1d, m1d, y1d⟩, ⟨x2d, m2d, y2d⟩, ⟨x3d, m3d, y3d⟩, ⟨x4d, m4d, y4d⟩⟩ ⟨tu, su, nu, ⟨x1u, m1u, y1u⟩, ⟨x2u, m2u, y2u⟩, ⟨x3u, m3u, y3u⟩, ⟨x4u, m4u, y4u⟩⟩ W) => sum_st u ⟨tu, su, nu, ⟨x1u, m1u, y1u⟩, ⟨x2u, m2u, y2u⟩, ⟨x3u, m3u, y3u⟩, ⟨x4u, m4u, y4u⟩⟩ (k : Int) W hF.s12 HOU.out (by have := HL.out; have := HSZ.out; omega) (by have := HL.out; have := HSZ.out; omega)
      have sS := fun W (hF : Five s a b d u w.heap.size w4.heap.size w7.heap.size w9.heap.size w11.heap.size ⟨term, stamp, next, ⟨a1, n1, c1⟩, ⟨a2, n2, c2⟩, ⟨a3, n3, c3⟩, ⟨a4, n4, c4⟩⟩ ⟨ta, sa, na, ⟨x1a, m1a, y1a⟩, ⟨x2a, m2a, y2a⟩, ⟨x3a, m3a, y3a⟩, ⟨x4a, m4a, y4a⟩⟩ ⟨tb, sb, nb, ⟨x1b, m1b, y1b⟩, ⟨x2b, m2b, y2b⟩, ⟨x3b, m3b, y3b⟩, ⟨x4b, m4b, y4b⟩⟩ ⟨td, sd, nd, ⟨x1d, m1d, y1d⟩, ⟨x2d, m2d, y2d⟩, ⟨x3d, m3d, y3d⟩, ⟨x4d, m4d, y4d⟩⟩ ⟨tu, su, nu, ⟨x1u, m1u, y1u⟩, ⟨x2u, m2u, y2u⟩, ⟨x3u, m3u, y3u⟩, ⟨x4u, m4u, y4u⟩⟩ W) => sum_st s ⟨term, stamp, next, ⟨a1, n1, c1⟩, ⟨a2, n2, c2⟩, ⟨a3, n3, c3⟩, ⟨a4, n4, c4⟩⟩ (k : Int) W hF.s3 HOK.out (by have := HL.out; have := HSZ.out; omega) (by have := HL.out; have := HSZ.out; omega)
      rw [e1] at sA
      generalize sumS s (k : Int) = zA at *
      generalize sumS b (k : Int) = zB at *
      generalize sumS d (k : Int) = zD at *
      generalize sumS u (k : Int) = zU at *
      have hw1 : IntKind.i64.wrap (frate * tk) = frate * tk := IntWalk.i64_in _ ⟨by omega, by omega⟩
      have hw2 : IntKind.i64.wrap (zA + frate * tk) = zA + frate * tk := IntWalk.i64_in _ ⟨by omega, by omega⟩
      have d1 : decide (zA < zB) = false := decide_eq_false (by omega)
      have d2 : decide (zA < zD) = false := decide_eq_false (by omega)
      have d3 : decide (zA + frate * tk < zU) = false := decide_eq_false (by omega)
      have HW1 := Lib.hid hw1
      have HW2 := Lib.hid hw2
      have HD1 := Lib.hid d1
      have HD2 := Lib.hid d2
      have HD3 := Lib.hid d3
      have SA := Lib.hid sA
      have SB := Lib.hid sB
      have SD := Lib.hid sD
      have SU := Lib.hid sU
      have SS := Lib.hid sS
      have HPF := Lib.hid hpf
      have k3 := HFR.out.b3.cell (j := 3) rfl
      clear hpf hft e1 e2 e3 e4 e5 e6 g6 hw1 hw2 d1 d2 d3 sA sB sD sU sS
      go_upto_region 14 with (first
        | (have hgq := HF20; clear hgq; refine wpList_store_box layTen rfl (.tmp 14) (.tmp 97) rfl ⟨fid, frate, fburst, fbucket, fgone⟩ rfl rfl rfl ?_; intro w21 hw21 ht21 hb21 hs21; have HT21 : Hid (Box w21 w20.heap.size (Tenant.cells ⟨fid, frate, fburst, fbucket, fgone⟩)) := ⟨hw21, ht21⟩; have HF21 := Lib.hid (HF20.out.next hb21); have HB21 := Lib.hid (below_on HB20.out hb21); clear hw21 ht21 hs21)
        | (go_at_call 26; ((with_reducible refine HPF.out.mono ?_); rintro e w20 ⟨rfl, hb20⟩; have HF20 := Lib.hid (HFR.out.next hb20); have HB20 := Lib.hid (below_on HBR.out hb20); clear k3)))
      have HK : Hid (∀ w', Five s a b d u w.heap.size w4.heap.size w7.heap.size w9.heap.size w11.heap.size ⟨term, stamp, next, ⟨a1, n1, c1⟩, ⟨a2, n2, c2⟩, ⟨a3, n3, c3⟩, ⟨a4, n4, c4⟩⟩ ⟨ta, sa, na, ⟨x1a, m1a, y1a⟩, ⟨x2a, m2a, y2a⟩, ⟨x3a, m3a, y3a⟩, ⟨x4a, m4a, y4a⟩⟩ ⟨tb, sb, nb, ⟨x1b, m1b, y1b⟩, ⟨x2b, m2b, y2b⟩, ⟨x3b, m3b, y3b⟩, ⟨x4b, m4b, y4b⟩⟩ ⟨td, sd, nd, ⟨x1d, m1d, y1d⟩, ⟨x2d, m2d, y2d⟩, ⟨x3d, m3d, y3d⟩, ⟨x4d, m4d, y4d⟩⟩ ⟨tu, su, nu, ⟨x1u, m1u, y1u⟩, ⟨x2u, m2u, y2u⟩, ⟨x3u, m3u, y3u⟩, ⟨x4u, m4u, y4u⟩⟩ w' → Box w' w20.heap.size (Tenant.cells ⟨fid, frate, fburst, fbucket, fgone⟩) → (w'.cell? ⟨w.heap.size, 0, none⟩ = some (.int .i64 term) ∧ w'.cell? ⟨w.heap.size, 1, none⟩ = some (.int .i64 stamp) ∧ w'.cell? ⟨w.heap.size, 2, none⟩ = some (.int .i64 next) ∧ w'.cell? ⟨w.heap.size, 3, none⟩ = some (.slice a1 n1 c1) ∧ w'.cell? ⟨w.heap.size, 4, none⟩ = some (.slice a2 n2 c2) ∧ w'.cell? ⟨w.heap.size, 5, none⟩ = some (.slice a3 n3 c3) ∧ w'.cell? ⟨w.heap.size, 6, none⟩ = some (.slice a4 n4 c4) ∧ w'.cell? ⟨w4.heap.size, 0, none⟩ = some (.int .i64 ta) ∧ w'.cell? ⟨w4.heap.size, 1, none⟩ = some (.int .i64 sa) ∧ w'.cell? ⟨w4.heap.size, 2, none⟩ = some (.int .i64 na) ∧ w'.cell? ⟨w4.heap.size, 3, none⟩ = some (.slice x1a m1a y1a) ∧ w'.cell? ⟨w4.heap.size, 4, none⟩ = some (.slice x2a m2a y2a) ∧ w'.cell? ⟨w4.heap.size, 5, none⟩ = some (.slice x3a m3a y3a) ∧ w'.cell? ⟨w4.heap.size, 6, none⟩ = some (.slice x4a m4a y4a) ∧ w'.cell? ⟨w7.heap.size, 0, none⟩ = some (.int .i64 tb) ∧ w'.cell? ⟨w7.heap.size, 1, none⟩ = some (.int .i64 sb) ∧ w'.cell? ⟨w7.heap.size, 2, none⟩ = some (.int .i64 nb) ∧ w'.cell? ⟨w7.heap.size, 3, none⟩ = some (.slice x1b m1b y1b) ∧ w'.cell? ⟨w7.heap.size, 4, none⟩ = some (.slice x2b m2b y2b) ∧ w'.cell? ⟨w7.heap.size, 5, none⟩ = some (.slice x3b m3b y3b) ∧ w'.cell? ⟨w7.heap.size, 6, none⟩ = some (.slice x4b m4b y4b) ∧ w'.cell? ⟨w9.heap.size, 0, none⟩ = some (.int .i64 td) ∧ w'.cell? ⟨w9.heap.size, 1, none⟩ = some (.int .i64 sd) ∧ w'.cell? ⟨w9.heap.size, 2, none⟩ = some (.int .i64 nd) ∧ w'.cell? ⟨w9.heap.size, 3, none⟩ = some (.slice x1d m1d y1d) ∧ w'.cell? ⟨w9.heap.size, 4, none⟩ = some (.slice x2d m2d y2d) ∧ w'.cell? ⟨w9.heap.size, 5, none⟩ = some (.slice x3d m3d y3d) ∧ w'.cell? ⟨w9.heap.size, 6, none⟩ = some (.slice x4d m4d y4d) ∧ w'.cell? ⟨w11.heap.size, 0, none⟩ = some (.int .i64 tu) ∧ w'.cell? ⟨w11.heap.size, 1, none⟩ = some (.int .i64 su) ∧ w'.cell? ⟨w11.heap.size, 2, none⟩ = some (.int .i64 nu) ∧ w'.cell? ⟨w11.heap.size, 3, none⟩ = some (.slice x1u m1u y1u) ∧ w'.cell? ⟨w11.heap.size, 4, none⟩ = some (.slice x2u m2u y2u) ∧ w'.cell? ⟨w11.heap.size, 5, none⟩ = some (.slice x3u m3u y3u) ∧ w'.cell? ⟨w11.heap.size, 6, none⟩ = some (.slice x4u m4u y4u) ∧ w'.cell? ⟨w20.heap.size, 1, none⟩ = some (.int .i64 frate))) := fun w' f t => ⟨f.b3.cell (j := 0) rfl, f.b3.cell (j := 1) rfl, f.b3.cell (j := 2) rfl, f.b3.cell (j := 3) rfl, f.b3.cell (j := 4) rfl, f.b3.cell (j := 5) rfl, f.b3.cell (j := 6) rfl, f.b7.cell (j := 0) rfl, f.b7.cell (j := 1) rfl, f.b7.cell (j := 2) rfl, f.b7.cell (j := 3) rfl, f.b7.cell (j := 4) rfl, f.b7.cell (j := 5) rfl, f.b7.cell (j := 6) rfl, f.b9.cell (j := 0) rfl, f.b9.cell (j := 1) rfl, f.b9.cell (j := 2) rfl, f.b9.cell (j := 3) rfl, f.b9.cell (j := 4) rfl, f.b9.cell (j := 5) rfl, f.b9.cell (j := 6) rfl, f.b11.cell (j := 0) rfl, f.b11.cell (j := 1) rfl, f.b11.cell (j := 2) rfl, f.b11.cell (j := 3) rfl, f.b11.cell (j := 4) rfl, f.b11.cell (j := 5) rfl, f.b11.cell (j := 6) rfl, f.b12.cell (j := 0) rfl, f.b12.cell (j := 1) rfl, f.b12.cell (j := 2) rfl, f.b12.cell (j := 3) rfl, f.b12.cell (j := 4) rfl, f.b12.cell (j := 5) rfl, f.b12.cell (j := 6) rfl, t.cell (j := 1) rfl⟩
      have hw1 := HW1.out
      have hw2 := HW2.out
      have d1 := HD1.out
      have d2 := HD2.out
      have d3 := HD3.out
      refine wp_region_held_drew (S := (fun w' => (w'.cell? ⟨w.heap.size, 0, none⟩ = some (.int .i64 term) ∧ w'.cell? ⟨w.heap.size, 1, none⟩ = some (.int .i64 stamp) ∧ w'.cell? ⟨w.heap.size, 2, none⟩ = some (.int .i64 next) ∧ w'.cell? ⟨w.heap.size, 3, none⟩ = some (.slice a1 n1 c1) ∧ w'.cell? ⟨w.heap.size, 4, none⟩ = some (.slice a2 n2 c2) ∧ w'.cell? ⟨w.heap.size, 5, none⟩ = some (.slice a3 n3 c3) ∧ w'.cell? ⟨w.heap.size, 6, none⟩ = some (.slice a4 n4 c4) ∧ w'.cell? ⟨w4.heap.size, 0, none⟩ = some (.int .i64 ta) ∧ w'.cell? ⟨w4.heap.size, 1, none⟩ = some (.int .i64 sa) ∧ w'.cell? ⟨w4.heap.size, 2, none⟩ = some (.int .i64 na) ∧ w'.cell? ⟨w4.heap.size, 3, none⟩ = some (.slice x1a m1a y1a) ∧ w'.cell? ⟨w4.heap.size, 4, none⟩ = some (.slice x2a m2a y2a) ∧ w'.cell? ⟨w4.heap.size, 5, none⟩ = some (.slice x3a m3a y3a) ∧ w'.cell? ⟨w4.heap.size, 6, none⟩ = some (.slice x4a m4a y4a) ∧ w'.cell? ⟨w7.heap.size, 0, none⟩ = some (.int .i64 tb) ∧ w'.cell? ⟨w7.heap.size, 1, none⟩ = some (.int .i64 sb) ∧ w'.cell? ⟨w7.heap.size, 2, none⟩ = some (.int .i64 nb) ∧ w'.cell? ⟨w7.heap.size, 3, none⟩ = some (.slice x1b m1b y1b) ∧ w'.cell? ⟨w7.heap.size, 4, none⟩ = some (.slice x2b m2b y2b) ∧ w'.cell? ⟨w7.heap.size, 5, none⟩ = some (.slice x3b m3b y3b) ∧ w'.cell? ⟨w7.heap.size, 6, none⟩ = some (.slice x4b m4b y4b) ∧ w'.cell? ⟨w9.heap.size, 0, none⟩ = some (.int .i64 td) ∧ w'.cell? ⟨w9.heap.size, 1, none⟩ = some (.int .i64 sd) ∧ w'.cell? ⟨w9.heap.size, 2, none⟩ = some (.int .i64 nd) ∧ w'.cell? ⟨w9.heap.size, 3, none⟩ = some (.slice x1d m1d y1d) ∧ w'.cell? ⟨w9.heap.size, 4, none⟩ = some (.slice x2d m2d y2d) ∧ w'.cell? ⟨w9.heap.size, 5, none⟩ = some (.slice x3d m3d y3d) ∧ w'.cell? ⟨w9.heap.size, 6, none⟩ = some (.slice x4d m4d y4d) ∧ w'.cell? ⟨w11.heap.size, 0, none⟩ = some (.int .i64 tu) ∧ w'.cell? ⟨w11.heap.size, 1, none⟩ = some (.int .i64 su) ∧ w'.cell? ⟨w11.heap.size, 2, none⟩ = some (.int .i64 nu) ∧ w'.cell? ⟨w11.heap.size, 3, none⟩ = some (.slice x1u m1u y1u) ∧ w'.cell? ⟨w11.heap.size, 4, none⟩ = some (.slice x2u m2u y2u) ∧ w'.cell? ⟨w11.heap.size, 5, none⟩ = some (.slice x3u m3u y3u) ∧ w'.cell? ⟨w11.heap.size, 6, none⟩ = some (.slice x4u m4u y4u) ∧ w'.cell? ⟨w20.heap.size, 1, none⟩ = some (.int .i64 frate)))) (by kernel_rfl) (HK.out _ (HF21.out.next (Below.refl _ _).drew) HT21.out.drew) (fun hHeld => ?_)
      refine wpAnyH_take (i := 0) (oi := _) (v := ?v0_8) rfl (by kernel_rfl) (by kernel_rfl) (by kernel_rfl) (fun _ _ _ h => h) (Or.inl ⟨by rfl, ?hy0_8⟩) (by assumption) ?rest0_8
      case hy0_8 =>
        intro w hSw
        (try dsimp only at hSw)
        go_simp
        rfl
      case' rest0_8 => try simp only [Act.put, List.setIfInBounds_toArray, List.set_cons_zero, List.set_cons_succ, List.getElem_toArray, List.getElem_cons_zero, List.getElem_cons_succ]
      refine wpAnyH_take (i := 1) (oi := _) (v := ?v1_9) rfl (by kernel_rfl) (by kernel_rfl) (by kernel_rfl) (fun _ _ _ h => h) (Or.inl ⟨by rfl, ?hy1_9⟩) (by assumption) ?rest1_9
      case hy1_9 =>
        intro w hSw
        (try dsimp only at hSw)
        go_simp
        rfl
      case' rest1_9 => try simp only [Act.put, List.setIfInBounds_toArray, List.set_cons_zero, List.set_cons_succ, List.getElem_toArray, List.getElem_cons_zero, List.getElem_cons_succ]
      refine wpAnyH_take (i := 3) (oi := _) (v := ?v3_10) rfl (by kernel_rfl) (by kernel_rfl) (by kernel_rfl) (fun _ _ _ h => h) (Or.inl ⟨by rfl, ?hy3_10⟩) (by assumption) ?rest3_10
      case hy3_10 =>
        intro w hSw
        (try dsimp only at hSw)
        go_simp
        rfl
      case' rest3_10 => try simp only [Act.put, List.setIfInBounds_toArray, List.set_cons_zero, List.set_cons_succ, List.getElem_toArray, List.getElem_cons_zero, List.getElem_cons_succ]
      refine wpAnyH_take (i := 4) (oi := _) (v := ?v4_11) rfl (by kernel_rfl) (by kernel_rfl) (by kernel_rfl) (fun _ _ _ h => h) (Or.inl ⟨by rfl, ?hy4_11⟩) (by assumption) ?rest4_11
      case hy4_11 =>
        intro w hSw
        (try dsimp only at hSw)
        go_simp
        rfl
      case' rest4_11 => try simp only [Act.put, List.setIfInBounds_toArray, List.set_cons_zero, List.set_cons_succ, List.getElem_toArray, List.getElem_cons_zero, List.getElem_cons_succ]
      refine wpAnyH_ready (rs := [2]) (by kernel_rfl) (by simp) ?_
      refine AllReadyH.cons (o := _) rfl (fun K hK => ?_) AllReadyH.nil
      go_simp
      go_at_call 27
      with_reducible refine (SA.out w21.drew (HF21.out.next (Below.refl _ _).drew)).mono ?_
      rintro e w22 ⟨rfl, hb22a⟩
      have hb22 : Below w21.heap.size w21 w22 := ⟨hb22a.os, hb22a.tape, hb22a.output, hb22a.size, hb22a.block⟩
      clear hb22a
      have HB22 := Lib.hid (below_on HB21.out hb22)
      have HF22 := Lib.hid (HF21.out.next hb22)
      have HT22 := Lib.hid (HT21.out.next (show 0 < 5 by decide) hb22)
      clear hHeld
      refine hK.out _ _ (HK.out _ HF22.out HT22.out) (fun hHeld => ?_)
      clear hK K
      try simp only [Act.put, List.setIfInBounds_toArray, List.set_cons_zero, List.set_cons_succ, List.getElem_toArray, List.getElem_cons_zero, List.getElem_cons_succ]
      refine wpAnyH_ready (rs := [5]) (by kernel_rfl) (by simp) ?_
      refine AllReadyH.cons (o := _) rfl (fun K hK => ?_) AllReadyH.nil
      go_simp
      go_at_call 27
      with_reducible refine (SS.out w22 HF22.out).mono ?_
      rintro e w23 ⟨rfl, hb23a⟩
      have hb23 : Below w22.heap.size w22 w23 := ⟨hb23a.os, hb23a.tape, hb23a.output, hb23a.size, hb23a.block⟩
      clear hb23a
      have HB23 := Lib.hid (below_on HB22.out hb23)
      have HF23 := Lib.hid (HF22.out.next hb23)
      have HT23 := Lib.hid (HT22.out.next (show 0 < 5 by decide) hb23)
      clear hHeld
      refine hK.out _ _ (HK.out _ HF23.out HT23.out) (fun hHeld => ?_)
      clear hK K
      try simp only [Act.put, List.setIfInBounds_toArray, List.set_cons_zero, List.set_cons_succ, List.getElem_toArray, List.getElem_cons_zero, List.getElem_cons_succ]
      refine wpAnyH_take (i := 6) (oi := _) (v := ?v6_12) rfl (by kernel_rfl) (by kernel_rfl) (by kernel_rfl) (fun _ _ _ h => h) (Or.inl ⟨by rfl, ?hy6_12⟩) (by assumption) ?rest6_12
      case hy6_12 =>
        intro w hSw
        (try dsimp only at hSw)
        go_simp
        rfl
      case' rest6_12 => try simp only [Act.put, List.setIfInBounds_toArray, List.set_cons_zero, List.set_cons_succ, List.getElem_toArray, List.getElem_cons_zero, List.getElem_cons_succ]
      refine wpAnyH_take (i := 7) (oi := _) (v := ?v7_13) rfl (by kernel_rfl) (by kernel_rfl) (by kernel_rfl) (fun _ _ _ h => h) (Or.inl ⟨by rfl, ?hy7_13⟩) (by assumption) ?rest7_13
      case hy7_13 =>
        intro w hSw
        (try dsimp only at hSw)
        go_simp
        rfl
      case' rest7_13 => try simp only [Act.put, List.setIfInBounds_toArray, List.set_cons_zero, List.set_cons_succ, List.getElem_toArray, List.getElem_cons_zero, List.getElem_cons_succ]
      refine wpAnyH_take (i := 8) (oi := _) (v := ?v8_14) rfl (by kernel_rfl) (by kernel_rfl) (by kernel_rfl) (fun _ _ _ h => h) (Or.inl ⟨by rfl, ?hy8_14⟩) (by assumption) ?rest8_14
      case hy8_14 =>
        intro w hSw
        (try dsimp only at hSw)
        go_simp
        rfl
      case' rest8_14 => try simp only [Act.put, List.setIfInBounds_toArray, List.set_cons_zero, List.set_cons_succ, List.getElem_toArray, List.getElem_cons_zero, List.getElem_cons_succ]
      refine wpAnyH_take (i := 9) (oi := _) (v := ?v9_15) rfl (by kernel_rfl) (by kernel_rfl) (by kernel_rfl) (fun _ _ _ h => h) (Or.inl ⟨by rfl, ?hy9_15⟩) (by assumption) ?rest9_15
      case hy9_15 =>
        intro w hSw
        (try dsimp only at hSw)
        go_simp
        rfl
      case' rest9_15 => try simp only [Act.put, List.setIfInBounds_toArray, List.set_cons_zero, List.set_cons_succ, List.getElem_toArray, List.getElem_cons_zero, List.getElem_cons_succ]
      refine wpAnyH_take (i := 11) (oi := _) (v := ?v11_16) rfl (by kernel_rfl) (by kernel_rfl) (by kernel_rfl) (fun _ _ _ h => h) (Or.inl ⟨by rfl, ?hy11_16⟩) (by assumption) ?rest11_16
      case hy11_16 =>
        intro w hSw
        (try dsimp only at hSw)
        go_simp
        rfl
      case' rest11_16 => try simp only [Act.put, List.setIfInBounds_toArray, List.set_cons_zero, List.set_cons_succ, List.getElem_toArray, List.getElem_cons_zero, List.getElem_cons_succ]
      refine wpAnyH_take (i := 12) (oi := _) (v := ?v12_17) rfl (by kernel_rfl) (by kernel_rfl) (by kernel_rfl) (fun _ _ _ h => h) (Or.inl ⟨by rfl, ?hy12_17⟩) (by assumption) ?rest12_17
      case hy12_17 =>
        intro w hSw
        (try dsimp only at hSw)
        go_simp
        rfl
      case' rest12_17 => try simp only [Act.put, List.setIfInBounds_toArray, List.set_cons_zero, List.set_cons_succ, List.getElem_toArray, List.getElem_cons_zero, List.getElem_cons_succ]
      refine wpAnyH_ready (rs := [10]) (by kernel_rfl) (by simp) ?_
      refine AllReadyH.cons (o := _) rfl (fun K hK => ?_) AllReadyH.nil
      go_simp
      go_at_call 27
      with_reducible refine (SB.out w23 HF23.out).mono ?_
      rintro e w24 ⟨rfl, hb24a⟩
      have hb24 : Below w23.heap.size w23 w24 := ⟨hb24a.os, hb24a.tape, hb24a.output, hb24a.size, hb24a.block⟩
      clear hb24a
      have HB24 := Lib.hid (below_on HB23.out hb24)
      have HF24 := Lib.hid (HF23.out.next hb24)
      have HT24 := Lib.hid (HT23.out.next (show 0 < 5 by decide) hb24)
      clear hHeld
      refine hK.out _ _ (HK.out _ HF24.out HT24.out) (fun hHeld => ?_)
      clear hK K
      try simp only [Act.put, List.setIfInBounds_toArray, List.set_cons_zero, List.set_cons_succ, List.getElem_toArray, List.getElem_cons_zero, List.getElem_cons_succ]
      refine wpAnyH_ready (rs := [13]) (by kernel_rfl) (by simp) ?_
      refine AllReadyH.cons (o := _) rfl (fun K hK => ?_) AllReadyH.nil
      go_simp
      go_at_call 27
      with_reducible refine (SS.out w24 HF24.out).mono ?_
      rintro e w25 ⟨rfl, hb25a⟩
      have hb25 : Below w24.heap.size w24 w25 := ⟨hb25a.os, hb25a.tape, hb25a.output, hb25a.size, hb25a.block⟩
      clear hb25a
      have HB25 := Lib.hid (below_on HB24.out hb25)
      have HF25 := Lib.hid (HF24.out.next hb25)
      have HT25 := Lib.hid (HT24.out.next (show 0 < 5 by decide) hb25)
      clear hHeld
      refine hK.out _ _ (HK.out _ HF25.out HT25.out) (fun hHeld => ?_)
      clear hK K
      try simp only [Act.put, List.setIfInBounds_toArray, List.set_cons_zero, List.set_cons_succ, List.getElem_toArray, List.getElem_cons_zero, List.getElem_cons_succ]
      refine wpAnyH_take (i := 14) (oi := _) (v := ?v14_18) rfl (by kernel_rfl) (by kernel_rfl) (by kernel_rfl) (fun _ _ _ h => h) (Or.inl ⟨by rfl, ?hy14_18⟩) (by assumption) ?rest14_18
      case hy14_18 =>
        intro w hSw
        (try dsimp only at hSw)
        go_simp
        rfl
      case' rest14_18 => try simp only [Act.put, List.setIfInBounds_toArray, List.set_cons_zero, List.set_cons_succ, List.getElem_toArray, List.getElem_cons_zero, List.getElem_cons_succ]
      refine wpAnyH_take (i := 15) (oi := _) (v := ?v15_19) rfl (by kernel_rfl) (by kernel_rfl) (by kernel_rfl) (fun _ _ _ h => h) (Or.inl ⟨by rfl, ?hy15_19⟩) (by assumption) ?rest15_19
      case hy15_19 =>
        intro w hSw
        (try dsimp only at hSw)
        go_simp
        rfl
      case' rest15_19 => try simp only [Act.put, List.setIfInBounds_toArray, List.set_cons_zero, List.set_cons_succ, List.getElem_toArray, List.getElem_cons_zero, List.getElem_cons_succ]
      refine wpAnyH_take (i := 16) (oi := _) (v := ?v16_20) rfl (by kernel_rfl) (by kernel_rfl) (by kernel_rfl) (fun _ _ _ h => h) (Or.inl ⟨by rfl, ?hy16_20⟩) (by assumption) ?rest16_20
      case hy16_20 =>
        intro w hSw
        (try dsimp only at hSw)
        go_simp
        rfl
      case' rest16_20 => try simp only [Act.put, List.setIfInBounds_toArray, List.set_cons_zero, List.set_cons_succ, List.getElem_toArray, List.getElem_cons_zero, List.getElem_cons_succ]
      refine wpAnyH_take (i := 17) (oi := _) (v := ?v17_21) rfl (by kernel_rfl) (by kernel_rfl) (by kernel_rfl) (fun _ _ _ h => h) (Or.inl ⟨by rfl, ?hy17_21⟩) (by assumption) ?rest17_21
      case hy17_21 =>
        intro w hSw
        (try dsimp only at hSw)
        go_simp
        rfl
      case' rest17_21 => try simp only [Act.put, List.setIfInBounds_toArray, List.set_cons_zero, List.set_cons_succ, List.getElem_toArray, List.getElem_cons_zero, List.getElem_cons_succ]
      refine wpAnyH_take (i := 18) (oi := _) (v := ?v18_22) rfl (by kernel_rfl) (by kernel_rfl) (by kernel_rfl) (fun _ _ _ h => h) (Or.inl ⟨by rfl, ?hy18_22⟩) (by assumption) ?rest18_22
      case hy18_22 =>
        intro w hSw
        (try dsimp only at hSw)
        go_simp
        rfl
      case' rest18_22 => try simp only [Act.put, List.setIfInBounds_toArray, List.set_cons_zero, List.set_cons_succ, List.getElem_toArray, List.getElem_cons_zero, List.getElem_cons_succ]
      refine wpAnyH_take (i := 20) (oi := _) (v := ?v20_23) rfl (by kernel_rfl) (by kernel_rfl) (by kernel_rfl) (fun _ _ _ h => h) (Or.inl ⟨by rfl, ?hy20_23⟩) (by assumption) ?rest20_23
      case hy20_23 =>
        intro w hSw
        (try dsimp only at hSw)
        go_simp
        rfl
      case' rest20_23 => try simp only [Act.put, List.setIfInBounds_toArray, List.set_cons_zero, List.set_cons_succ, List.getElem_toArray, List.getElem_cons_zero, List.getElem_cons_succ]
      refine wpAnyH_take (i := 21) (oi := _) (v := ?v21_24) rfl (by kernel_rfl) (by kernel_rfl) (by kernel_rfl) (fun _ _ _ h => h) (Or.inl ⟨by rfl, ?hy21_24⟩) (by assumption) ?rest21_24
      case hy21_24 =>
        intro w hSw
        (try dsimp only at hSw)
        go_simp
        rfl
      case' rest21_24 => try simp only [Act.put, List.setIfInBounds_toArray, List.set_cons_zero, List.set_cons_succ, List.getElem_toArray, List.getElem_cons_zero, List.getElem_cons_succ]
      refine wpAnyH_ready (rs := [19]) (by kernel_rfl) (by simp) ?_
      refine AllReadyH.cons (o := _) rfl (fun K hK => ?_) AllReadyH.nil
      go_simp
      go_at_call 27
      with_reducible refine (SD.out w25 HF25.out).mono ?_
      rintro e w26 ⟨rfl, hb26a⟩
      have hb26 : Below w25.heap.size w25 w26 := ⟨hb26a.os, hb26a.tape, hb26a.output, hb26a.size, hb26a.block⟩
      clear hb26a
      have HB26 := Lib.hid (below_on HB25.out hb26)
      have HF26 := Lib.hid (HF25.out.next hb26)
      have HT26 := Lib.hid (HT25.out.next (show 0 < 5 by decide) hb26)
      clear hHeld
      refine hK.out _ _ (HK.out _ HF26.out HT26.out) (fun hHeld => ?_)
      clear hK K
      try simp only [Act.put, List.setIfInBounds_toArray, List.set_cons_zero, List.set_cons_succ, List.getElem_toArray, List.getElem_cons_zero, List.getElem_cons_succ]
      refine wpAnyH_ready (rs := [22]) (by kernel_rfl) (by simp) ?_
      refine AllReadyH.cons (o := _) rfl (fun K hK => ?_) AllReadyH.nil
      go_simp
      go_at_call 27
      with_reducible refine (SS.out w26 HF26.out).mono ?_
      rintro e w27 ⟨rfl, hb27a⟩
      have hb27 : Below w26.heap.size w26 w27 := ⟨hb27a.os, hb27a.tape, hb27a.output, hb27a.size, hb27a.block⟩
      clear hb27a
      have HB27 := Lib.hid (below_on HB26.out hb27)
      have HF27 := Lib.hid (HF26.out.next hb27)
      have HT27 := Lib.hid (HT26.out.next (show 0 < 5 by decide) hb27)
      clear hHeld
      refine hK.out _ _ (HK.out _ HF27.out HT27.out) (fun hHeld => ?_)
      clear hK K
      try simp only [Act.put, List.setIfInBounds_toArray, List.set_cons_zero, List.set_cons_succ, List.getElem_toArray, List.getElem_cons_zero, List.getElem_cons_succ]
      refine wpAnyH_take (i := 23) (oi := _) (v := ?v23_25) rfl (by kernel_rfl) (by kernel_rfl) (by kernel_rfl) (fun _ _ _ h => h) (Or.inl ⟨by rfl, ?hy23_25⟩) (by assumption) ?rest23_25
      case hy23_25 =>
        intro w hSw
        (try dsimp only at hSw)
        go_simp
        rfl
      case' rest23_25 => try simp only [Act.put, List.setIfInBounds_toArray, List.set_cons_zero, List.set_cons_succ, List.getElem_toArray, List.getElem_cons_zero, List.getElem_cons_succ]
      refine wpAnyH_take (i := 24) (oi := _) (v := ?v24_26) rfl (by kernel_rfl) (by kernel_rfl) (by kernel_rfl) (fun _ _ _ h => h) (Or.inl ⟨by rfl, ?hy24_26⟩) (by assumption) ?rest24_26
      case hy24_26 =>
        intro w hSw
        (try dsimp only at hSw)
        go_simp
        rfl
      case' rest24_26 => try simp only [Act.put, List.setIfInBounds_toArray, List.set_cons_zero, List.set_cons_succ, List.getElem_toArray, List.getElem_cons_zero, List.getElem_cons_succ]
      refine wpAnyH_take (i := 25) (oi := _) (v := ?v25_27) rfl (by kernel_rfl) (by kernel_rfl) (by kernel_rfl) (fun _ _ _ h => h) (Or.inl ⟨by rfl, ?hy25_27⟩) (by assumption) ?rest25_27
      case hy25_27 =>
        intro w hSw
        (try dsimp only at hSw)
        go_simp
        rfl
      case' rest25_27 => try simp only [Act.put, List.setIfInBounds_toArray, List.set_cons_zero, List.set_cons_succ, List.getElem_toArray, List.getElem_cons_zero, List.getElem_cons_succ]
      refine wpAnyH_take (i := 26) (oi := _) (v := ?v26_28) rfl (by kernel_rfl) (by kernel_rfl) (by kernel_rfl) (fun _ _ _ h => h) (Or.inl ⟨by rfl, ?hy26_28⟩) (by assumption) ?rest26_28
      case hy26_28 =>
        intro w hSw
        (try dsimp only at hSw)
        go_simp
        rfl
      case' rest26_28 => try simp only [Act.put, List.setIfInBounds_toArray, List.set_cons_zero, List.set_cons_succ, List.getElem_toArray, List.getElem_cons_zero, List.getElem_cons_succ]
      refine wpAnyH_take (i := 27) (oi := _) (v := ?v27_29) rfl (by kernel_rfl) (by kernel_rfl) (by kernel_rfl) (fun _ _ _ h => h) (Or.inl ⟨by rfl, ?hy27_29⟩) (by assumption) ?rest27_29
      case hy27_29 =>
        intro w hSw
        (try dsimp only at hSw)
        go_simp
        rfl
      case' rest27_29 => try simp only [Act.put, List.setIfInBounds_toArray, List.set_cons_zero, List.set_cons_succ, List.getElem_toArray, List.getElem_cons_zero, List.getElem_cons_succ]
      refine wpAnyH_take (i := 29) (oi := _) (v := ?v29_30) rfl (by kernel_rfl) (by kernel_rfl) (by kernel_rfl) (fun _ _ _ h => h) (Or.inl ⟨by rfl, ?hy29_30⟩) (by assumption) ?rest29_30
      case hy29_30 =>
        intro w hSw
        (try dsimp only at hSw)
        go_simp
        rfl
      case' rest29_30 => try simp only [Act.put, List.setIfInBounds_toArray, List.set_cons_zero, List.set_cons_succ, List.getElem_toArray, List.getElem_cons_zero, List.getElem_cons_succ]
      refine wpAnyH_take (i := 30) (oi := _) (v := ?v30_31) rfl (by kernel_rfl) (by kernel_rfl) (by kernel_rfl) (fun _ _ _ h => h) (Or.inl ⟨by rfl, ?hy30_31⟩) (by assumption) ?rest30_31
      case hy30_31 =>
        intro w hSw
        (try dsimp only at hSw)
        go_simp
        rfl
      case' rest30_31 => try simp only [Act.put, List.setIfInBounds_toArray, List.set_cons_zero, List.set_cons_succ, List.getElem_toArray, List.getElem_cons_zero, List.getElem_cons_succ]
      refine wpAnyH_take (i := 32) (oi := _) (v := ?v32_32) rfl (by kernel_rfl) (by kernel_rfl) (by kernel_rfl) (fun _ _ _ h => h) (Or.inl ⟨by rfl, ?hy32_32⟩) (by assumption) ?rest32_32
      case hy32_32 =>
        intro w hSw
        (try dsimp only at hSw)
        go_simp
        rfl
      case' rest32_32 => try simp only [Act.put, List.setIfInBounds_toArray, List.set_cons_zero, List.set_cons_succ, List.getElem_toArray, List.getElem_cons_zero, List.getElem_cons_succ]
      refine wpAnyH_take (i := 33) (oi := _) (v := ?v33_33) rfl (by kernel_rfl) (by kernel_rfl) (by kernel_rfl) (fun _ _ _ h => h) (Or.inl ⟨by rfl, ?hy33_33⟩) (by assumption) ?rest33_33
      case hy33_33 =>
        intro w hSw
        (try dsimp only at hSw)
        go_simp
        rfl
      case' rest33_33 => try simp only [Act.put, List.setIfInBounds_toArray, List.set_cons_zero, List.set_cons_succ, List.getElem_toArray, List.getElem_cons_zero, List.getElem_cons_succ]
      refine wpAnyH_take (i := 34) (oi := _) (v := ?v34_34) rfl (by kernel_rfl) (by kernel_rfl) (by kernel_rfl) (fun _ _ _ h => h) (Or.inl ⟨by rfl, ?hy34_34⟩) (by assumption) ?rest34_34
      case hy34_34 =>
        intro w hSw
        (try dsimp only at hSw)
        go_simp
        rfl
      case' rest34_34 => try simp only [Act.put, List.setIfInBounds_toArray, List.set_cons_zero, List.set_cons_succ, List.getElem_toArray, List.getElem_cons_zero, List.getElem_cons_succ]
      refine wpAnyH_take (i := 35) (oi := _) (v := ?v35_35) rfl (by kernel_rfl) (by kernel_rfl) (by kernel_rfl) (fun _ _ _ h => h) (Or.inl ⟨by rfl, ?hy35_35⟩) (by assumption) ?rest35_35
      case hy35_35 =>
        intro w hSw
        (try dsimp only at hSw)
        go_simp
        rfl
      case' rest35_35 => try simp only [Act.put, List.setIfInBounds_toArray, List.set_cons_zero, List.set_cons_succ, List.getElem_toArray, List.getElem_cons_zero, List.getElem_cons_succ]
      refine wpAnyH_ready (rs := [28]) (by kernel_rfl) (by simp) ?_
      refine AllReadyH.cons (o := _) rfl (fun K hK => ?_) AllReadyH.nil
      go_simp
      go_at_call 27
      with_reducible refine (SU.out w27 HF27.out).mono ?_
      rintro e w28 ⟨rfl, hb28a⟩
      have hb28 : Below w27.heap.size w27 w28 := ⟨hb28a.os, hb28a.tape, hb28a.output, hb28a.size, hb28a.block⟩
      clear hb28a
      have HB28 := Lib.hid (below_on HB27.out hb28)
      have HF28 := Lib.hid (HF27.out.next hb28)
      have HT28 := Lib.hid (HT27.out.next (show 0 < 5 by decide) hb28)
      clear hHeld
      refine hK.out _ _ (HK.out _ HF28.out HT28.out) (fun hHeld => ?_)
      clear hK K
      try simp only [Act.put, List.setIfInBounds_toArray, List.set_cons_zero, List.set_cons_succ, List.getElem_toArray, List.getElem_cons_zero, List.getElem_cons_succ]
      refine wpAnyH_ready (rs := [31]) (by kernel_rfl) (by simp) ?_
      refine AllReadyH.cons (o := _) rfl (fun K hK => ?_) AllReadyH.nil
      go_simp
      go_at_call 27
      with_reducible refine (SS.out w28 HF28.out).mono ?_
      rintro e w29 ⟨rfl, hb29a⟩
      have hb29 : Below w28.heap.size w28 w29 := ⟨hb29a.os, hb29a.tape, hb29a.output, hb29a.size, hb29a.block⟩
      clear hb29a
      have HB29 := Lib.hid (below_on HB28.out hb29)
      have HF29 := Lib.hid (HF28.out.next hb29)
      have HT29 := Lib.hid (HT28.out.next (show 0 < 5 by decide) hb29)
      clear hHeld
      refine hK.out _ _ (HK.out _ HF29.out HT29.out) (fun hHeld => ?_)
      clear hK K
      try simp only [Act.put, List.setIfInBounds_toArray, List.set_cons_zero, List.set_cons_succ, List.getElem_toArray, List.getElem_cons_zero, List.getElem_cons_succ]
      refine wpAnyH_take (i := 36) (oi := _) (v := ?v36_36) rfl (by kernel_rfl) (by kernel_rfl) (by kernel_rfl) (fun _ _ _ h => h) (Or.inl ⟨by rfl, ?hy36_36⟩) (by assumption) ?rest36_36
      case hy36_36 =>
        intro w hSw
        (try dsimp only at hSw)
        go_simp
        rfl
      case' rest36_36 => try simp only [Act.put, List.setIfInBounds_toArray, List.set_cons_zero, List.set_cons_succ, List.getElem_toArray, List.getElem_cons_zero, List.getElem_cons_succ]
      refine wpAnyH_take (i := 37) (oi := _) (v := ?v37_37) rfl (by kernel_rfl) (by kernel_rfl) (by kernel_rfl) (fun _ _ _ h => h) (Or.inl ⟨by rfl, ?hy37_37⟩) (by assumption) ?rest37_37
      case hy37_37 =>
        intro w hSw
        (try dsimp only at hSw)
        go_simp
        rfl
      case' rest37_37 => try simp only [Act.put, List.setIfInBounds_toArray, List.set_cons_zero, List.set_cons_succ, List.getElem_toArray, List.getElem_cons_zero, List.getElem_cons_succ]
      refine wpAnyH_take (i := 38) (oi := _) (v := ?v38_38) rfl (by kernel_rfl) (by kernel_rfl) (by kernel_rfl) (fun _ _ _ h => h) (Or.inl ⟨by rfl, ?hy38_38⟩) (by assumption) ?rest38_38
      case hy38_38 =>
        intro w hSw
        (try dsimp only at hSw)
        go_simp
        rfl
      case' rest38_38 => try simp only [Act.put, List.setIfInBounds_toArray, List.set_cons_zero, List.set_cons_succ, List.getElem_toArray, List.getElem_cons_zero, List.getElem_cons_succ]
      refine wpAnyH_done (by kernel_rfl) ?_ _
      clear hHeld
      clear hw1 hw2 d1 d2 d3
      go_wp2_with fail
      have hq : Below w16.heap.size w16 w29 := hbr.out.trans ((hb20.mono hbr.out.size).trans ((hb21.mono (Nat.le_trans hbr.out.size hb20.size)).trans (on8 hb22 hb23 hb24 hb25 hb26 hb27 hb28 hb29 (Nat.le_trans hbr.out.size (Nat.le_trans hb20.size hb21.size)))))
      go_roundw
      case rel => exact ⟨k + 1, by omega, by omega, by go_num, hq⟩
      case measure => simp [intOf]; omega
    · obtain rfl : k = 17 := by omega
      have HCR := Lib.hid (HC16.out.next (show 0 < 13 by decide) hbr.out)
      have PNR := Lib.hid (PN16.out.next (show 0 < 5 by decide) hbr.out)
      have HFITA := Lib.hid (leasOk_fits (stOk_parts HOA.out).1 (stOk_parts HOA.out).2.1)
      have HFITS := Lib.hid (leasOk_fits (stOk_parts HOK.out).1 (stOk_parts HOK.out).2.1)
      have HLA : Hid (a.leas.length ≤ 64 ∧ s.leas.length ≤ 64) := ⟨(stOk_parts HOA.out).2.2.1.1, (stOk_parts HOK.out).2.2.1.1⟩
      go_upto_region 16 with (fail)
      by_cases hae : ae = 0
      · have HEQ := Lib.hid (HGS.out.2.2 hae)
        have oA := fun W (hF : Five s a b d u w.heap.size w4.heap.size w7.heap.size w9.heap.size w11.heap.size ⟨term, stamp, next, ⟨a1, n1, c1⟩, ⟨a2, n2, c2⟩, ⟨a3, n3, c3⟩, ⟨a4, n4, c4⟩⟩ ⟨ta, sa, na, ⟨x1a, m1a, y1a⟩, ⟨x2a, m2a, y2a⟩, ⟨x3a, m3a, y3a⟩, ⟨x4a, m4a, y4a⟩⟩ ⟨tb, sb, nb, ⟨x1b, m1b, y1b⟩, ⟨x2b, m2b, y2b⟩, ⟨x3b, m3b, y3b⟩, ⟨x4b, m4b, y4b⟩⟩ ⟨td, sd, nd, ⟨x1d, m1d, y1d⟩, ⟨x2d, m2d, y2d⟩, ⟨x3d, m3d, y3d⟩, ⟨x4d, m4d, y4d⟩⟩ ⟨tu, su, nu, ⟨x1u, m1u, y1u⟩, ⟨x2u, m2u, y2u⟩, ⟨x3u, m3u, y3u⟩, ⟨x4u, m4u, y4u⟩⟩ W) => refout_any a.leas ⟨ta, sa, na, ⟨x1a, m1a, y1a⟩, ⟨x2a, m2a, y2a⟩, ⟨x3a, m3a, y3a⟩, ⟨x4a, m4a, y4a⟩⟩ tenant W hF.s7.lea.len (by have := HLA.out.1; omega) HFITA.out hF.s7.lea.row
        have oS := fun W (hF : Five s a b d u w.heap.size w4.heap.size w7.heap.size w9.heap.size w11.heap.size ⟨term, stamp, next, ⟨a1, n1, c1⟩, ⟨a2, n2, c2⟩, ⟨a3, n3, c3⟩, ⟨a4, n4, c4⟩⟩ ⟨ta, sa, na, ⟨x1a, m1a, y1a⟩, ⟨x2a, m2a, y2a⟩, ⟨x3a, m3a, y3a⟩, ⟨x4a, m4a, y4a⟩⟩ ⟨tb, sb, nb, ⟨x1b, m1b, y1b⟩, ⟨x2b, m2b, y2b⟩, ⟨x3b, m3b, y3b⟩, ⟨x4b, m4b, y4b⟩⟩ ⟨td, sd, nd, ⟨x1d, m1d, y1d⟩, ⟨x2d, m2d, y2d⟩, ⟨x3d, m3d, y3d⟩, ⟨x4d, m4d, y4d⟩⟩ ⟨tu, su, nu, ⟨x1u, m1u, y1u⟩, ⟨x2u, m2u, y2u⟩, ⟨x3u, m3u, y3u⟩, ⟨x4u, m4u, y4u⟩⟩ W) => refout_any s.leas ⟨term, stamp, next, ⟨a1, n1, c1⟩, ⟨a2, n2, c2⟩, ⟨a3, n3, c3⟩, ⟨a4, n4, c4⟩⟩ tenant W hF.s3.lea.len (by have := HLA.out.2; omega) HFITS.out hF.s3.lea.row
        have hr1 := outL_range tenant HFITA.out
        have hr2 := outL_range tenant HFITS.out
        have hll := HLA.out
        rw [HEQ.out] at oA hr1
        generalize outL s.leas tenant = o at *
        have hw1 : IntKind.i64.wrap (o + size) = o + size := IntWalk.i64_in _ ⟨by omega, by omega⟩
        have OA := Lib.hid oA
        have OS := Lib.hid oS
        have HW1 := Lib.hid hw1
        clear oA oS hr1 hr2 hll hw1 HEQ
        subst hae
        have hw1 := HW1.out
        obtain ⟨w30, hw30⟩ : ∃ x, x = wr := ⟨_, rfl⟩
        rw [← hw30] at HFR HBR HCR PNR ⊢
        have HF30 := Lib.hid HFR.out
        have HB30 := Lib.hid HBR.out
        have HC30 := Lib.hid HCR.out
        have PN30 := Lib.hid PNR.out
        clear hw30
        have HK : Hid (∀ w', Five s a b d u w.heap.size w4.heap.size w7.heap.size w9.heap.size w11.heap.size ⟨term, stamp, next, ⟨a1, n1, c1⟩, ⟨a2, n2, c2⟩, ⟨a3, n3, c3⟩, ⟨a4, n4, c4⟩⟩ ⟨ta, sa, na, ⟨x1a, m1a, y1a⟩, ⟨x2a, m2a, y2a⟩, ⟨x3a, m3a, y3a⟩, ⟨x4a, m4a, y4a⟩⟩ ⟨tb, sb, nb, ⟨x1b, m1b, y1b⟩, ⟨x2b, m2b, y2b⟩, ⟨x3b, m3b, y3b⟩, ⟨x4b, m4b, y4b⟩⟩ ⟨td, sd, nd, ⟨x1d, m1d, y1d⟩, ⟨x2d, m2d, y2d⟩, ⟨x3d, m3d, y3d⟩, ⟨x4d, m4d, y4d⟩⟩ ⟨tu, su, nu, ⟨x1u, m1u, y1u⟩, ⟨x2u, m2u, y2u⟩, ⟨x3u, m3u, y3u⟩, ⟨x4u, m4u, y4u⟩⟩ w' → Box w' (w4.heap.size + 1) (Ans.cells ⟨0, ar, ab, al, az⟩) → Box w' (w.heap.size + 1) (Cmd.cells ⟨kind, client, number, tenant, rate, burst, shaper, epoch, lease, size, spent, closed, ⟨za, zn, zc⟩⟩) → (w'.cell? ⟨w.heap.size, 0, none⟩ = some (.int .i64 term) ∧ w'.cell? ⟨w.heap.size, 1, none⟩ = some (.int .i64 stamp) ∧ w'.cell? ⟨w.heap.size, 2, none⟩ = some (.int .i64 next) ∧ w'.cell? ⟨w.heap.size, 3, none⟩ = some (.slice a1 n1 c1) ∧ w'.cell? ⟨w.heap.size, 4, none⟩ = some (.slice a2 n2 c2) ∧ w'.cell? ⟨w.heap.size, 5, none⟩ = some (.slice a3 n3 c3) ∧ w'.cell? ⟨w.heap.size, 6, none⟩ = some (.slice a4 n4 c4) ∧ w'.cell? ⟨w4.heap.size, 0, none⟩ = some (.int .i64 ta) ∧ w'.cell? ⟨w4.heap.size, 1, none⟩ = some (.int .i64 sa) ∧ w'.cell? ⟨w4.heap.size, 2, none⟩ = some (.int .i64 na) ∧ w'.cell? ⟨w4.heap.size, 3, none⟩ = some (.slice x1a m1a y1a) ∧ w'.cell? ⟨w4.heap.size, 4, none⟩ = some (.slice x2a m2a y2a) ∧ w'.cell? ⟨w4.heap.size, 5, none⟩ = some (.slice x3a m3a y3a) ∧ w'.cell? ⟨w4.heap.size, 6, none⟩ = some (.slice x4a m4a y4a) ∧ w'.cell? ⟨w4.heap.size + 1, 0, none⟩ = some (.int .i64 0) ∧ w'.cell? ⟨w.heap.size + 1, 3, none⟩ = some (.int .i64 tenant) ∧ w'.cell? ⟨w.heap.size + 1, 9, none⟩ = some (.int .i64 size))) := fun w' f n q => ⟨f.b3.cell (j := 0) rfl, f.b3.cell (j := 1) rfl, f.b3.cell (j := 2) rfl, f.b3.cell (j := 3) rfl, f.b3.cell (j := 4) rfl, f.b3.cell (j := 5) rfl, f.b3.cell (j := 6) rfl, f.b7.cell (j := 0) rfl, f.b7.cell (j := 1) rfl, f.b7.cell (j := 2) rfl, f.b7.cell (j := 3) rfl, f.b7.cell (j := 4) rfl, f.b7.cell (j := 5) rfl, f.b7.cell (j := 6) rfl, n.cell (j := 0) rfl, q.cell (j := 3) rfl, q.cell (j := 9) rfl⟩
        refine wp_region_held_drew (S := (fun w' => (w'.cell? ⟨w.heap.size, 0, none⟩ = some (.int .i64 term) ∧ w'.cell? ⟨w.heap.size, 1, none⟩ = some (.int .i64 stamp) ∧ w'.cell? ⟨w.heap.size, 2, none⟩ = some (.int .i64 next) ∧ w'.cell? ⟨w.heap.size, 3, none⟩ = some (.slice a1 n1 c1) ∧ w'.cell? ⟨w.heap.size, 4, none⟩ = some (.slice a2 n2 c2) ∧ w'.cell? ⟨w.heap.size, 5, none⟩ = some (.slice a3 n3 c3) ∧ w'.cell? ⟨w.heap.size, 6, none⟩ = some (.slice a4 n4 c4) ∧ w'.cell? ⟨w4.heap.size, 0, none⟩ = some (.int .i64 ta) ∧ w'.cell? ⟨w4.heap.size, 1, none⟩ = some (.int .i64 sa) ∧ w'.cell? ⟨w4.heap.size, 2, none⟩ = some (.int .i64 na) ∧ w'.cell? ⟨w4.heap.size, 3, none⟩ = some (.slice x1a m1a y1a) ∧ w'.cell? ⟨w4.heap.size, 4, none⟩ = some (.slice x2a m2a y2a) ∧ w'.cell? ⟨w4.heap.size, 5, none⟩ = some (.slice x3a m3a y3a) ∧ w'.cell? ⟨w4.heap.size, 6, none⟩ = some (.slice x4a m4a y4a) ∧ w'.cell? ⟨w4.heap.size + 1, 0, none⟩ = some (.int .i64 0) ∧ w'.cell? ⟨w.heap.size + 1, 3, none⟩ = some (.int .i64 tenant) ∧ w'.cell? ⟨w.heap.size + 1, 9, none⟩ = some (.int .i64 size)))) (by kernel_rfl) (HK.out _ (HF30.out.next (Below.refl _ _).drew) PN30.out.drew HC30.out.drew) (fun hHeld => ?_)
        refine wpAnyH_take (i := 0) (oi := _) (v := ?v0_39) rfl (by kernel_rfl) (by kernel_rfl) (by kernel_rfl) (fun _ _ _ h => h) (Or.inl ⟨by rfl, ?hy0_39⟩) (by assumption) ?rest0_39
        case hy0_39 =>
          intro w hSw
          (try dsimp only at hSw)
          go_simp
          rfl
        case' rest0_39 => try simp only [Act.put, List.setIfInBounds_toArray, List.set_cons_zero, List.set_cons_succ, List.getElem_toArray, List.getElem_cons_zero, List.getElem_cons_succ]
        refine wpAnyH_take (i := 1) (oi := _) (v := ?v1_40) rfl (by kernel_rfl) (by kernel_rfl) (by kernel_rfl) (fun _ _ _ h => h) (Or.inl ⟨by rfl, ?hy1_40⟩) (by assumption) ?rest1_40
        case hy1_40 =>
          intro w hSw
          (try dsimp only at hSw)
          go_simp
          rfl
        case' rest1_40 => try simp only [Act.put, List.setIfInBounds_toArray, List.set_cons_zero, List.set_cons_succ, List.getElem_toArray, List.getElem_cons_zero, List.getElem_cons_succ]
        refine wpAnyH_take (i := 2) (oi := _) (v := ?v2_41) rfl (by kernel_rfl) (by kernel_rfl) (by kernel_rfl) (fun _ _ _ h => h) (Or.inl ⟨by rfl, ?hy2_41⟩) (by assumption) ?rest2_41
        case hy2_41 =>
          intro w hSw
          (try dsimp only at hSw)
          go_simp
          rfl
        case' rest2_41 => try simp only [Act.put, List.setIfInBounds_toArray, List.set_cons_zero, List.set_cons_succ, List.getElem_toArray, List.getElem_cons_zero, List.getElem_cons_succ]
        refine wpAnyH_take (i := 3) (oi := _) (v := ?v3_42) rfl (by kernel_rfl) (by kernel_rfl) (by kernel_rfl) (fun _ _ _ h => h) (Or.inl ⟨by rfl, ?hy3_42⟩) (by assumption) ?rest3_42
        case hy3_42 =>
          intro w hSw
          (try dsimp only at hSw)
          go_simp
          rfl
        case' rest3_42 => try simp only [Act.put, List.setIfInBounds_toArray, List.set_cons_zero, List.set_cons_succ, List.getElem_toArray, List.getElem_cons_zero, List.getElem_cons_succ]
        refine wpAnyH_take (i := 4) (oi := _) (v := ?v4_43) rfl (by kernel_rfl) (by kernel_rfl) (by kernel_rfl) (fun _ _ _ h => h) (Or.inl ⟨by rfl, ?hy4_43⟩) (by assumption) ?rest4_43
        case hy4_43 =>
          intro w hSw
          (try dsimp only at hSw)
          go_simp
          rfl
        case' rest4_43 => try simp only [Act.put, List.setIfInBounds_toArray, List.set_cons_zero, List.set_cons_succ, List.getElem_toArray, List.getElem_cons_zero, List.getElem_cons_succ]
        refine wpAnyH_take (i := 5) (oi := _) (v := ?v5_44) rfl (by kernel_rfl) (by kernel_rfl) (by kernel_rfl) (fun _ _ _ h => h) (Or.inl ⟨by rfl, ?hy5_44⟩) (by assumption) ?rest5_44
        case hy5_44 =>
          intro w hSw
          (try dsimp only at hSw)
          go_simp
          rfl
        case' rest5_44 => try simp only [Act.put, List.setIfInBounds_toArray, List.set_cons_zero, List.set_cons_succ, List.getElem_toArray, List.getElem_cons_zero, List.getElem_cons_succ]
        refine wpAnyH_take (i := 6) (oi := _) (v := ?v6_45) rfl (by kernel_rfl) (by kernel_rfl) (by kernel_rfl) (fun _ _ _ h => h) (Or.inl ⟨by rfl, ?hy6_45⟩) (by assumption) ?rest6_45
        case hy6_45 =>
          intro w hSw
          (try dsimp only at hSw)
          go_simp
          rfl
        case' rest6_45 => try simp only [Act.put, List.setIfInBounds_toArray, List.set_cons_zero, List.set_cons_succ, List.getElem_toArray, List.getElem_cons_zero, List.getElem_cons_succ]
        refine wpAnyH_take (i := 8) (oi := _) (v := ?v8_46) rfl (by kernel_rfl) (by kernel_rfl) (by kernel_rfl) (fun _ _ _ h => h) (Or.inl ⟨by rfl, ?hy8_46⟩) (by assumption) ?rest8_46
        case hy8_46 =>
          intro w hSw
          (try dsimp only at hSw)
          go_simp
          rfl
        case' rest8_46 => try simp only [Act.put, List.setIfInBounds_toArray, List.set_cons_zero, List.set_cons_succ, List.getElem_toArray, List.getElem_cons_zero, List.getElem_cons_succ]
        refine wpAnyH_take (i := 9) (oi := _) (v := ?v9_47) rfl (by kernel_rfl) (by kernel_rfl) (by kernel_rfl) (fun _ _ _ h => h) (Or.inl ⟨by rfl, ?hy9_47⟩) (by assumption) ?rest9_47
        case hy9_47 =>
          intro w hSw
          (try dsimp only at hSw)
          go_simp
          rfl
        case' rest9_47 => try simp only [Act.put, List.setIfInBounds_toArray, List.set_cons_zero, List.set_cons_succ, List.getElem_toArray, List.getElem_cons_zero, List.getElem_cons_succ]
        refine wpAnyH_take (i := 10) (oi := _) (v := ?v10_48) rfl (by kernel_rfl) (by kernel_rfl) (by kernel_rfl) (fun _ _ _ h => h) (Or.inl ⟨by rfl, ?hy10_48⟩) (by assumption) ?rest10_48
        case hy10_48 =>
          intro w hSw
          (try dsimp only at hSw)
          go_simp
          rfl
        case' rest10_48 => try simp only [Act.put, List.setIfInBounds_toArray, List.set_cons_zero, List.set_cons_succ, List.getElem_toArray, List.getElem_cons_zero, List.getElem_cons_succ]
        refine wpAnyH_take (i := 12) (oi := _) (v := ?v12_49) rfl (by kernel_rfl) (by kernel_rfl) (by kernel_rfl) (fun _ _ _ h => h) (Or.inl ⟨by rfl, ?hy12_49⟩) (by assumption) ?rest12_49
        case hy12_49 =>
          intro w hSw
          (try dsimp only at hSw)
          go_simp
          rfl
        case' rest12_49 => try simp only [Act.put, List.setIfInBounds_toArray, List.set_cons_zero, List.set_cons_succ, List.getElem_toArray, List.getElem_cons_zero, List.getElem_cons_succ]
        refine wpAnyH_take (i := 13) (oi := _) (v := ?v13_50) rfl (by kernel_rfl) (by kernel_rfl) (by kernel_rfl) (fun _ _ _ h => h) (Or.inl ⟨by rfl, ?hy13_50⟩) (by assumption) ?rest13_50
        case hy13_50 =>
          intro w hSw
          (try dsimp only at hSw)
          go_simp
          rfl
        case' rest13_50 => try simp only [Act.put, List.setIfInBounds_toArray, List.set_cons_zero, List.set_cons_succ, List.getElem_toArray, List.getElem_cons_zero, List.getElem_cons_succ]
        refine wpAnyH_ready (rs := [7]) (by kernel_rfl) (by simp) ?_
        refine AllReadyH.cons (o := _) rfl (fun K hK => ?_) AllReadyH.nil
        go_simp
        go_at_call 18
        with_reducible refine (OA.out w30.drew (HF30.out.next (Below.refl _ _).drew)).mono ?_
        rintro e w31 ⟨rfl, hb31a⟩
        have hb31 : Below w30.heap.size w30 w31 := ⟨hb31a.os, hb31a.tape, hb31a.output, hb31a.size, hb31a.block⟩
        clear hb31a
        have HB31 := Lib.hid (below_on HB30.out hb31)
        have HF31 := Lib.hid (HF30.out.next hb31)
        have PN31 := Lib.hid (PN30.out.next (show 0 < 5 by decide) hb31)
        have HC31 := Lib.hid (HC30.out.next (show 0 < 13 by decide) hb31)
        clear hHeld
        refine hK.out _ _ (HK.out _ HF31.out PN31.out HC31.out) (fun hHeld => ?_)
        clear hK K
        try simp only [Act.put, List.setIfInBounds_toArray, List.set_cons_zero, List.set_cons_succ, List.getElem_toArray, List.getElem_cons_zero, List.getElem_cons_succ]
        refine wpAnyH_ready (rs := [11]) (by kernel_rfl) (by simp) ?_
        refine AllReadyH.cons (o := _) rfl (fun K hK => ?_) AllReadyH.nil
        go_simp
        go_at_call 18
        with_reducible refine (OS.out w31 HF31.out).mono ?_
        rintro e w32 ⟨rfl, hb32a⟩
        have hb32 : Below w31.heap.size w31 w32 := ⟨hb32a.os, hb32a.tape, hb32a.output, hb32a.size, hb32a.block⟩
        clear hb32a
        have HB32 := Lib.hid (below_on HB31.out hb32)
        have HF32 := Lib.hid (HF31.out.next hb32)
        have PN32 := Lib.hid (PN31.out.next (show 0 < 5 by decide) hb32)
        have HC32 := Lib.hid (HC31.out.next (show 0 < 13 by decide) hb32)
        clear hHeld
        refine hK.out _ _ (HK.out _ HF32.out PN32.out HC32.out) (fun hHeld => ?_)
        clear hK K
        try simp only [Act.put, List.setIfInBounds_toArray, List.set_cons_zero, List.set_cons_succ, List.getElem_toArray, List.getElem_cons_zero, List.getElem_cons_succ]
        refine wpAnyH_take (i := 14) (oi := _) (v := ?v14_51) rfl (by kernel_rfl) (by kernel_rfl) (by kernel_rfl) (fun _ _ _ h => h) (Or.inl ⟨by rfl, ?hy14_51⟩) (by assumption) ?rest14_51
        case hy14_51 =>
          intro w hSw
          (try dsimp only at hSw)
          go_simp
          rfl
        case' rest14_51 => try simp only [Act.put, List.setIfInBounds_toArray, List.set_cons_zero, List.set_cons_succ, List.getElem_toArray, List.getElem_cons_zero, List.getElem_cons_succ]
        refine wpAnyH_take (i := 15) (oi := _) (v := ?v15_52) rfl (by kernel_rfl) (by kernel_rfl) (by kernel_rfl) (fun _ _ _ h => h) (Or.inl ⟨by rfl, ?hy15_52⟩) (by assumption) ?rest15_52
        case hy15_52 =>
          intro w hSw
          (try dsimp only at hSw)
          go_simp
          rfl
        case' rest15_52 => try simp only [Act.put, List.setIfInBounds_toArray, List.set_cons_zero, List.set_cons_succ, List.getElem_toArray, List.getElem_cons_zero, List.getElem_cons_succ]
        refine wpAnyH_take (i := 16) (oi := _) (v := ?v16_53) rfl (by kernel_rfl) (by kernel_rfl) (by kernel_rfl) (fun _ _ _ h => h) (Or.inl ⟨by rfl, ?hy16_53⟩) (by assumption) ?rest16_53
        case hy16_53 =>
          intro w hSw
          (try dsimp only at hSw)
          go_simp
          rfl
        case' rest16_53 => try simp only [Act.put, List.setIfInBounds_toArray, List.set_cons_zero, List.set_cons_succ, List.getElem_toArray, List.getElem_cons_zero, List.getElem_cons_succ]
        refine wpAnyH_take (i := 17) (oi := _) (v := ?v17_54) rfl (by kernel_rfl) (by kernel_rfl) (by kernel_rfl) (fun _ _ _ h => h) (Or.inl ⟨by rfl, ?hy17_54⟩) (by assumption) ?rest17_54
        case hy17_54 =>
          intro w hSw
          (try dsimp only at hSw)
          go_simp
          rfl
        case' rest17_54 => try simp only [Act.put, List.setIfInBounds_toArray, List.set_cons_zero, List.set_cons_succ, List.getElem_toArray, List.getElem_cons_zero, List.getElem_cons_succ]
        refine wpAnyH_ready (rs := [18]) (by kernel_rfl) (by simp) ?_
        refine AllReadyH.cons (o := _) rfl (fun K hK => ?_) AllReadyH.nil
        go_simp
        go_at_call 10
        with_reducible refine (wakes_true _).mono ?_
        rintro e w33 ⟨rfl, hb33a⟩
        have hb33 : Below w32.heap.size w32 w33 := ⟨hb33a.os, hb33a.tape, hb33a.output, hb33a.size, hb33a.block⟩
        clear hb33a
        have HB33 := Lib.hid (below_on HB32.out hb33)
        have HF33 := Lib.hid (HF32.out.next hb33)
        have PN33 := Lib.hid (PN32.out.next (show 0 < 5 by decide) hb33)
        have HC33 := Lib.hid (HC32.out.next (show 0 < 13 by decide) hb33)
        clear hHeld
        refine hK.out _ _ (HK.out _ HF33.out PN33.out HC33.out) (fun hHeld => ?_)
        clear hK K
        try simp only [Act.put, List.setIfInBounds_toArray, List.set_cons_zero, List.set_cons_succ, List.getElem_toArray, List.getElem_cons_zero, List.getElem_cons_succ]
        refine wpAnyH_take (i := 19) (oi := _) (v := ?v19_55) rfl (by kernel_rfl) (by kernel_rfl) (by kernel_rfl) (fun _ _ _ h => h) (Or.inl ⟨by rfl, ?hy19_55⟩) (by assumption) ?rest19_55
        case hy19_55 =>
          intro w hSw
          (try dsimp only at hSw)
          go_simp
          rfl
        case' rest19_55 => try simp only [Act.put, List.setIfInBounds_toArray, List.set_cons_zero, List.set_cons_succ, List.getElem_toArray, List.getElem_cons_zero, List.getElem_cons_succ]
        refine wpAnyH_take (i := 20) (oi := _) (v := ?v20_56) rfl (by kernel_rfl) (by kernel_rfl) (by kernel_rfl) (fun _ _ _ h => h) (Or.inl ⟨by rfl, ?hy20_56⟩) (by assumption) ?rest20_56
        case hy20_56 =>
          intro w hSw
          (try dsimp only at hSw)
          go_simp
          rfl
        case' rest20_56 => try simp only [Act.put, List.setIfInBounds_toArray, List.set_cons_zero, List.set_cons_succ, List.getElem_toArray, List.getElem_cons_zero, List.getElem_cons_succ]
        refine wpAnyH_done (by kernel_rfl) ?_ _
        clear hHeld
        go_wp2_with fail
        go_returns
        exact ⟨rfl, HB33.out⟩
      · have b1 : (ae != 0) = true := by simpa using hae
        have b2 : (ae == 0) = false := by simpa using hae
        have b3 : decide (ae = 0) = false := decide_eq_false hae
        obtain ⟨w30, hw30⟩ : ∃ x, x = wr := ⟨_, rfl⟩
        rw [← hw30] at HFR HBR HCR PNR ⊢
        have HF30 := Lib.hid HFR.out
        have HB30 := Lib.hid HBR.out
        have HC30 := Lib.hid HCR.out
        have PN30 := Lib.hid PNR.out
        clear hw30
        have HK : Hid (∀ w', Five s a b d u w.heap.size w4.heap.size w7.heap.size w9.heap.size w11.heap.size ⟨term, stamp, next, ⟨a1, n1, c1⟩, ⟨a2, n2, c2⟩, ⟨a3, n3, c3⟩, ⟨a4, n4, c4⟩⟩ ⟨ta, sa, na, ⟨x1a, m1a, y1a⟩, ⟨x2a, m2a, y2a⟩, ⟨x3a, m3a, y3a⟩, ⟨x4a, m4a, y4a⟩⟩ ⟨tb, sb, nb, ⟨x1b, m1b, y1b⟩, ⟨x2b, m2b, y2b⟩, ⟨x3b, m3b, y3b⟩, ⟨x4b, m4b, y4b⟩⟩ ⟨td, sd, nd, ⟨x1d, m1d, y1d⟩, ⟨x2d, m2d, y2d⟩, ⟨x3d, m3d, y3d⟩, ⟨x4d, m4d, y4d⟩⟩ ⟨tu, su, nu, ⟨x1u, m1u, y1u⟩, ⟨x2u, m2u, y2u⟩, ⟨x3u, m3u, y3u⟩, ⟨x4u, m4u, y4u⟩⟩ w' → Box w' (w4.heap.size + 1) (Ans.cells ⟨ae, ar, ab, al, az⟩) → Box w' (w.heap.size + 1) (Cmd.cells ⟨kind, client, number, tenant, rate, burst, shaper, epoch, lease, size, spent, closed, ⟨za, zn, zc⟩⟩) → (w'.cell? ⟨w.heap.size, 0, none⟩ = some (.int .i64 term) ∧ w'.cell? ⟨w.heap.size, 1, none⟩ = some (.int .i64 stamp) ∧ w'.cell? ⟨w.heap.size, 2, none⟩ = some (.int .i64 next) ∧ w'.cell? ⟨w.heap.size, 3, none⟩ = some (.slice a1 n1 c1) ∧ w'.cell? ⟨w.heap.size, 4, none⟩ = some (.slice a2 n2 c2) ∧ w'.cell? ⟨w.heap.size, 5, none⟩ = some (.slice a3 n3 c3) ∧ w'.cell? ⟨w.heap.size, 6, none⟩ = some (.slice a4 n4 c4) ∧ w'.cell? ⟨w4.heap.size, 0, none⟩ = some (.int .i64 ta) ∧ w'.cell? ⟨w4.heap.size, 1, none⟩ = some (.int .i64 sa) ∧ w'.cell? ⟨w4.heap.size, 2, none⟩ = some (.int .i64 na) ∧ w'.cell? ⟨w4.heap.size, 3, none⟩ = some (.slice x1a m1a y1a) ∧ w'.cell? ⟨w4.heap.size, 4, none⟩ = some (.slice x2a m2a y2a) ∧ w'.cell? ⟨w4.heap.size, 5, none⟩ = some (.slice x3a m3a y3a) ∧ w'.cell? ⟨w4.heap.size, 6, none⟩ = some (.slice x4a m4a y4a) ∧ w'.cell? ⟨w4.heap.size + 1, 0, none⟩ = some (.int .i64 ae) ∧ w'.cell? ⟨w.heap.size + 1, 3, none⟩ = some (.int .i64 tenant) ∧ w'.cell? ⟨w.heap.size + 1, 9, none⟩ = some (.int .i64 size))) := fun w' f n q => ⟨f.b3.cell (j := 0) rfl, f.b3.cell (j := 1) rfl, f.b3.cell (j := 2) rfl, f.b3.cell (j := 3) rfl, f.b3.cell (j := 4) rfl, f.b3.cell (j := 5) rfl, f.b3.cell (j := 6) rfl, f.b7.cell (j := 0) rfl, f.b7.cell (j := 1) rfl, f.b7.cell (j := 2) rfl, f.b7.cell (j := 3) rfl, f.b7.cell (j := 4) rfl, f.b7.cell (j := 5) rfl, f.b7.cell (j := 6) rfl, n.cell (j := 0) rfl, q.cell (j := 3) rfl, q.cell (j := 9) rfl⟩
        refine wp_region_held_drew (S := (fun w' => (w'.cell? ⟨w.heap.size, 0, none⟩ = some (.int .i64 term) ∧ w'.cell? ⟨w.heap.size, 1, none⟩ = some (.int .i64 stamp) ∧ w'.cell? ⟨w.heap.size, 2, none⟩ = some (.int .i64 next) ∧ w'.cell? ⟨w.heap.size, 3, none⟩ = some (.slice a1 n1 c1) ∧ w'.cell? ⟨w.heap.size, 4, none⟩ = some (.slice a2 n2 c2) ∧ w'.cell? ⟨w.heap.size, 5, none⟩ = some (.slice a3 n3 c3) ∧ w'.cell? ⟨w.heap.size, 6, none⟩ = some (.slice a4 n4 c4) ∧ w'.cell? ⟨w4.heap.size, 0, none⟩ = some (.int .i64 ta) ∧ w'.cell? ⟨w4.heap.size, 1, none⟩ = some (.int .i64 sa) ∧ w'.cell? ⟨w4.heap.size, 2, none⟩ = some (.int .i64 na) ∧ w'.cell? ⟨w4.heap.size, 3, none⟩ = some (.slice x1a m1a y1a) ∧ w'.cell? ⟨w4.heap.size, 4, none⟩ = some (.slice x2a m2a y2a) ∧ w'.cell? ⟨w4.heap.size, 5, none⟩ = some (.slice x3a m3a y3a) ∧ w'.cell? ⟨w4.heap.size, 6, none⟩ = some (.slice x4a m4a y4a) ∧ w'.cell? ⟨w4.heap.size + 1, 0, none⟩ = some (.int .i64 ae) ∧ w'.cell? ⟨w.heap.size + 1, 3, none⟩ = some (.int .i64 tenant) ∧ w'.cell? ⟨w.heap.size + 1, 9, none⟩ = some (.int .i64 size)))) (by kernel_rfl) (HK.out _ (HF30.out.next (Below.refl _ _).drew) PN30.out.drew HC30.out.drew) (fun hHeld => ?_)
        refine wpAnyH_take (i := 0) (oi := _) (v := ?v0_57) rfl (by kernel_rfl) (by kernel_rfl) (by kernel_rfl) (fun _ _ _ h => h) (Or.inl ⟨by rfl, ?hy0_57⟩) (by assumption) ?rest0_57
        case hy0_57 =>
          intro w hSw
          (try dsimp only at hSw)
          go_simp
          rfl
        case' rest0_57 => try simp only [Act.put, List.setIfInBounds_toArray, List.set_cons_zero, List.set_cons_succ, List.getElem_toArray, List.getElem_cons_zero, List.getElem_cons_succ]
        refine wpAnyH_take (i := 1) (oi := _) (v := ?v1_58) rfl (by kernel_rfl) (by kernel_rfl) (by kernel_rfl) (fun _ _ _ h => h) (Or.inl ⟨by rfl, ?hy1_58⟩) (by assumption) ?rest1_58
        case hy1_58 =>
          intro w hSw
          (try dsimp only at hSw)
          go_simp
          rfl
        case' rest1_58 => try simp only [Act.put, List.setIfInBounds_toArray, List.set_cons_zero, List.set_cons_succ, List.getElem_toArray, List.getElem_cons_zero, List.getElem_cons_succ]
        refine wpAnyH_take (i := 2) (oi := _) (v := ?v2_59) rfl (by kernel_rfl) (by kernel_rfl) (by kernel_rfl) (fun _ _ _ h => h) (Or.inl ⟨by rfl, ?hy2_59⟩) (by assumption) ?rest2_59
        case hy2_59 =>
          intro w hSw
          (try dsimp only at hSw)
          go_simp
          rfl
        case' rest2_59 => try simp only [Act.put, List.setIfInBounds_toArray, List.set_cons_zero, List.set_cons_succ, List.getElem_toArray, List.getElem_cons_zero, List.getElem_cons_succ]
        refine wpAnyH_take (i := 3) (oi := _) (v := ?v3_60) rfl (by kernel_rfl) (by kernel_rfl) (by kernel_rfl) (fun _ _ _ h => h) (Or.inl ⟨by rfl, ?hy3_60⟩) (by assumption) ?rest3_60
        case hy3_60 =>
          intro w hSw
          (try dsimp only at hSw)
          go_simp
          rfl
        case' rest3_60 => try simp only [Act.put, List.setIfInBounds_toArray, List.set_cons_zero, List.set_cons_succ, List.getElem_toArray, List.getElem_cons_zero, List.getElem_cons_succ]
        refine wpAnyH_skip 4 (some 142) (by kernel_rfl) (by kernel_rfl) (by kernel_rfl) (by kernel_rfl) (fun _ _ _ h => h) (by rfl) (by assumption) ?r4_61
        try simp only [Act.put, List.setIfInBounds_toArray, List.set_cons_zero, List.set_cons_succ, List.getElem_toArray, List.getElem_cons_zero, List.getElem_cons_succ]
        refine wpAnyH_skip 5 (some 143) (by kernel_rfl) (by kernel_rfl) (by kernel_rfl) (by kernel_rfl) (fun _ _ _ h => h) (by rfl) (by assumption) ?r5_62
        try simp only [Act.put, List.setIfInBounds_toArray, List.set_cons_zero, List.set_cons_succ, List.getElem_toArray, List.getElem_cons_zero, List.getElem_cons_succ]
        refine wpAnyH_skip 6 (some 144) (by kernel_rfl) (by kernel_rfl) (by kernel_rfl) (by kernel_rfl) (fun _ _ _ h => h) (by rfl) (by assumption) ?r6_63
        try simp only [Act.put, List.setIfInBounds_toArray, List.set_cons_zero, List.set_cons_succ, List.getElem_toArray, List.getElem_cons_zero, List.getElem_cons_succ]
        refine wpAnyH_skip 7 (some 145) (by kernel_rfl) (by kernel_rfl) (by kernel_rfl) (by kernel_rfl) (fun _ _ _ h => h) (by rfl) (by assumption) ?r7_64
        try simp only [Act.put, List.setIfInBounds_toArray, List.set_cons_zero, List.set_cons_succ, List.getElem_toArray, List.getElem_cons_zero, List.getElem_cons_succ]
        refine wpAnyH_skip 8 (some 146) (by kernel_rfl) (by kernel_rfl) (by kernel_rfl) (by kernel_rfl) (fun _ _ _ h => h) (by rfl) (by assumption) ?r8_65
        try simp only [Act.put, List.setIfInBounds_toArray, List.set_cons_zero, List.set_cons_succ, List.getElem_toArray, List.getElem_cons_zero, List.getElem_cons_succ]
        refine wpAnyH_skip 9 (some 147) (by kernel_rfl) (by kernel_rfl) (by kernel_rfl) (by kernel_rfl) (fun _ _ _ h => h) (by rfl) (by assumption) ?r9_66
        try simp only [Act.put, List.setIfInBounds_toArray, List.set_cons_zero, List.set_cons_succ, List.getElem_toArray, List.getElem_cons_zero, List.getElem_cons_succ]
        refine wpAnyH_skip 10 (some 148) (by kernel_rfl) (by kernel_rfl) (by kernel_rfl) (by kernel_rfl) (fun _ _ _ h => h) (by rfl) (by assumption) ?r10_67
        try simp only [Act.put, List.setIfInBounds_toArray, List.set_cons_zero, List.set_cons_succ, List.getElem_toArray, List.getElem_cons_zero, List.getElem_cons_succ]
        refine wpAnyH_skip 11 (some 149) (by kernel_rfl) (by kernel_rfl) (by kernel_rfl) (by kernel_rfl) (fun _ _ _ h => h) (by rfl) (by assumption) ?r11_68
        try simp only [Act.put, List.setIfInBounds_toArray, List.set_cons_zero, List.set_cons_succ, List.getElem_toArray, List.getElem_cons_zero, List.getElem_cons_succ]
        refine wpAnyH_skip 12 (some 150) (by kernel_rfl) (by kernel_rfl) (by kernel_rfl) (by kernel_rfl) (fun _ _ _ h => h) (by rfl) (by assumption) ?r12_69
        try simp only [Act.put, List.setIfInBounds_toArray, List.set_cons_zero, List.set_cons_succ, List.getElem_toArray, List.getElem_cons_zero, List.getElem_cons_succ]
        refine wpAnyH_skip 13 (some 151) (by kernel_rfl) (by kernel_rfl) (by kernel_rfl) (by kernel_rfl) (fun _ _ _ h => h) (by rfl) (by assumption) ?r13_70
        try simp only [Act.put, List.setIfInBounds_toArray, List.set_cons_zero, List.set_cons_succ, List.getElem_toArray, List.getElem_cons_zero, List.getElem_cons_succ]
        refine wpAnyH_skip 14 (some 152) (by kernel_rfl) (by kernel_rfl) (by kernel_rfl) (by kernel_rfl) (fun _ _ _ h => h) (by rfl) (by assumption) ?r14_71
        try simp only [Act.put, List.setIfInBounds_toArray, List.set_cons_zero, List.set_cons_succ, List.getElem_toArray, List.getElem_cons_zero, List.getElem_cons_succ]
        refine wpAnyH_skip 15 (some 153) (by kernel_rfl) (by kernel_rfl) (by kernel_rfl) (by kernel_rfl) (fun _ _ _ h => h) (by rfl) (by assumption) ?r15_72
        try simp only [Act.put, List.setIfInBounds_toArray, List.set_cons_zero, List.set_cons_succ, List.getElem_toArray, List.getElem_cons_zero, List.getElem_cons_succ]
        refine wpAnyH_take (i := 16) (oi := _) (v := ?v16_73) rfl (by kernel_rfl) (by kernel_rfl) (by kernel_rfl) (fun _ _ _ h => h) (Or.inl ⟨by rfl, ?hy16_73⟩) (by assumption) ?rest16_73
        case hy16_73 =>
          intro w hSw
          (try dsimp only at hSw)
          go_simp
          rfl
        case' rest16_73 => try simp only [Act.put, List.setIfInBounds_toArray, List.set_cons_zero, List.set_cons_succ, List.getElem_toArray, List.getElem_cons_zero, List.getElem_cons_succ]
        refine wpAnyH_take (i := 17) (oi := _) (v := ?v17_74) rfl (by kernel_rfl) (by kernel_rfl) (by kernel_rfl) (fun _ _ _ h => h) (Or.inl ⟨by rfl, ?hy17_74⟩) (by assumption) ?rest17_74
        case hy17_74 =>
          intro w hSw
          (try dsimp only at hSw)
          go_simp
          rfl
        case' rest17_74 => try simp only [Act.put, List.setIfInBounds_toArray, List.set_cons_zero, List.set_cons_succ, List.getElem_toArray, List.getElem_cons_zero, List.getElem_cons_succ]
        refine wpAnyH_ready (rs := [18]) (by kernel_rfl) (by simp) ?_
        refine AllReadyH.cons (o := _) rfl (fun K hK => ?_) AllReadyH.nil
        go_simp
        go_at_call 10
        with_reducible refine (wakes_true _).mono ?_
        rintro e w31 ⟨rfl, hb31a⟩
        have hb31 : Below w30.heap.size w30 w31 := ⟨hb31a.os, hb31a.tape, hb31a.output, hb31a.size, hb31a.block⟩
        clear hb31a
        have HB31 := Lib.hid (below_on HB30.out hb31)
        have HF31 := Lib.hid (HF30.out.next hb31)
        have PN31 := Lib.hid (PN30.out.next (show 0 < 5 by decide) hb31)
        have HC31 := Lib.hid (HC30.out.next (show 0 < 13 by decide) hb31)
        clear hHeld
        refine hK.out _ _ (HK.out _ HF31.out PN31.out HC31.out) (fun hHeld => ?_)
        clear hK K
        try simp only [Act.put, List.setIfInBounds_toArray, List.set_cons_zero, List.set_cons_succ, List.getElem_toArray, List.getElem_cons_zero, List.getElem_cons_succ]
        refine wpAnyH_take (i := 19) (oi := _) (v := ?v19_75) rfl (by kernel_rfl) (by kernel_rfl) (by kernel_rfl) (fun _ _ _ h => h) (Or.inl ⟨by rfl, ?hy19_75⟩) (by assumption) ?rest19_75
        case hy19_75 =>
          intro w hSw
          (try dsimp only at hSw)
          go_simp
          rfl
        case' rest19_75 => try simp only [Act.put, List.setIfInBounds_toArray, List.set_cons_zero, List.set_cons_succ, List.getElem_toArray, List.getElem_cons_zero, List.getElem_cons_succ]
        refine wpAnyH_take (i := 20) (oi := _) (v := ?v20_76) rfl (by kernel_rfl) (by kernel_rfl) (by kernel_rfl) (fun _ _ _ h => h) (Or.inl ⟨by rfl, ?hy20_76⟩) (by assumption) ?rest20_76
        case hy20_76 =>
          intro w hSw
          (try dsimp only at hSw)
          go_simp
          rfl
        case' rest20_76 => try simp only [Act.put, List.setIfInBounds_toArray, List.set_cons_zero, List.set_cons_succ, List.getElem_toArray, List.getElem_cons_zero, List.getElem_cons_succ]
        refine wpAnyH_done (by kernel_rfl) ?_ _
        clear hHeld
        go_wp2_with fail
        go_returns
        exact ⟨rfl, HB31.out⟩
end Go.Proofs.Ytoofmofaimdhpaa
