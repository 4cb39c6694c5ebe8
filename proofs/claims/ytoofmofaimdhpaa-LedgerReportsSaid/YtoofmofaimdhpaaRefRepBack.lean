import Derived.Test.YtoofmofaimdhpaaLedReport
import Derived.Test.YtoofmofaimdhpaaPackLedgerReports1
import Derived.Test.YtoofmofaimdhpaaPackLedgerGrants1
import Derived.Test.YtoofmofaimdhpaaRefRepNo
import Derived.Test.YtoofmofaimdhpaaPackLedgerCap1
import Derived.Test.YtoofmofaimdhpaaPackA3
import Derived.IntWalk
import Derived.Deep.Cut
import Derived.Deep.RegionHeld3
set_option linter.unusedVariables false
set_option linter.unusedSimpArgs false
/- weirref18.Report: a lease let go, its rest given back. -/
namespace Go.Proofs.Ytoofmofaimdhpaa
open Go.ChangeShapes Go.WideShapes Go.ChangeAt Go.RowKit
set_option maxRecDepth 100000

set_option maxHeartbeats 16000000 in
theorem refreport_back (s : St) (r : Raw) (B : Nat) (sh ep le sp : Int) (cl : Bool) (w : World) (h : StAt w B r s) (hl1' : s.tens.length ≤ 800) (hl2 : s.leas.length ≤ 900) (hl3 : s.sess.length ≤ 900) (hl4 : s.dsks.length ≤ 900)
    (hok : stOk s = true) (i0 i1 i4 i5 i6 : Int) (hfs : findSt s le = (⟨i0, i1, sh, ep, i4, i5, i6⟩, true)) (fid frate fburst fbucket : Int) (ok : Bool) (hfd : findT s.tens i1 = (⟨fid, frate, fburst, fbucket, false⟩, ok)) (hcl : cl = true) (g1 : i6 ≤ sp) (g2 : sp ≤ i5) (g3 : 0 ≤ i6) (g4 : i5 ≤ 1000000) (hbk0 : 0 ≤ fbucket) (hbk1 : fbucket ≤ 1000000000) (hne : s.tens ≠ []) :
    Calls Try.prog 23 #[r.agg, .int .i64 sh, .int .i64 ep, .int .i64 le, .int .i64 sp, .bool cl] w (RetSE w (sweptS { woS s le with tens := (setS s.tens ⟨fid, frate, fburst, backI fbucket fburst (outL (woS s le).leas i1) (i5 - sp), false⟩).1 }, 0)) := by
  have hl1 : s.tens.length ≤ 900 := by omega
  have HS := Lib.hid h
  have HL := Lib.hid (And.intro hl1 (And.intro hl2 (And.intro hl3 hl4)))
  have HCK := Lib.hid (fun w' (hb : Below w.heap.size w w') => refcheck_st s r B w' (h.below hb) hl1 hl2)
  have HOK := Lib.hid hok
  have HRF := Lib.hid (fun w' (hb : Below w.heap.size w w') => reffind_st s r B le w' (h.below hb) hl1 hl2)
  have HFS := Lib.hid hfs
  have HCP := Lib.hid (fun w' (hb : Below w.heap.size w w') => refcopy_st s r B w' (h.below hb) hl1 hl2 hl3 hl4)
  have HFIT := Lib.hid (leasOk_fits (stOk_parts hok).1 (stOk_parts hok).2.1)
  have HSW := Lib.hid (fun (a : St) q B' w' (h' : StAt w' B' q a) (hB' : B' ≤ w'.heap.size) (hf : Fits a.leas) (h1 : a.tens.length ≤ 900) (h2 : a.leas.length ≤ 900) => refswept_st a q B' w' h' hf h1 h2 hB')
  have HPF := Lib.hid (fun w' (hb : Below w.heap.size w w') => reffind_any s.tens r.ten.a r.ten.n r.ten.c i1 w' h.ten.len (le_maxLen (by omega)) (Row.below h.trow hb))
  have HFD := Lib.hid hfd
  have HNE := Lib.hid hne
  subst hcl
  obtain ⟨term, stamp, next, ⟨a1, n1, c1⟩, ⟨a2, n2, c2⟩, ⟨a3, n3, c3⟩, ⟨a4, n4, c4⟩⟩ := r
  have HBX : Hid (∀ w', Below ((w.alloc (.cells #[.int .i64 term, .int .i64 stamp, .int .i64 next, .slice a1 n1 c1, .slice a2 n2 c2, .slice a3 n3 c3, .slice a4 n4 c4] 27)).alloc (.cells #[.int .i64 0, .int .i64 0, .int .i64 0, .slice none 0 0, .slice none 0 0, .slice none 0 0, .slice none 0 0] 27)).heap.size ((w.alloc (.cells #[.int .i64 term, .int .i64 stamp, .int .i64 next, .slice a1 n1 c1, .slice a2 n2 c2, .slice a3 n3 c3, .slice a4 n4 c4] 27)).alloc (.cells #[.int .i64 0, .int .i64 0, .int .i64 0, .slice none 0 0, .slice none 0 0, .slice none 0 0, .slice none 0 0] 27)) w' → Box w' w.heap.size (Raw.cells ⟨term, stamp, next, ⟨a1, n1, c1⟩, ⟨a2, n2, c2⟩, ⟨a3, n3, c3⟩, ⟨a4, n4, c4⟩⟩) ∧ Box w' (w.heap.size + 1) (Raw.cells ⟨0, 0, 0, ⟨none, 0, 0⟩, ⟨none, 0, 0⟩, ⟨none, 0, 0⟩, ⟨none, 0, 0⟩⟩) ∧ w.heap.size + 2 ≤ w'.heap.size) :=
    fun w' hb => ⟨Box.of_alloc (mid_alloc' hb), Box.of_alloc1 hb, by have := hb.size; simp at this; omega⟩
  clear h hl1 hl2 hl3 hl4 hok hfs hfd hne
  have hsz0 : 0 ≤ i5 - sp := by omega
  have hsz1 : i5 - sp ≤ 1000000 := by omega
  go_enter Try.func23, Try.ntmps23
  go_upto_region 19 with (first
      | (have hgq := HB10; clear hgq; refine wpList_store_box layTen rfl (.tmp 18) (.tmp 102) rfl ⟨fid, frate, fburst, fbucket, false⟩ rfl rfl rfl ?_; intro w11 hw11 ht11 hb11 hs11; have HT11 : Hid (Box w11 w10.heap.size (Tenant.cells ⟨fid, frate, fburst, fbucket, false⟩)) := ⟨hw11, ht11⟩; have HB11 := Lib.hid (below_up HB10.out hb11); have HS11 := Lib.hid (HS10.out.next (show 0 < 7 by decide) hb11); have HZ11 := Lib.hid (HZ10.out.next (show 0 < 7 by decide) hb11); have HC11 := Lib.hid (HC10.out.next (show 0 < 7 by decide) hb11); have HX11 := Lib.hid (HX10.out.next (show 0 < 7 by decide) hb11); have q11 := hb11.size; have Q11 : Hid (w11.heap.size = w10.heap.size + 1) := hs11; have r4 := HT11.out.cell (j := 4) rfl; clear hw11 ht11 hs11)
      | (go_at_call 26; ((with_reducible refine (HPF.out w9 HB9.out).mono ?_); rw [HFD.out]; rintro e w10 ⟨rfl, hb10⟩; have HB10 := Lib.hid (below_up HB9.out hb10); have HS10 := Lib.hid (HS9.out.next (show 0 < 7 by decide) hb10); have HZ10 := Lib.hid (HZ9.out.next (show 0 < 7 by decide) hb10); have HC10 := Lib.hid (HC9.out.next (show 0 < 7 by decide) hb10); have HX10 := Lib.hid (HX9.out.next (show 0 < 7 by decide) hb10); have q10 := hb10.size; clear k3 p1))
      | (have hgq := HB8; clear hgq; refine wpList_store_whole laySt rfl (.tmp 16) (.tmp 95) rfl w6.heap.size ⟨t4, s4, n4, ⟨x1, m1, y1⟩, ⟨d2, e2, f2⟩, ⟨x3, m3, y3⟩, ⟨x4, m4, y4⟩⟩ _ rfl rfl HX8.out rfl ?_; intro w9 hbx9 hw9; have HX9 := Lib.hid hbx9; have HW9 := Lib.hid hw9; have HS9 := Lib.hid (HS8.out.wrote hw9 (by omega)); have HZ9 := Lib.hid (HZ8.out.wrote hw9 (by omega)); have HC9 := Lib.hid (HC8.out.wrote hw9 (by omega)); have hb69 : Below w6.heap.size w6 w9 := ((hb7.trans (hb8.mono (by omega))).trans (hw9.below _ (Nat.le_refl _))); have HB9 := Lib.hid (below_up HB6.out hb69); have q9 := Nat.le_of_eq hw9.size; have q9' := Nat.le_of_eq hw9.size.symm; have k3 := HS9.out.cell (j := 3) rfl; have p1 := HC9.out.cell (j := 1) rfl; clear hbx9 hw9 hb69)
      | (have hgq := HX7; clear hgq; go_at_call 56; have hwo := refwithout_st s ⟨t4, s4, n4, ⟨x1, m1, y1⟩, ⟨x2, m2, y2⟩, ⟨x3, m3, y3⟩, ⟨x4, m4, y4⟩⟩ w5.heap.size le w7 (HST6.out.is.mid (Mid.below hb7 (Nat.le_refl _) : Mid w5.heap.size w6.heap.size w6 w7) (Nat.le_refl _) (Nat.le_refl _)) HL.out.2.1 (by omega); ((with_reducible refine hwo.mono ?_); clear hwo; rintro e w8 ⟨⟨d2, e2, f2⟩, rfl, hsl8, hnr8, hb8⟩; have HSL8 := Lib.hid hsl8; have HNR8 := Lib.hid hnr8; have HB8 := Lib.hid (below_up HB7.out hb8); have HS8 := Lib.hid (HS7.out.next (show 0 < 7 by decide) hb8); have HZ8 := Lib.hid (HZ7.out.next (show 0 < 7 by decide) hb8); have HC8 := Lib.hid (HC7.out.next (show 0 < 7 by decide) hb8); have HX8 := Lib.hid (HX7.out.next (show 0 < 7 by decide) hb8); have q8 := hb8.size; clear hsl8 hnr8 p5b))
      | (have hgq := HX7; clear hgq; refine wpList_load_as laySt rfl (.tmp 16) rfl w6.heap.size 0 rfl ⟨t4, s4, n4, ⟨x1, m1, y1⟩, ⟨x2, m2, y2⟩, ⟨x3, m3, y3⟩, ⟨x4, m4, y4⟩⟩ (.agg #[.int .i64 t4, .int .i64 s4, .int .i64 n4, .slice x1 m1 y1, .slice x2 m2 y2, .slice x3 m3 y3, .slice x4 m4 y4]) rfl HX7.out.range ?_)
      | (have hgq := HB6; clear hgq; refine wpList_store_box laySt rfl (.tmp 16) (.tmp 61) rfl ⟨t4, s4, n4, ⟨x1, m1, y1⟩, ⟨x2, m2, y2⟩, ⟨x3, m3, y3⟩, ⟨x4, m4, y4⟩⟩ rfl rfl rfl ?_; intro w7 hw7 ht7 hb7 hs7; have HX7 : Hid (Box w7 w6.heap.size (Raw.cells ⟨t4, s4, n4, ⟨x1, m1, y1⟩, ⟨x2, m2, y2⟩, ⟨x3, m3, y3⟩, ⟨x4, m4, y4⟩⟩)) := ⟨hw7, ht7⟩; have HB7 := Lib.hid (below_up HB6.out hb7); have HS7 := Lib.hid (HS6.out.next (show 0 < 7 by decide) hb7); have HZ7 := Lib.hid (HZ6.out.next (show 0 < 7 by decide) hb7); have HC7 := Lib.hid (HC6.out.next (show 0 < 7 by decide) hb7); have q7 := hb7.size; have Q7 : Hid (w7.heap.size = w6.heap.size + 1) := hs7; have q7g := Nat.le_of_eq hs7.symm; have p5b := HC7.out.cell (j := 5) rfl; clear hw7 ht7 hs7)
      | (go_at_call 37; ((with_reducible refine (HCP.out w5 HB5.out).mono ?_); rintro e w6 ⟨⟨t4, s4, n4, ⟨x1, m1, y1⟩, ⟨x2, m2, y2⟩, ⟨x3, m3, y3⟩, ⟨x4, m4, y4⟩⟩, rfl, hst6, hb6⟩; have HST6 := Lib.hid hst6; have HB6 := Lib.hid (below_up HB5.out hb6); have HS6 := Lib.hid (HS5.out.next (show 0 < 7 by decide) hb6); have HZ6 := Lib.hid (HZ5.out.next (show 0 < 7 by decide) hb6); have HC6 := Lib.hid (HC5.out.next (show 0 < 7 by decide) hb6); have q6 := hb6.size; clear hst6 p2 p3 p5 p6))
      | (have hgq := HS5; clear hgq; refine wpList_load_as laySt rfl (.tmp 6) rfl w.heap.size 0 rfl ⟨term, stamp, next, ⟨a1, n1, c1⟩, ⟨a2, n2, c2⟩, ⟨a3, n3, c3⟩, ⟨a4, n4, c4⟩⟩ (.agg #[.int .i64 term, .int .i64 stamp, .int .i64 next, .slice a1 n1 c1, .slice a2 n2 c2, .slice a3 n3 c3, .slice a4 n4 c4]) rfl HS5.out.range ?_)
      | (have hgq := HB4; clear hgq; refine wpList_store_box layLea rfl (.tmp 14) (.tmp 28) rfl ⟨i0, i1, sh, ep, i4, i5, i6⟩ rfl rfl rfl ?_; intro w5 hw5 ht5 hb5 hs5; have HC5 : Hid (Box w5 w4.heap.size (Lease.cells ⟨i0, i1, sh, ep, i4, i5, i6⟩)) := ⟨hw5, ht5⟩; have HB5 := Lib.hid (below_up HB4.out hb5); have HS5 := Lib.hid (HS4.out.next (show 0 < 7 by decide) hb5); have HZ5 := Lib.hid (HZ4.out.next (show 0 < 7 by decide) hb5); have q5 := hb5.size; have q5' : w5.heap.size = w4.heap.size + 1 := hs5; have p2 := HC5.out.cell (j := 2) rfl; have p3 := HC5.out.cell (j := 3) rfl; have p5 := HC5.out.cell (j := 5) rfl; have p6 := HC5.out.cell (j := 6) rfl; have Q5 := Lib.hid q5'; have q5g := Nat.le_of_eq hs5.symm; clear hw5 ht5 hs5 q5')
      | (go_at_call 15; ((with_reducible refine (HRF.out w3 HB3.out).mono ?_); rw [HFS.out]; rintro e w4 ⟨rfl, hb4⟩; have HB4 := Lib.hid (below_up HB3.out hb4); have q4 := hb4.size; have HS4 := Lib.hid (HS3.out.next (show 0 < 7 by decide) hb4); have HZ4 := Lib.hid (HZ3.out.next (show 0 < 7 by decide) hb4)))
      | (have hgq := HS3; clear hgq; refine wpList_load_as laySt rfl (.tmp 6) rfl w.heap.size 0 rfl ⟨term, stamp, next, ⟨a1, n1, c1⟩, ⟨a2, n2, c2⟩, ⟨a3, n3, c3⟩, ⟨a4, n4, c4⟩⟩ (.agg #[.int .i64 term, .int .i64 stamp, .int .i64 next, .slice a1 n1 c1, .slice a2 n2 c2, .slice a3 n3 c3, .slice a4 n4 c4]) rfl HS3.out.range ?_)
      | (go_at_call 16; ((with_reducible refine (HCK.out _ (by repeat' (first | (with_reducible exact Below.refl _ _) | (with_reducible assumption) | (with_reducible refine Below.drew ?_) | (with_reducible refine Below.more ?_ _) | (with_reducible refine Below.put ?_ ?_ _) | (with_reducible refine Below.next ?_ (by with_reducible assumption)) | (with_reducible exact Nat.le_refl _) | (with_reducible refine Below.size' ?_) | omega))).mono ?_); rw [HOK.out]; rintro e w3 ⟨rfl, hb3⟩; have hbx := HBX.out w3 (by repeat' (first | (with_reducible exact Below.refl _ _) | (with_reducible assumption) | (with_reducible refine Below.drew ?_) | (with_reducible refine Below.more ?_ _) | (with_reducible refine Below.put ?_ ?_ _) | (with_reducible refine Below.next ?_ (by with_reducible assumption)) | (with_reducible exact Nat.le_refl _) | (with_reducible refine Below.size' ?_) | omega)); have HS3 := Lib.hid hbx.1; have HZ3 := Lib.hid hbx.2.1; have q3 := hbx.2.2; have hb3' : Below w.heap.size w w3 := (by repeat' (first | (with_reducible exact Below.refl _ _) | (with_reducible assumption) | (with_reducible refine Below.drew ?_) | (with_reducible refine Below.more ?_ _) | (with_reducible refine Below.put ?_ ?_ _) | (with_reducible refine Below.next ?_ (by with_reducible assumption)) | (with_reducible exact Nat.le_refl _) | (with_reducible refine Below.size' ?_) | omega)); have HB3 := Lib.hid hb3'; clear hbx hb3'))
      | (refine wpList_load_as laySt rfl (.tmp 6) rfl w.heap.size 0 rfl ⟨term, stamp, next, ⟨a1, n1, c1⟩, ⟨a2, n2, c2⟩, ⟨a3, n3, c3⟩, ⟨a4, n4, c4⟩⟩ (.agg #[.int .i64 term, .int .i64 stamp, .int .i64 next, .slice a1 n1 c1, .slice a2 n2 c2, .slice a3 n3 c3, .slice a4 n4 c4]) rfl (HBX.out _ (by repeat' (first | (with_reducible exact Below.refl _ _) | (with_reducible assumption) | (with_reducible refine Below.drew ?_) | (with_reducible refine Below.more ?_ _) | (with_reducible refine Below.put ?_ ?_ _) | (with_reducible refine Below.next ?_ (by with_reducible assumption)) | (with_reducible exact Nat.le_refl _) | (with_reducible refine Below.size' ?_) | omega))).1.range ?_))
  have HSTX : Hid (StAt w10 w5.heap.size ⟨t4, s4, n4, ⟨x1, m1, y1⟩, ⟨d2, e2, f2⟩, ⟨x3, m3, y3⟩, ⟨x4, m4, y4⟩⟩ (woS s le)) := by
    have m9 : Mid w5.heap.size w6.heap.size w6 w9 := (Mid.below (hb7.trans (hb8.mono (by omega))) (Nat.le_refl _)).wrote HW9.out (.inr (Nat.le_refl _))
    have i9 := HST6.out.is.mid m9 (Nat.le_refl _) (Nat.le_refl _)
    have hne : ∀ b o q, d2 = some ⟨b, o, q⟩ → b ≠ w6.heap.size := fun b o q e => by
      have := Q7.out
      rcases HNR8.out b o q e with h1 | ⟨_, _, h1⟩
      · have h2 : w7.heap.size ≤ b := h1
        omega
      · cases h1
    have h8 := HSL8.out
    have l9 : SliAt layLea w9 w5.heap.size ⟨d2, e2, f2⟩ (woS s le).leas := ⟨h8.len, h8.le, h8.nil, h8.near, h8.row.keep (g := w6.heap.size) (fun j _ hj => HW9.out.keep j hj) hne⟩
    have g9 : StAt w9 w5.heap.size ⟨t4, s4, n4, ⟨x1, m1, y1⟩, ⟨d2, e2, f2⟩, ⟨x3, m3, y3⟩, ⟨x4, m4, y4⟩⟩ (woS s le) := ⟨i9.term, i9.stamp, i9.next, i9.ten, l9, i9.ses, i9.dsk⟩
    exact g9.below hb10
  have HSTD := Lib.hid (HSTX.out.below hb11)
  have hwl : (woS s le).leas.length ≤ s.leas.length := List.length_filter_le _ _
  have hwf : Fits (woS s le).leas := HFIT.out.sub (fun x hx => (List.mem_filter.1 hx).1)
  have HWL := Lib.hid hwl
  have HWF := Lib.hid hwf
  clear hwl hwf
  obtain ⟨ot, HOT⟩ : ∃ x, Hid (outL (woS s le).leas i1 = x) := ⟨_, rfl⟩
  have HOUT : Hid (Calls Try.prog 18 #[(.agg #[.int .i64 t4, .int .i64 s4, .int .i64 n4, .slice x1 m1 y1, .slice d2 e2 f2, .slice x3 m3 y3, .slice x4 m4 y4]), .int .i64 i1] w11.drew fun e w' => e = .returned (.int .i64 ot) ∧ Below w11.heap.size w11.drew w') := by
    show Calls _ _ _ _ _
    rw [← HOT.out]
    exact refout_any (woS s le).leas ⟨t4, s4, n4, ⟨x1, m1, y1⟩, ⟨d2, e2, f2⟩, ⟨x3, m3, y3⟩, ⟨x4, m4, y4⟩⟩ i1 w11.drew HSTD.out.lea.len (by have := HWL.out; have := HL.out.2.1; omega) HWF.out (HSTD.out.lea.row.below (Below.refl _ _).drew)
  have HKP : Hid (∀ w', Box w' (w6.heap.size) (Raw.cells ⟨t4, s4, n4, ⟨x1, m1, y1⟩, ⟨d2, e2, f2⟩, ⟨x3, m3, y3⟩, ⟨x4, m4, y4⟩⟩) → Box w' w4.heap.size (Lease.cells ⟨i0, i1, sh, ep, i4, i5, i6⟩) → w'.cell? ⟨w10.heap.size, 2, none⟩ = some (.int .i64 fburst) → (w'.cell? ⟨w6.heap.size, 0, none⟩ = some (.int .i64 t4) ∧ w'.cell? ⟨w6.heap.size, 1, none⟩ = some (.int .i64 s4) ∧ w'.cell? ⟨w6.heap.size, 2, none⟩ = some (.int .i64 n4) ∧ w'.cell? ⟨w6.heap.size, 3, none⟩ = some (.slice x1 m1 y1) ∧ w'.cell? ⟨w6.heap.size, 4, none⟩ = some (.slice d2 e2 f2) ∧ w'.cell? ⟨w6.heap.size, 5, none⟩ = some (.slice x3 m3 y3) ∧ w'.cell? ⟨w6.heap.size, 6, none⟩ = some (.slice x4 m4 y4) ∧ w'.cell? ⟨w4.heap.size, 1, none⟩ = some (.int .i64 i1) ∧ w'.cell? ⟨w4.heap.size, 5, none⟩ = some (.int .i64 i5) ∧ w'.cell? ⟨w10.heap.size, 2, none⟩ = some (.int .i64 fburst))) := fun w' b1 b2 b3 => ⟨b1.cell (j := 0) rfl, b1.cell (j := 1) rfl, b1.cell (j := 2) rfl, b1.cell (j := 3) rfl, b1.cell (j := 4) rfl, b1.cell (j := 5) rfl, b1.cell (j := 6) rfl, b2.cell (j := 1) rfl, b2.cell (j := 5) rfl, b3⟩
  have HKD : Hid (w11.drew.cell? ⟨w6.heap.size, 0, none⟩ = some (.int .i64 t4) ∧ w11.drew.cell? ⟨w6.heap.size, 1, none⟩ = some (.int .i64 s4) ∧ w11.drew.cell? ⟨w6.heap.size, 2, none⟩ = some (.int .i64 n4) ∧ w11.drew.cell? ⟨w6.heap.size, 3, none⟩ = some (.slice x1 m1 y1) ∧ w11.drew.cell? ⟨w6.heap.size, 4, none⟩ = some (.slice d2 e2 f2) ∧ w11.drew.cell? ⟨w6.heap.size, 5, none⟩ = some (.slice x3 m3 y3) ∧ w11.drew.cell? ⟨w6.heap.size, 6, none⟩ = some (.slice x4 m4 y4) ∧ w11.drew.cell? ⟨w4.heap.size, 1, none⟩ = some (.int .i64 i1) ∧ w11.drew.cell? ⟨w4.heap.size, 5, none⟩ = some (.int .i64 i5) ∧ w11.drew.cell? ⟨w10.heap.size, 2, none⟩ = some (.int .i64 fburst)) := HKP.out _ HX11.out.drew HC11.out.drew (HT11.out.drew.cell (j := 2) rfl)
  have hwr : IntKind.i64.wrap (i5 - sp) = i5 - sp := IntWalk.i64_in _ (by omega)
  have q11' := Nat.le_of_eq Q11.out
  have q11'' := Nat.le_of_eq Q11.out.symm
  clear r4
  apply cut_here
  · intro CUT1
    refine wp_region_noPanic ?_
    refine wp_region_held_drew (S := (fun w' => (w'.cell? ⟨w6.heap.size, 0, none⟩ = some (.int .i64 t4) ∧ w'.cell? ⟨w6.heap.size, 1, none⟩ = some (.int .i64 s4) ∧ w'.cell? ⟨w6.heap.size, 2, none⟩ = some (.int .i64 n4) ∧ w'.cell? ⟨w6.heap.size, 3, none⟩ = some (.slice x1 m1 y1) ∧ w'.cell? ⟨w6.heap.size, 4, none⟩ = some (.slice d2 e2 f2) ∧ w'.cell? ⟨w6.heap.size, 5, none⟩ = some (.slice x3 m3 y3) ∧ w'.cell? ⟨w6.heap.size, 6, none⟩ = some (.slice x4 m4 y4) ∧ w'.cell? ⟨w4.heap.size, 1, none⟩ = some (.int .i64 i1) ∧ w'.cell? ⟨w4.heap.size, 5, none⟩ = some (.int .i64 i5) ∧ w'.cell? ⟨w10.heap.size, 2, none⟩ = some (.int .i64 fburst)))) (by kernel_rfl) HKD.out (fun hHeld => ?_)
    refine wpAnyH_take (i := 0) (oi := _) (v := ?v0_1) rfl (by kernel_rfl) (by kernel_rfl) (by kernel_rfl) (fun _ _ _ h => h) (Or.inl ⟨by rfl, ?hy0_1⟩) (by assumption) ?rest0_1
    case hy0_1 =>
      intro w hSw
      (try dsimp only at hSw)
      go_simp
      rfl
    case' rest0_1 => try simp only [Act.put, List.setIfInBounds_toArray, List.set_cons_zero, List.set_cons_succ, List.getElem_toArray, List.getElem_cons_zero, List.getElem_cons_succ]
    refine wpAnyH_take (i := 2) (oi := _) (v := ?v2_2) rfl (by kernel_rfl) (by kernel_rfl) (by kernel_rfl) (fun _ _ _ h => h) (Or.inl ⟨by rfl, ?hy2_2⟩) (by assumption) ?rest2_2
    case hy2_2 =>
      intro w hSw
      (try dsimp only at hSw)
      go_simp
      rfl
    case' rest2_2 => try simp only [Act.put, List.setIfInBounds_toArray, List.set_cons_zero, List.set_cons_succ, List.getElem_toArray, List.getElem_cons_zero, List.getElem_cons_succ]
    refine wpAnyH_take (i := 3) (oi := _) (v := ?v3_3) rfl (by kernel_rfl) (by kernel_rfl) (by kernel_rfl) (fun _ _ _ h => h) (Or.inl ⟨by rfl, ?hy3_3⟩) (by assumption) ?rest3_3
    case hy3_3 =>
      intro w hSw
      (try dsimp only at hSw)
      go_simp
      rfl
    case' rest3_3 => try simp only [Act.put, List.setIfInBounds_toArray, List.set_cons_zero, List.set_cons_succ, List.getElem_toArray, List.getElem_cons_zero, List.getElem_cons_succ]
    refine wpAnyH_take (i := 4) (oi := _) (v := ?v4_4) rfl (by kernel_rfl) (by kernel_rfl) (by kernel_rfl) (fun _ _ _ h => h) (Or.inl ⟨by rfl, ?hy4_4⟩) (by assumption) ?rest4_4
    case hy4_4 =>
      intro w hSw
      (try dsimp only at hSw)
      go_simp
      rfl
    case' rest4_4 => try simp only [Act.put, List.setIfInBounds_toArray, List.set_cons_zero, List.set_cons_succ, List.getElem_toArray, List.getElem_cons_zero, List.getElem_cons_succ]
    refine wpAnyH_take (i := 5) (oi := _) (v := ?v5_5) rfl (by kernel_rfl) (by kernel_rfl) (by kernel_rfl) (fun _ _ _ h => h) (Or.inl ⟨by rfl, ?hy5_5⟩) (by assumption) ?rest5_5
    case hy5_5 =>
      intro w hSw
      (try dsimp only at hSw)
      go_simp
      rfl
    case' rest5_5 => try simp only [Act.put, List.setIfInBounds_toArray, List.set_cons_zero, List.set_cons_succ, List.getElem_toArray, List.getElem_cons_zero, List.getElem_cons_succ]
    refine wpAnyH_take (i := 6) (oi := _) (v := ?v6_6) rfl (by kernel_rfl) (by kernel_rfl) (by kernel_rfl) (fun _ _ _ h => h) (Or.inl ⟨by rfl, ?hy6_6⟩) (by assumption) ?rest6_6
    case hy6_6 =>
      intro w hSw
      (try dsimp only at hSw)
      go_simp
      rfl
    case' rest6_6 => try simp only [Act.put, List.setIfInBounds_toArray, List.set_cons_zero, List.set_cons_succ, List.getElem_toArray, List.getElem_cons_zero, List.getElem_cons_succ]
    refine wpAnyH_take (i := 8) (oi := _) (v := ?v8_7) rfl (by kernel_rfl) (by kernel_rfl) (by kernel_rfl) (fun _ _ _ h => h) (Or.inl ⟨by rfl, ?hy8_7⟩) (by assumption) ?rest8_7
    case hy8_7 =>
      intro w hSw
      (try dsimp only at hSw)
      go_simp
      rfl
    case' rest8_7 => try simp only [Act.put, List.setIfInBounds_toArray, List.set_cons_zero, List.set_cons_succ, List.getElem_toArray, List.getElem_cons_zero, List.getElem_cons_succ]
    refine wpAnyH_take (i := 9) (oi := _) (v := ?v9_8) rfl (by kernel_rfl) (by kernel_rfl) (by kernel_rfl) (fun _ _ _ h => h) (Or.inl ⟨by rfl, ?hy9_8⟩) (by assumption) ?rest9_8
    case hy9_8 =>
      intro w hSw
      (try dsimp only at hSw)
      go_simp
      rfl
    case' rest9_8 => try simp only [Act.put, List.setIfInBounds_toArray, List.set_cons_zero, List.set_cons_succ, List.getElem_toArray, List.getElem_cons_zero, List.getElem_cons_succ]
    refine wpAnyH_take (i := 10) (oi := _) (v := ?v10_9) rfl (by kernel_rfl) (by kernel_rfl) (by kernel_rfl) (fun _ _ _ h => h) (Or.inl ⟨by rfl, ?hy10_9⟩) (by assumption) ?rest10_9
    case hy10_9 =>
      intro w hSw
      (try dsimp only at hSw)
      go_simp
      rfl
    case' rest10_9 => try simp only [Act.put, List.setIfInBounds_toArray, List.set_cons_zero, List.set_cons_succ, List.getElem_toArray, List.getElem_cons_zero, List.getElem_cons_succ]
    refine wpAnyH_take (i := 11) (oi := _) (v := ?v11_10) rfl (by kernel_rfl) (by kernel_rfl) (by kernel_rfl) (fun _ _ _ h => h) (Or.inl ⟨by rfl, ?hy11_10⟩) (by assumption) ?rest11_10
    case hy11_10 =>
      intro w hSw
      (try dsimp only at hSw)
      go_simp
      rfl
    case' rest11_10 => try simp only [Act.put, List.setIfInBounds_toArray, List.set_cons_zero, List.set_cons_succ, List.getElem_toArray, List.getElem_cons_zero, List.getElem_cons_succ]
    refine wpAnyH_ready (rs := [1, 7]) (by kernel_rfl) (by simp) ?_
    refine AllReadyH.cons (o := _) rfl (fun K hK => ?_) (AllReadyH.cons (o := _) rfl (fun K hK => ?_) AllReadyH.nil)
    · have r3c := HT11.out.drew.cell (j := 3) rfl
      go_simp
      clear r3c hHeld
      refine hK.out _ _ HKD.out (fun hHeld => ?_)
      clear hK K
      try simp only [Act.put, List.setIfInBounds_toArray, List.set_cons_zero, List.set_cons_succ, List.getElem_toArray, List.getElem_cons_zero, List.getElem_cons_succ]
      refine wpAnyH_ready (rs := [7]) (by kernel_rfl) (by simp) ?_
      refine AllReadyH.cons (o := _) rfl (fun K hK => ?_) AllReadyH.nil
      go_simp
      go_at_call 18
      with_reducible refine HOUT.out.mono ?_
      rintro e w12 ⟨rfl, hb12a⟩
      have hb12 : Below w11.heap.size w11 w12 := ⟨hb12a.os, hb12a.tape, hb12a.output, hb12a.size, hb12a.block⟩
      clear hb12a hHeld
      have q12 := hb12.size
      have HX12 := Lib.hid (HX11.out.below hb12 (by omega))
      have HC12 := Lib.hid (HC11.out.below hb12 (by omega))
      have HT12 := Lib.hid (HT11.out.below hb12 (by omega))
      refine hK.out _ _ (HKP.out _ HX12.out HC12.out (HT12.out.cell (j := 2) rfl)) (fun hHeld => ?_)
      clear hK K
      try simp only [Act.put, List.setIfInBounds_toArray, List.set_cons_zero, List.set_cons_succ, List.getElem_toArray, List.getElem_cons_zero, List.getElem_cons_succ]
      refine wpAnyH_ready (rs := [12]) (by kernel_rfl) (by simp) ?_
      refine AllReadyH.cons (o := _) rfl (fun K hK => ?_) AllReadyH.nil
      go_simp
      go_at_call 57
      with_reducible refine (refback_any _ _ _ _ _ hbk0 hbk1 hsz0 hsz1).mono ?_
      rintro e w13 ⟨rfl, hwe⟩
      have hb13 : Below w12.heap.size w12 w13 := by rw [← hwe]; exact Below.refl _ _
      clear hwe
      clear hHeld
      have q13 := hb13.size
      have HX13 := Lib.hid (HX12.out.below hb13 (by omega))
      have HC13 := Lib.hid (HC12.out.below hb13 (by omega))
      have HT13 := Lib.hid (HT12.out.below hb13 (by omega))
      refine hK.out _ _ (HKP.out _ HX13.out HC13.out (HT13.out.cell (j := 2) rfl)) (fun hHeld => ?_)
      clear hK K
      try simp only [Act.put, List.setIfInBounds_toArray, List.set_cons_zero, List.set_cons_succ, List.getElem_toArray, List.getElem_cons_zero, List.getElem_cons_succ]
      refine wpAnyH_take (i := 13) (oi := _) (v := ?v13_11) rfl (by kernel_rfl) (by kernel_rfl) (by kernel_rfl) (fun _ _ _ h => h) (Or.inl ⟨by rfl, ?hy13_11⟩) (by assumption) ?rest13_11
      case hy13_11 =>
        intro w hSw
        (try dsimp only at hSw)
        go_simp
        rfl
      case' rest13_11 => try simp only [Act.put, List.setIfInBounds_toArray, List.set_cons_zero, List.set_cons_succ, List.getElem_toArray, List.getElem_cons_zero, List.getElem_cons_succ]
      refine wpAnyH_ready (rs := [14]) (by kernel_rfl) (by simp) ?_
      refine AllReadyH.cons (o := _) rfl (fun K hK => ?_) AllReadyH.nil
      have r3d := HT13.out.cell (j := 3) rfl
      have hzz := HT13.out.froz (j := 3) (show 3 < 5 by decide)
      go_simp
      clear r3d hzz hHeld
      refine hK.out _ _ (HKP.out _ (HX13.out.wrote (wrote_setCell _ _ _ _) (by omega)) (HC13.out.wrote (wrote_setCell _ _ _ _) (by omega)) ((HT13.out.set (i := 3) (show 3 < 5 by decide) _).cell (j := 2) rfl)) (fun hHeld => ?_)
      clear hK K
      try simp only [Act.put, List.setIfInBounds_toArray, List.set_cons_zero, List.set_cons_succ, List.getElem_toArray, List.getElem_cons_zero, List.getElem_cons_succ]
      refine wpAnyH_done (by kernel_rfl) ?_ _
      refine NoPanic.normal ?_
      obtain ⟨w14, hw14⟩ : ∃ x, x = w13.setCell ⟨w10.heap.size, 3, none⟩ (.int .i64 (backI fbucket fburst ot (i5 - sp))) := ⟨_, rfl⟩
      rw [← hw14]
      have W14 := wrote_setCell w13 w10.heap.size 3 (.int .i64 (backI fbucket fburst ot (i5 - sp)))
      rw [← hw14] at W14
      have X14 := Lib.hid (HX13.out.wrote W14 (by omega))
      have T14 : Hid (Box w14 w10.heap.size (Tenant.cells ⟨fid, frate, fburst, (backI fbucket fburst ot (i5 - sp)), false⟩)) := by show Box _ _ _; rw [hw14]; exact HT13.out.set (i := 3) (show 3 < 5 by decide) _
      have M14 : Hid (Mid w5.heap.size w10.heap.size w11 w14) := ((Mid.below hb12 (by omega) : Mid w5.heap.size w10.heap.size w11 w12).next hb13 (by omega)).wrote W14 (.inr (by omega))
      have B14 : Hid (Below w10.heap.size w11 w14) := ((hb12.mono (by omega)).trans (hb13.mono (by omega))).trans (W14.below _ (by omega))
      have S14 : Hid (w11.heap.size ≤ w14.heap.size) := Nat.le_trans (Nat.le_trans hb12.size hb13.size) (Nat.le_of_eq W14.size.symm)
      clear hHeld hw14 W14 HT13 HC13 HX13 q13 hb13 HT12 HC12 HX12 q12 hb12
      clear w13 w12
      revert S14
      revert B14
      revert M14
      revert T14
      revert X14
      revert w14
      exact CUT1.out
    · go_simp
      go_at_call 18
      with_reducible refine HOUT.out.mono ?_
      rintro e w12 ⟨rfl, hb12a⟩
      have hb12 : Below w11.heap.size w11 w12 := ⟨hb12a.os, hb12a.tape, hb12a.output, hb12a.size, hb12a.block⟩
      clear hb12a hHeld
      have q12 := hb12.size
      have HX12 := Lib.hid (HX11.out.below hb12 (by omega))
      have HC12 := Lib.hid (HC11.out.below hb12 (by omega))
      have HT12 := Lib.hid (HT11.out.below hb12 (by omega))
      refine hK.out _ _ (HKP.out _ HX12.out HC12.out (HT12.out.cell (j := 2) rfl)) (fun hHeld => ?_)
      clear hK K
      try simp only [Act.put, List.setIfInBounds_toArray, List.set_cons_zero, List.set_cons_succ, List.getElem_toArray, List.getElem_cons_zero, List.getElem_cons_succ]
      refine wpAnyH_ready (rs := [1]) (by kernel_rfl) (by simp) ?_
      refine AllReadyH.cons (o := _) rfl (fun K hK => ?_) AllReadyH.nil
      have r3c := HT12.out.cell (j := 3) rfl
      go_simp
      clear r3c hHeld
      refine hK.out _ _ (HKP.out _ HX12.out HC12.out (HT12.out.cell (j := 2) rfl)) (fun hHeld => ?_)
      clear hK K
      try simp only [Act.put, List.setIfInBounds_toArray, List.set_cons_zero, List.set_cons_succ, List.getElem_toArray, List.getElem_cons_zero, List.getElem_cons_succ]
      refine wpAnyH_ready (rs := [12]) (by kernel_rfl) (by simp) ?_
      refine AllReadyH.cons (o := _) rfl (fun K hK => ?_) AllReadyH.nil
      go_simp
      go_at_call 57
      with_reducible refine (refback_any _ _ _ _ _ hbk0 hbk1 hsz0 hsz1).mono ?_
      rintro e w13 ⟨rfl, hwe⟩
      have hb13 : Below w12.heap.size w12 w13 := by rw [← hwe]; exact Below.refl _ _
      clear hwe
      clear hHeld
      have q13 := hb13.size
      have HX13 := Lib.hid (HX12.out.below hb13 (by omega))
      have HC13 := Lib.hid (HC12.out.below hb13 (by omega))
      have HT13 := Lib.hid (HT12.out.below hb13 (by omega))
      refine hK.out _ _ (HKP.out _ HX13.out HC13.out (HT13.out.cell (j := 2) rfl)) (fun hHeld => ?_)
      clear hK K
      try simp only [Act.put, List.setIfInBounds_toArray, List.set_cons_zero, List.set_cons_succ, List.getElem_toArray, List.getElem_cons_zero, List.getElem_cons_succ]
      refine wpAnyH_take (i := 13) (oi := _) (v := ?v13_12) rfl (by kernel_rfl) (by kernel_rfl) (by kernel_rfl) (fun _ _ _ h => h) (Or.inl ⟨by rfl, ?hy13_12⟩) (by assumption) ?rest13_12
      case hy13_12 =>
        intro w hSw
        (try dsimp only at hSw)
        go_simp
        rfl
      case' rest13_12 => try simp only [Act.put, List.setIfInBounds_toArray, List.set_cons_zero, List.set_cons_succ, List.getElem_toArray, List.getElem_cons_zero, List.getElem_cons_succ]
      refine wpAnyH_ready (rs := [14]) (by kernel_rfl) (by simp) ?_
      refine AllReadyH.cons (o := _) rfl (fun K hK => ?_) AllReadyH.nil
      have r3d := HT13.out.cell (j := 3) rfl
      have hzz := HT13.out.froz (j := 3) (show 3 < 5 by decide)
      go_simp
      clear r3d hzz hHeld
      refine hK.out _ _ (HKP.out _ (HX13.out.wrote (wrote_setCell _ _ _ _) (by omega)) (HC13.out.wrote (wrote_setCell _ _ _ _) (by omega)) ((HT13.out.set (i := 3) (show 3 < 5 by decide) _).cell (j := 2) rfl)) (fun hHeld => ?_)
      clear hK K
      try simp only [Act.put, List.setIfInBounds_toArray, List.set_cons_zero, List.set_cons_succ, List.getElem_toArray, List.getElem_cons_zero, List.getElem_cons_succ]
      refine wpAnyH_done (by kernel_rfl) ?_ _
      refine NoPanic.normal ?_
      obtain ⟨w14, hw14⟩ : ∃ x, x = w13.setCell ⟨w10.heap.size, 3, none⟩ (.int .i64 (backI fbucket fburst ot (i5 - sp))) := ⟨_, rfl⟩
      rw [← hw14]
      have W14 := wrote_setCell w13 w10.heap.size 3 (.int .i64 (backI fbucket fburst ot (i5 - sp)))
      rw [← hw14] at W14
      have X14 := Lib.hid (HX13.out.wrote W14 (by omega))
      have T14 : Hid (Box w14 w10.heap.size (Tenant.cells ⟨fid, frate, fburst, (backI fbucket fburst ot (i5 - sp)), false⟩)) := by show Box _ _ _; rw [hw14]; exact HT13.out.set (i := 3) (show 3 < 5 by decide) _
      have M14 : Hid (Mid w5.heap.size w10.heap.size w11 w14) := ((Mid.below hb12 (by omega) : Mid w5.heap.size w10.heap.size w11 w12).next hb13 (by omega)).wrote W14 (.inr (by omega))
      have B14 : Hid (Below w10.heap.size w11 w14) := ((hb12.mono (by omega)).trans (hb13.mono (by omega))).trans (W14.below _ (by omega))
      have S14 : Hid (w11.heap.size ≤ w14.heap.size) := Nat.le_trans (Nat.le_trans hb12.size hb13.size) (Nat.le_of_eq W14.size.symm)
      clear hHeld hw14 W14 HT13 HC13 HX13 q13 hb13 HT12 HC12 HX12 q12 hb12
      clear w13 w12
      revert S14
      revert B14
      revert M14
      revert T14
      revert X14
      revert w14
      exact CUT1.out
  intro w14 HX14 HT14 HM14 HB14 HS14
  clear HKD HKP HOUT hwr
  have q14 := HS14.out
  have HN1 : Hid (∀ b o q, x1 = some ⟨b, o, q⟩ → b ≠ w6.heap.size) := fun b o q e => Nat.ne_of_lt (LRow.block (L := layTen) HST6.out.is.ten.row HNE.out e)
  have HN2 : Hid (∀ b o q, d2 = some ⟨b, o, q⟩ → b ≠ w6.heap.size) := fun b o q e => by
    have := Q7.out
    rcases HNR8.out b o q e with h1 | ⟨_, _, h1⟩
    · have h2 : w7.heap.size ≤ b := h1
      omega
    · cases h1
  have HST10 : Hid (StAt w10 w5.heap.size ⟨t4, s4, n4, ⟨x1, m1, y1⟩, ⟨d2, e2, f2⟩, ⟨x3, m3, y3⟩, ⟨x4, m4, y4⟩⟩ (woS s le)) := HSTX.out
  have HST14 := Lib.hid (HST10.out.mid (((Mid.below hb11 (Nat.le_refl _) : Mid w5.heap.size w10.heap.size w10 w11)).trans HM14.out) (Nat.le_refl _) (Nat.le_refl _))
  have k3 := HX14.out.cell (j := 3) rfl
  have HZ14 := Lib.hid (HZ10.out.below (B := w10.heap.size) ((hb11.mono (Nat.le_refl _)).trans HB14.out) (HZ10.out.lt (by simp)))
  have HBB14 := Lib.hid (below_up HB10.out ((hb11.mono (Nat.le_refl _)).trans HB14.out))
  obtain ⟨ss, HSS⟩ : ∃ ss, Hid (setS s.tens ⟨fid, frate, fburst, (backI fbucket fburst ot (i5 - sp)), false⟩ = ss) := ⟨_, rfl⟩
  have HSL2 := Lib.hid (show ss.1.length ≤ s.tens.length + 1 by rw [← HSS.out]; exact setS_len _ _)
  go_upto_region 21 with (first
      | (have hgq := HX15; clear hgq; refine wpList_store_field rfl (.tmp 131) (.tmp 129) rfl size1_slice.2.1 (w6.heap.size) 3 _ (.slice xa ss.1.length ya) rfl rfl rfl rfl HX15.out (show 3 < 7 by decide) ?_; intro w16 hbx16 hw16; have HX16 : Hid (Box w16 (w6.heap.size) (Raw.cells ⟨t4, s4, n4, ⟨xa, ss.1.length, ya⟩, ⟨d2, e2, f2⟩, ⟨x3, m3, y3⟩, ⟨x4, m4, y4⟩⟩)) := hbx16; have HW16 := Lib.hid hw16; have q16 := Nat.le_of_eq hw16.size; have q16' := Nat.le_of_eq hw16.size.symm; have HZ16 := Lib.hid (HZ15.out.wrote hw16 (by omega)); have HB16 := Lib.hid (HB15.out.trans (hw16.below _ (by omega))); clear hbx16 hw16)
      | (go_at_call 38; have hse := refset_any s.tens x1 m1 y1 ⟨fid, frate, fburst, (backI fbucket fburst ot (i5 - sp)), false⟩ w14 HST14.out.ten.len HL.out.1 HST14.out.ten.nil HST14.out.ten.le HST14.out.trow; (with_reducible refine hse.mono ?_); clear hse; rw [HSS.out]; rintro e w15 ⟨xa, ya, rfl, hle15, hnil15, hnear15, hrow15, hb15⟩; have K15 := Lib.hid (And.intro hle15 (And.intro hnil15 (And.intro hnear15 hrow15))); clear hle15 hnil15 hnear15 hrow15; have HX15 := Lib.hid (HX14.out.next (show 0 < 7 by decide) hb15); have HZ15 := Lib.hid (HZ14.out.next (show 0 < 7 by decide) hb15); have HB15 := Lib.hid (below_up HBB14.out hb15); have q15 := hb15.size; clear k3)
      | (have hgq := HX14; clear hgq; refine wpList_load_as layTen rfl (.tmp 18) rfl w10.heap.size 0 rfl ⟨fid, frate, fburst, (backI fbucket fburst ot (i5 - sp)), false⟩ (.agg #[.int .i64 fid, .int .i64 frate, .int .i64 fburst, .int .i64 (backI fbucket fburst ot (i5 - sp)), .bool false]) rfl HT14.out.range ?_))
  have hz16 : Mid w5.heap.size w6.heap.size w14 w16 := (Mid.below hb15 (by omega)).wrote HW16.out (.inr (Nat.le_refl _))
  have HST16 : Hid (StAt w16 w5.heap.size ⟨t4, s4, n4, ⟨xa, ss.1.length, ya⟩, ⟨d2, e2, f2⟩, ⟨x3, m3, y3⟩, ⟨x4, m4, y4⟩⟩ { woS s le with tens := ss.1 }) := by
    have i14 := HST14.out
    have hx1 : ∀ b o q, xa = some ⟨b, o, q⟩ → b ≠ w6.heap.size := fun b o q e => by
      have := HN1.out
      rcases K15.out.2.2.1 b o q e with h1 | ⟨o2, q2, h2⟩
      · have h3 : w14.heap.size ≤ b := h1
        omega
      · exact HN1.out b _ _ h2
    have t15 : SliAt layTen w15 w5.heap.size ⟨xa, ss.1.length, ya⟩ ss.1 := ⟨rfl, K15.out.1, K15.out.2.1, near_of K15.out.2.2.1 i14.ten.near (by omega), K15.out.2.2.2⟩
    have i15 := i14.below hb15
    exact ⟨i15.term, i15.stamp, i15.next, ⟨t15.len, t15.le, t15.nil, t15.near, LRow.keepB (L := layTen) t15.row hx1 HW16.out.keep⟩, ⟨i15.lea.len, i15.lea.le, i15.lea.nil, i15.lea.near, i15.lea.row.keepB HN2.out HW16.out.keep⟩, ⟨i15.ses.len, i15.ses.le, i15.ses.nil, i15.ses.near, i15.ses.row.keepN HST6.out.is.ses.row (Nat.le_refl _) HW16.out.keep⟩, ⟨i15.dsk.len, i15.dsk.le, i15.dsk.nil, i15.dsk.near, i15.dsk.row.keepN HST6.out.is.dsk.row (Nat.le_refl _) HW16.out.keep⟩⟩
  have HL1 : Hid (ss.1.length ≤ 900) := by show _ ≤ _; have := HSL2.out; omega
  go_wp2_with (first
      | (have hgq := HB18; clear hgq; refine wpList_store_whole laySt rfl (.tmp 12) (.tmp 133) rfl (w.heap.size + 1) ⟨t5, s5, n5, ⟨u1, v1, z1⟩, ⟨u2, v2, z2⟩, ⟨u3, v3, z3⟩, ⟨u4, v4, z4⟩⟩ _ rfl rfl HZ18.out rfl ?_; intro w19 hbx19 hw19; have HX19 := Lib.hid hbx19; have HW19 := Lib.hid hw19; clear hbx19 hw19)
      | (have hgq := HX16; clear hgq; go_at_call 39; have hsw := HSW.out { woS s le with tens := ss.1 } ⟨t4, s4, n4, ⟨xa, ss.1.length, ya⟩, ⟨d2, e2, f2⟩, ⟨x3, m3, y3⟩, ⟨x4, m4, y4⟩⟩ w5.heap.size w16 HST16.out (by omega) HWF.out HL1.out (Nat.le_trans HWL.out HL.out.2.1); ((with_reducible refine hsw.mono ?_); clear hsw; rintro e w18 ⟨⟨t5, s5, n5, ⟨u1, v1, z1⟩, ⟨u2, v2, z2⟩, ⟨u3, v3, z3⟩, ⟨u4, v4, z4⟩⟩, rfl, hst18, hb18⟩; have HST18 := Lib.hid hst18; have HB18 := Lib.hid (below_up HB16.out hb18); have HZ18 := Lib.hid (HZ16.out.next (show 0 < 7 by decide) hb18); have q18 := hb18.size; clear hst18))
      | (have hgq := HX16; clear hgq; refine wpList_load_as laySt rfl (.tmp 16) rfl w6.heap.size 0 rfl ⟨t4, s4, n4, ⟨xa, ss.1.length, ya⟩, ⟨d2, e2, f2⟩, ⟨x3, m3, y3⟩, ⟨x4, m4, y4⟩⟩ (.agg #[.int .i64 t4, .int .i64 s4, .int .i64 n4, .slice xa ss.1.length ya, .slice d2 e2 f2, .slice x3 m3 y3, .slice x4 m4 y4]) rfl HX16.out.range ?_))
  rw [HOT.out, HSS.out]
  have b19 : Below w.heap.size w w19 := HB18.out.trans (HW19.out.below _ (by omega))
  exact ⟨rfl, refreport_out (r9 := ⟨t5, s5, n5, ⟨u1, v1, z1⟩, ⟨u2, v2, z2⟩, ⟨u3, v3, z3⟩, ⟨u4, v4, z4⟩⟩) (e := 0) rfl rfl HX19.out ((HST18.out.mid ((Mid.refl w5.heap.size w18.heap.size w18).wrote HW19.out (.inl (by omega))) (Nat.le_refl _) (Nat.le_refl _)).mono (Nat.zero_le _)) rfl b19⟩
end Go.Proofs.Ytoofmofaimdhpaa
