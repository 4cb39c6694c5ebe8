import Derived.Test.YtoofmofaimdhpaaLedReport
import Derived.Test.YtoofmofaimdhpaaPackLedgerReports1
import Derived.Test.YtoofmofaimdhpaaPackLedgerGrants1
import Derived.Test.YtoofmofaimdhpaaRefRepNo
import Derived.Deep.Cut
import Derived.Deep.RegionHeld3
set_option linter.unusedVariables false
set_option linter.unusedSimpArgs false
/- weirref18.Report: a lease of a tenant that is gone let go. -/
namespace Go.Proofs.Ytoofmofaimdhpaa
open Go.ChangeShapes Go.WideShapes Go.ChangeAt Go.RowKit
set_option maxRecDepth 100000

set_option maxHeartbeats 16000000 in
theorem refreport_gone (s : St) (r : Raw) (B : Nat) (sh ep le sp : Int) (cl : Bool) (w : World) (h : StAt w B r s) (hl1' : s.tens.length ≤ 800) (hl2 : s.leas.length ≤ 900) (hl3 : s.sess.length ≤ 900) (hl4 : s.dsks.length ≤ 900)
    (hok : stOk s = true) (i0 i1 i4 i5 i6 : Int) (hfs : findSt s le = (⟨i0, i1, sh, ep, i4, i5, i6⟩, true)) (fid frate fburst fbucket : Int) (ok : Bool) (hfd : findT s.tens i1 = (⟨fid, frate, fburst, fbucket, true⟩, ok)) (hcl : cl = true) (g1 : i6 ≤ sp) (g2 : sp ≤ i5) :
    Calls Try.prog 23 #[r.agg, .int .i64 sh, .int .i64 ep, .int .i64 le, .int .i64 sp, .bool cl] w (RetSE w (sweptS (woS s le), 0)) := by
  have hl1 : s.tens.length ≤ 900 := by omega
  have HS := Lib.hid h
  have HL := Lib.hid (And.intro hl1 (And.intro hl2 (And.intro hl3 hl4)))
  have HCK := Lib.hid (fun w' (hb : Below w.heap.size w w') => refcheck_st s r B w' (h.below hb) hl1 hl2)
  have HOK := Lib.hid hok
  have HRF := Lib.hid (fun w' (hb : Below w.heap.size w w') => reffind_st s r B le w' (h.below hb) hl1 hl2)
  have HFS := Lib.hid hfs
  have HCP := Lib.hid (fun w' (hb : Below w.heap.size w w') => refcopy_st s r B w' (h.below hb) hl1 hl2 hl3 hl4)
  have HFIT := Lib.hid (leasOk_fits (stOk_parts hok).1 (stOk_parts hok).2.1)
  have HSW := Lib.hid (fun (a : St) q B' w' (h' : StAt w' B' q a) (hB' : B' ≤ w'.heap.size) (hf : Fits a.leas) (h1 : a.tens.length ≤ 900) (h2 : a.leas.length ≤ 900) => refswept_st a q B' w' h' hf h1 h2 hB')
  have HPF := Lib.hid (fun w' (hb : Below w.heap.size w w') => reffind_any s.tens r.ten.a r.ten.n r.ten.c i1 w' h.ten.len (le_maxLen (by omega)) (Row.below h.trow hb))
  have HFD := Lib.hid hfd
  subst hcl
  obtain ⟨term, stamp, next, ⟨a1, n1, c1⟩, ⟨a2, n2, c2⟩, ⟨a3, n3, c3⟩, ⟨a4, n4, c4⟩⟩ := r
  have HBX : Hid (∀ w', Below ((w.alloc (.cells #[.int .i64 term, .int .i64 stamp, .int .i64 next, .slice a1 n1 c1, .slice a2 n2 c2, .slice a3 n3 c3, .slice a4 n4 c4] 27)).alloc (.cells #[.int .i64 0, .int .i64 0, .int .i64 0, .slice none 0 0, .slice none 0 0, .slice none 0 0, .slice none 0 0] 27)).heap.size ((w.alloc (.cells #[.int .i64 term, .int .i64 stamp, .int .i64 next, .slice a1 n1 c1, .slice a2 n2 c2, .slice a3 n3 c3, .slice a4 n4 c4] 27)).alloc (.cells #[.int .i64 0, .int .i64 0, .int .i64 0, .slice none 0 0, .slice none 0 0, .slice none 0 0, .slice none 0 0] 27)) w' → Box w' w.heap.size (Raw.cells ⟨term, stamp, next, ⟨a1, n1, c1⟩, ⟨a2, n2, c2⟩, ⟨a3, n3, c3⟩, ⟨a4, n4, c4⟩⟩) ∧ Box w' (w.heap.size + 1) (Raw.cells ⟨0, 0, 0, ⟨none, 0, 0⟩, ⟨none, 0, 0⟩, ⟨none, 0, 0⟩, ⟨none, 0, 0⟩⟩) ∧ w.heap.size + 2 ≤ w'.heap.size) :=
    fun w' hb => ⟨Box.of_alloc (mid_alloc' hb), Box.of_alloc1 hb, by have := hb.size; simp at this; omega⟩
  clear h hl1 hl2 hl3 hl4 hok hfs hfd
  go_enter Try.func23, Try.ntmps23
  go_upto_region 21 with (first
      | (have hgq := HB10; clear hgq; refine wpList_store_box layTen rfl (.tmp 18) (.tmp 102) rfl ⟨fid, frate, fburst, fbucket, true⟩ rfl rfl rfl ?_; intro w11 hw11 ht11 hb11 hs11; have HT11 : Hid (Box w11 w10.heap.size (Tenant.cells ⟨fid, frate, fburst, fbucket, true⟩)) := ⟨hw11, ht11⟩; have HB11 := Lib.hid (below_up HB10.out hb11); have HS11 := Lib.hid (HS10.out.next (show 0 < 7 by decide) hb11); have HZ11 := Lib.hid (HZ10.out.next (show 0 < 7 by decide) hb11); have HC11 := Lib.hid (HC10.out.next (show 0 < 7 by decide) hb11); have HX11 := Lib.hid (HX10.out.next (show 0 < 7 by decide) hb11); have q11 := hb11.size; have Q11 : Hid (w11.heap.size = w10.heap.size + 1) := hs11; have r4 := HT11.out.cell (j := 4) rfl; clear hw11 ht11 hs11)
      | (go_at_call 26; ((with_reducible refine (HPF.out w9 HB9.out).mono ?_); rw [HFD.out]; rintro e w10 ⟨rfl, hb10⟩; have HB10 := Lib.hid (below_up HB9.out hb10); have HS10 := Lib.hid (HS9.out.next (show 0 < 7 by decide) hb10); have HZ10 := Lib.hid (HZ9.out.next (show 0 < 7 by decide) hb10); have HC10 := Lib.hid (HC9.out.next (show 0 < 7 by decide) hb10); have HX10 := Lib.hid (HX9.out.next (show 0 < 7 by decide) hb10); have q10 := hb10.size; clear k3 p1))
      | (have hgq := HB8; clear hgq; refine wpList_store_whole laySt rfl (.tmp 16) (.tmp 95) rfl w6.heap.size ⟨t4, s4, n4, ⟨x1, m1, y1⟩, ⟨d2, e2, f2⟩, ⟨x3, m3, y3⟩, ⟨x4, m4, y4⟩⟩ _ rfl rfl HX8.out rfl ?_; intro w9 hbx9 hw9; have HX9 := Lib.hid hbx9; have HW9 := Lib.hid hw9; have HS9 := Lib.hid (HS8.out.wrote hw9 (by omega)); have HZ9 := Lib.hid (HZ8.out.wrote hw9 (by omega)); have HC9 := Lib.hid (HC8.out.wrote hw9 (by omega)); have hb69 : Below w6.heap.size w6 w9 := ((hb7.trans (hb8.mono (by omega))).trans (hw9.below _ (Nat.le_refl _))); have HB9 := Lib.hid (below_up HB6.out hb69); have q9 := Nat.le_of_eq hw9.size; have q9' := Nat.le_of_eq hw9.size.symm; have k3 := HS9.out.cell (j := 3) rfl; have p1 := HC9.out.cell (j := 1) rfl; clear hbx9 hw9 hb69)
      | (have hgq := HX7; clear hgq; go_at_call 56; have hwo := refwithout_st s ⟨t4, s4, n4, ⟨x1, m1, y1⟩, ⟨x2, m2, y2⟩, ⟨x3, m3, y3⟩, ⟨x4, m4, y4⟩⟩ w5.heap.size le w7 (HST6.out.is.mid (Mid.below hb7 (Nat.le_refl _) : Mid w5.heap.size w6.heap.size w6 w7) (Nat.le_refl _) (Nat.le_refl _)) HL.out.2.1 (by omega); ((with_reducible refine hwo.mono ?_); clear hwo; rintro e w8 ⟨⟨d2, e2, f2⟩, rfl, hsl8, hnr8, hb8⟩; have HSL8 := Lib.hid hsl8; have HNR8 := Lib.hid hnr8; have HB8 := Lib.hid (below_up HB7.out hb8); have HS8 := Lib.hid (HS7.out.next (show 0 < 7 by decide) hb8); have HZ8 := Lib.hid (HZ7.out.next (show 0 < 7 by decide) hb8); have HC8 := Lib.hid (HC7.out.next (show 0 < 7 by decide) hb8); have HX8 := Lib.hid (HX7.out.next (show 0 < 7 by decide) hb8); have q8 := hb8.size; clear hsl8 hnr8 p5b))
      | (have hgq := HX7; clear hgq; refine wpList_load_as laySt rfl (.tmp 16) rfl w6.heap.size 0 rfl ⟨t4, s4, n4, ⟨x1, m1, y1⟩, ⟨x2, m2, y2⟩, ⟨x3, m3, y3⟩, ⟨x4, m4, y4⟩⟩ (.agg #[.int .i64 t4, .int .i64 s4, .int .i64 n4, .slice x1 m1 y1, .slice x2 m2 y2, .slice x3 m3 y3, .slice x4 m4 y4]) rfl HX7.out.range ?_)
      | (have hgq := HB6; clear hgq; refine wpList_store_box laySt rfl (.tmp 16) (.tmp 61) rfl ⟨t4, s4, n4, ⟨x1, m1, y1⟩, ⟨x2, m2, y2⟩, ⟨x3, m3, y3⟩, ⟨x4, m4, y4⟩⟩ rfl rfl rfl ?_; intro w7 hw7 ht7 hb7 hs7; have HX7 : Hid (Box w7 w6.heap.size (Raw.cells ⟨t4, s4, n4, ⟨x1, m1, y1⟩, ⟨x2, m2, y2⟩, ⟨x3, m3, y3⟩, ⟨x4, m4, y4⟩⟩)) := ⟨hw7, ht7⟩; have HB7 := Lib.hid (below_up HB6.out hb7); have HS7 := Lib.hid (HS6.out.next (show 0 < 7 by decide) hb7); have HZ7 := Lib.hid (HZ6.out.next (show 0 < 7 by decide) hb7); have HC7 := Lib.hid (HC6.out.next (show 0 < 7 by decide) hb7); have q7 := hb7.size; have Q7 : Hid (w7.heap.size = w6.heap.size + 1) := hs7; have q7g := Nat.le_of_eq hs7.symm; have p5b := HC7.out.cell (j := 5) rfl; clear hw7 ht7 hs7)
      | (go_at_call 37; ((with_reducible refine (HCP.out w5 HB5.out).mono ?_); rintro e w6 ⟨⟨t4, s4, n4, ⟨x1, m1, y1⟩, ⟨x2, m2, y2⟩, ⟨x3, m3, y3⟩, ⟨x4, m4, y4⟩⟩, rfl, hst6, hb6⟩; have HST6 := Lib.hid hst6; have HB6 := Lib.hid (below_up HB5.out hb6); have HS6 := Lib.hid (HS5.out.next (show 0 < 7 by decide) hb6); have HZ6 := Lib.hid (HZ5.out.next (show 0 < 7 by decide) hb6); have HC6 := Lib.hid (HC5.out.next (show 0 < 7 by decide) hb6); have q6 := hb6.size; clear hst6 p2 p3 p5 p6))
      | (have hgq := HS5; clear hgq; refine wpList_load_as laySt rfl (.tmp 6) rfl w.heap.size 0 rfl ⟨term, stamp, next, ⟨a1, n1, c1⟩, ⟨a2, n2, c2⟩, ⟨a3, n3, c3⟩, ⟨a4, n4, c4⟩⟩ (.agg #[.int .i64 term, .int .i64 stamp, .int .i64 next, .slice a1 n1 c1, .slice a2 n2 c2, .slice a3 n3 c3, .slice a4 n4 c4]) rfl HS5.out.range ?_)
      | (have hgq := HB4; clear hgq; refine wpList_store_box layLea rfl (.tmp 14) (.tmp 28) rfl ⟨i0, i1, sh, ep, i4, i5, i6⟩ rfl rfl rfl ?_; intro w5 hw5 ht5 hb5 hs5; have HC5 : Hid (Box w5 w4.heap.size (Lease.cells ⟨i0, i1, sh, ep, i4, i5, i6⟩)) := ⟨hw5, ht5⟩; have HB5 := Lib.hid (below_up HB4.out hb5); have HS5 := Lib.hid (HS4.out.next (show 0 < 7 by decide) hb5); have HZ5 := Lib.hid (HZ4.out.next (show 0 < 7 by decide) hb5); have q5 := hb5.size; have q5' : w5.heap.size = w4.heap.size + 1 := hs5; have p2 := HC5.out.cell (j := 2) rfl; have p3 := HC5.out.cell (j := 3) rfl; have p5 := HC5.out.cell (j := 5) rfl; have p6 := HC5.out.cell (j := 6) rfl; have Q5 := Lib.hid q5'; have q5g := Nat.le_of_eq hs5.symm; clear hw5 ht5 hs5 q5')
      | (go_at_call 15; ((with_reducible refine (HRF.out w3 HB3.out).mono ?_); rw [HFS.out]; rintro e w4 ⟨rfl, hb4⟩; have HB4 := Lib.hid (below_up HB3.out hb4); have q4 := hb4.size; have HS4 := Lib.hid (HS3.out.next (show 0 < 7 by decide) hb4); have HZ4 := Lib.hid (HZ3.out.next (show 0 < 7 by decide) hb4)))
      | (have hgq := HS3; clear hgq; refine wpList_load_as laySt rfl (.tmp 6) rfl w.heap.size 0 rfl ⟨term, stamp, next, ⟨a1, n1, c1⟩, ⟨a2, n2, c2⟩, ⟨a3, n3, c3⟩, ⟨a4, n4, c4⟩⟩ (.agg #[.int .i64 term, .int .i64 stamp, .int .i64 next, .slice a1 n1 c1, .slice a2 n2 c2, .slice a3 n3 c3, .slice a4 n4 c4]) rfl HS3.out.range ?_)
      | (go_at_call 16; ((with_reducible refine (HCK.out _ (by repeat' (first | (with_reducible exact Below.refl _ _) | (with_reducible assumption) | (with_reducible refine Below.drew ?_) | (with_reducible refine Below.more ?_ _) | (with_reducible refine Below.put ?_ ?_ _) | (with_reducible refine Below.next ?_ (by with_reducible assumption)) | (with_reducible exact Nat.le_refl _) | (with_reducible refine Below.size' ?_) | omega))).mono ?_); rw [HOK.out]; rintro e w3 ⟨rfl, hb3⟩; have hbx := HBX.out w3 (by repeat' (first | (with_reducible exact Below.refl _ _) | (with_reducible assumption) | (with_reducible refine Below.drew ?_) | (with_reducible refine Below.more ?_ _) | (with_reducible refine Below.put ?_ ?_ _) | (with_reducible refine Below.next ?_ (by with_reducible assumption)) | (with_reducible exact Nat.le_refl _) | (with_reducible refine Below.size' ?_) | omega)); have HS3 := Lib.hid hbx.1; have HZ3 := Lib.hid hbx.2.1; have q3 := hbx.2.2; have hb3' : Below w.heap.size w w3 := (by repeat' (first | (with_reducible exact Below.refl _ _) | (with_reducible assumption) | (with_reducible refine Below.drew ?_) | (with_reducible refine Below.more ?_ _) | (with_reducible refine Below.put ?_ ?_ _) | (with_reducible refine Below.next ?_ (by with_reducible assumption)) | (with_reducible exact Nat.le_refl _) | (with_reducible refine Below.size' ?_) | omega)); have HB3 := Lib.hid hb3'; clear hbx hb3'))
      | (refine wpList_load_as laySt rfl (.tmp 6) rfl w.heap.size 0 rfl ⟨term, stamp, next, ⟨a1, n1, c1⟩, ⟨a2, n2, c2⟩, ⟨a3, n3, c3⟩, ⟨a4, n4, c4⟩⟩ (.agg #[.int .i64 term, .int .i64 stamp, .int .i64 next, .slice a1 n1 c1, .slice a2 n2 c2, .slice a3 n3 c3, .slice a4 n4 c4]) rfl (HBX.out _ (by repeat' (first | (with_reducible exact Below.refl _ _) | (with_reducible assumption) | (with_reducible refine Below.drew ?_) | (with_reducible refine Below.more ?_ _) | (with_reducible refine Below.put ?_ ?_ _) | (with_reducible refine Below.next ?_ (by with_reducible assumption)) | (with_reducible exact Nat.le_refl _) | (with_reducible refine Below.size' ?_) | omega))).1.range ?_))
  have HSTD : Hid (StAt w11 w5.heap.size ⟨t4, s4, n4, ⟨x1, m1, y1⟩, ⟨d2, e2, f2⟩, ⟨x3, m3, y3⟩, ⟨x4, m4, y4⟩⟩ (woS s le)) := by
    have m9 : Mid w5.heap.size w6.heap.size w6 w9 := (Mid.below (hb7.trans (hb8.mono (by omega))) (Nat.le_refl _)).wrote HW9.out (.inr (Nat.le_refl _))
    have i9 := HST6.out.is.mid m9 (Nat.le_refl _) (Nat.le_refl _)
    have hne : ∀ b o q, d2 = some ⟨b, o, q⟩ → b ≠ w6.heap.size := fun b o q e => by
      have := Q7.out
      rcases HNR8.out b o q e with h1 | ⟨_, _, h1⟩
      · have h2 : w7.heap.size ≤ b := h1
        omega
      · cases h1
    have h8 := HSL8.out
    have l9 : SliAt layLea w9 w5.heap.size ⟨d2, e2, f2⟩ (woS s le).leas := ⟨h8.len, h8.le, h8.nil, h8.near, h8.row.keep (g := w6.heap.size) (fun j _ hj => HW9.out.keep j hj) hne⟩
    have g9 : StAt w9 w5.heap.size ⟨t4, s4, n4, ⟨x1, m1, y1⟩, ⟨d2, e2, f2⟩, ⟨x3, m3, y3⟩, ⟨x4, m4, y4⟩⟩ (woS s le) := ⟨i9.term, i9.stamp, i9.next, i9.ten, l9, i9.ses, i9.dsk⟩
    exact (g9.below hb10).below hb11
  have hwl : (woS s le).leas.length ≤ s.leas.length := List.length_filter_le _ _
  have hwf : Fits (woS s le).leas := HFIT.out.sub (fun x hx => (List.mem_filter.1 hx).1)
  have HWL := Lib.hid hwl
  have HWF := Lib.hid hwf
  clear hwl hwf r4
  go_wp2_with (first
      | (have hgq := HB16; clear hgq; refine wpList_store_whole laySt rfl (.tmp 12) (.tmp 133) rfl (w.heap.size + 1) ⟨t5, s5, n5, ⟨u1, v1, z1⟩, ⟨u2, v2, z2⟩, ⟨u3, v3, z3⟩, ⟨u4, v4, z4⟩⟩ _ rfl rfl HZ16.out rfl ?_; intro w17 hbx17 hw17; have HX17 := Lib.hid hbx17; have HW17 := Lib.hid hw17; clear hbx17 hw17)
      | (have hgq := HX11; clear hgq; go_at_call 39; have hsw := HSW.out (woS s le) ⟨t4, s4, n4, ⟨x1, m1, y1⟩, ⟨d2, e2, f2⟩, ⟨x3, m3, y3⟩, ⟨x4, m4, y4⟩⟩ w5.heap.size w11 HSTD.out (by omega) HWF.out HL.out.1 (Nat.le_trans HWL.out HL.out.2.1); ((with_reducible refine hsw.mono ?_); clear hsw; rintro e w16 ⟨⟨t5, s5, n5, ⟨u1, v1, z1⟩, ⟨u2, v2, z2⟩, ⟨u3, v3, z3⟩, ⟨u4, v4, z4⟩⟩, rfl, hst16, hb16⟩; have HST16 := Lib.hid hst16; have HB16 := Lib.hid (below_up HB11.out hb16); have HS16 := Lib.hid (HS11.out.next (show 0 < 7 by decide) hb16); have HZ16 := Lib.hid (HZ11.out.next (show 0 < 7 by decide) hb16); have q16 := hb16.size; clear hst16))
      | (have hgq := HX11; clear hgq; refine wpList_load_as laySt rfl (.tmp 16) rfl w6.heap.size 0 rfl ⟨t4, s4, n4, ⟨x1, m1, y1⟩, ⟨d2, e2, f2⟩, ⟨x3, m3, y3⟩, ⟨x4, m4, y4⟩⟩ (.agg #[.int .i64 t4, .int .i64 s4, .int .i64 n4, .slice x1 m1 y1, .slice d2 e2 f2, .slice x3 m3 y3, .slice x4 m4 y4]) rfl HX11.out.range ?_))
  have b17 : Below w.heap.size w w17 := HB16.out.trans (HW17.out.below _ (by omega))
  exact ⟨rfl, refreport_out (r9 := ⟨t5, s5, n5, ⟨u1, v1, z1⟩, ⟨u2, v2, z2⟩, ⟨u3, v3, z3⟩, ⟨u4, v4, z4⟩⟩) (e := 0) rfl rfl HX17.out ((HST16.out.mid ((Mid.refl w5.heap.size w16.heap.size w16).wrote HW17.out (.inl (by omega))) (Nat.le_refl _) (Nat.le_refl _)).mono (Nat.zero_le _)) rfl b17⟩
end Go.Proofs.Ytoofmofaimdhpaa
