import Derived.Test.YtoofmofaimdhpaaLedReport
import Derived.Test.YtoofmofaimdhpaaPackLedgerReports1
import Derived.Test.YtoofmofaimdhpaaPackLedgerGrants1
import Derived.Test.YtoofmofaimdhpaaRefRepNo
import Derived.Deep.Cut
import Derived.Deep.RegionHeld3
set_option linter.unusedVariables false
set_option linter.unusedSimpArgs false
/- weirref18.Report: a spending put. -/
namespace Go.Proofs.Ytoofmofaimdhpaa
open Go.ChangeShapes Go.WideShapes Go.ChangeAt Go.RowKit
set_option maxRecDepth 100000

set_option maxHeartbeats 16000000 in
theorem refreport_spend (s : St) (r : Raw) (B : Nat) (sh ep le sp : Int) (cl : Bool) (w : World) (h : StAt w B r s) (hl1' : s.tens.length ≤ 800) (hl2 : s.leas.length ≤ 900) (hl3 : s.sess.length ≤ 900) (hl4 : s.dsks.length ≤ 900)
    (hok : stOk s = true) (i0 i1 i4 i5 i6 : Int) (hfs : findSt s le = (⟨i0, i1, sh, ep, i4, i5, i6⟩, true)) (hcl : cl = false) (g1 : i6 ≤ sp) (g2 : sp < i5) (hfit2 : Fits (spendL le sp s.leas)) (hpos : 0 < s.leas.length) :
    Calls Try.prog 23 #[r.agg, .int .i64 sh, .int .i64 ep, .int .i64 le, .int .i64 sp, .bool cl] w (RetSE w (sweptS { s with leas := spendL le sp s.leas }, 0)) := by
  have hl1 : s.tens.length ≤ 900 := by omega
  have HS := Lib.hid h
  have HL := Lib.hid (And.intro hl1 (And.intro hl2 (And.intro hl3 hl4)))
  have HCK := Lib.hid (fun w' (hb : Below w.heap.size w w') => refcheck_st s r B w' (h.below hb) hl1 hl2)
  have HOK := Lib.hid hok
  have HRF := Lib.hid (fun w' (hb : Below w.heap.size w w') => reffind_st s r B le w' (h.below hb) hl1 hl2)
  have HFS := Lib.hid hfs
  have HCP := Lib.hid (fun w' (hb : Below w.heap.size w w') => refcopy_st s r B w' (h.below hb) hl1 hl2 hl3 hl4)
  have HFIT := Lib.hid (leasOk_fits (stOk_parts hok).1 (stOk_parts hok).2.1)
  have HSW := Lib.hid (fun (a : St) q B' w' (h' : StAt w' B' q a) (hB' : B' ≤ w'.heap.size) (hf : Fits a.leas) (h1 : a.tens.length ≤ 900) (h2 : a.leas.length ≤ 900) => refswept_st a q B' w' h' hf h1 h2 hB')
  have HPOS := Lib.hid hpos
  have HFIT2 := Lib.hid hfit2
  subst hcl
  obtain ⟨term, stamp, next, ⟨a1, n1, c1⟩, ⟨a2, n2, c2⟩, ⟨a3, n3, c3⟩, ⟨a4, n4, c4⟩⟩ := r
  have HBX : Hid (∀ w', Below ((w.alloc (.cells #[.int .i64 term, .int .i64 stamp, .int .i64 next, .slice a1 n1 c1, .slice a2 n2 c2, .slice a3 n3 c3, .slice a4 n4 c4] 27)).alloc (.cells #[.int .i64 0, .int .i64 0, .int .i64 0, .slice none 0 0, .slice none 0 0, .slice none 0 0, .slice none 0 0] 27)).heap.size ((w.alloc (.cells #[.int .i64 term, .int .i64 stamp, .int .i64 next, .slice a1 n1 c1, .slice a2 n2 c2, .slice a3 n3 c3, .slice a4 n4 c4] 27)).alloc (.cells #[.int .i64 0, .int .i64 0, .int .i64 0, .slice none 0 0, .slice none 0 0, .slice none 0 0, .slice none 0 0] 27)) w' → Box w' w.heap.size (Raw.cells ⟨term, stamp, next, ⟨a1, n1, c1⟩, ⟨a2, n2, c2⟩, ⟨a3, n3, c3⟩, ⟨a4, n4, c4⟩⟩) ∧ Box w' (w.heap.size + 1) (Raw.cells ⟨0, 0, 0, ⟨none, 0, 0⟩, ⟨none, 0, 0⟩, ⟨none, 0, 0⟩, ⟨none, 0, 0⟩⟩) ∧ w.heap.size + 2 ≤ w'.heap.size) :=
    fun w' hb => ⟨Box.of_alloc (mid_alloc' hb), Box.of_alloc1 hb, by have := hb.size; simp at this; omega⟩
  clear h hl1 hl2 hl3 hl4 hok hfs hfit2 hpos
  go_enter Try.func23, Try.ntmps23
  go_wp2_with (first
      | (have hgq := HB6; clear hgq; refine wpList_store_box laySt rfl (.tmp 16) (.tmp 61) rfl ⟨t4, s4, n4, ⟨x1, m1, y1⟩, ⟨some ⟨gl, 0, none⟩, s.leas.length, y2⟩, ⟨x3, m3, y3⟩, ⟨x4, m4, y4⟩⟩ rfl rfl rfl ?_; intro w7 hw7 ht7 hb7 hs7; have HX7 : Hid (Box w7 w6.heap.size (Raw.cells ⟨t4, s4, n4, ⟨x1, m1, y1⟩, ⟨some ⟨gl, 0, none⟩, s.leas.length, y2⟩, ⟨x3, m3, y3⟩, ⟨x4, m4, y4⟩⟩)) := ⟨hw7, ht7⟩; have HB7 := Lib.hid (below_up HB6.out hb7); have HS7 := Lib.hid (HS6.out.next (show 0 < 7 by decide) hb7); have HZ7 := Lib.hid (HZ6.out.next (show 0 < 7 by decide) hb7); have HC7 := Lib.hid (HC6.out.next (show 0 < 7 by decide) hb7); have q7 := hb7.size; have Q7 : Hid (w7.heap.size = w6.heap.size + 1) := hs7; have q7g := Nat.le_of_eq hs7.symm; have p5b := HC7.out.cell (j := 5) rfl; clear hw7 ht7 hs7)
      | (go_at_call 37; ((with_reducible refine (HCP.out w5 HB5.out).mono ?_); rintro e w6 ⟨⟨t4, s4, n4, ⟨x1, m1, y1⟩, ⟨x2, m2, y2⟩, ⟨x3, m3, y3⟩, ⟨x4, m4, y4⟩⟩, rfl, hst6, hb6⟩; have hown := hst6.lea.own HPOS.out; obtain ⟨gl, hx2, hgl, hcm⟩ := own_head hown (by intro h1; have := congrArg List.length h1; rw [layLea.length, List.length_nil, Nat.mul_eq_zero] at this; have := layLea.pos; have := HPOS.out; omega); simp only at hx2; subst hx2; have hm2 : s.leas.length = m2 := hst6.is.lea.len; subst hm2; have hgl6 : gl < w6.heap.size := hst6.lt gl 0 none rfl; have HM6 := Lib.hid (Mine.of_own (L := layLea) hown); clear hown; have HST6 := Lib.hid hst6; have HB6 := Lib.hid (below_up HB5.out hb6); have HS6 := Lib.hid (HS5.out.next (show 0 < 7 by decide) hb6); have HZ6 := Lib.hid (HZ5.out.next (show 0 < 7 by decide) hb6); have HC6 := Lib.hid (HC5.out.next (show 0 < 7 by decide) hb6); have q6 := hb6.size; clear hst6 p2 p3 p5 p6))
      | (have hgq := HS5; clear hgq; refine wpList_load_as laySt rfl (.tmp 6) rfl w.heap.size 0 rfl ⟨term, stamp, next, ⟨a1, n1, c1⟩, ⟨a2, n2, c2⟩, ⟨a3, n3, c3⟩, ⟨a4, n4, c4⟩⟩ (.agg #[.int .i64 term, .int .i64 stamp, .int .i64 next, .slice a1 n1 c1, .slice a2 n2 c2, .slice a3 n3 c3, .slice a4 n4 c4]) rfl HS5.out.range ?_)
      | (have hgq := HB4; clear hgq; refine wpList_store_box layLea rfl (.tmp 14) (.tmp 28) rfl ⟨i0, i1, sh, ep, i4, i5, i6⟩ rfl rfl rfl ?_; intro w5 hw5 ht5 hb5 hs5; have HC5 : Hid (Box w5 w4.heap.size (Lease.cells ⟨i0, i1, sh, ep, i4, i5, i6⟩)) := ⟨hw5, ht5⟩; have HB5 := Lib.hid (below_up HB4.out hb5); have HS5 := Lib.hid (HS4.out.next (show 0 < 7 by decide) hb5); have HZ5 := Lib.hid (HZ4.out.next (show 0 < 7 by decide) hb5); have q5 := hb5.size; have q5' : w5.heap.size = w4.heap.size + 1 := hs5; have p2 := HC5.out.cell (j := 2) rfl; have p3 := HC5.out.cell (j := 3) rfl; have p5 := HC5.out.cell (j := 5) rfl; have p6 := HC5.out.cell (j := 6) rfl; have Q5 := Lib.hid q5'; have q5g := Nat.le_of_eq hs5.symm; clear hw5 ht5 hs5 q5')
      | (go_at_call 15; ((with_reducible refine (HRF.out w3 HB3.out).mono ?_); rw [HFS.out]; rintro e w4 ⟨rfl, hb4⟩; have HB4 := Lib.hid (below_up HB3.out hb4); have q4 := hb4.size; have HS4 := Lib.hid (HS3.out.next (show 0 < 7 by decide) hb4); have HZ4 := Lib.hid (HZ3.out.next (show 0 < 7 by decide) hb4)))
      | (have hgq := HS3; clear hgq; refine wpList_load_as laySt rfl (.tmp 6) rfl w.heap.size 0 rfl ⟨term, stamp, next, ⟨a1, n1, c1⟩, ⟨a2, n2, c2⟩, ⟨a3, n3, c3⟩, ⟨a4, n4, c4⟩⟩ (.agg #[.int .i64 term, .int .i64 stamp, .int .i64 next, .slice a1 n1 c1, .slice a2 n2 c2, .slice a3 n3 c3, .slice a4 n4 c4]) rfl HS3.out.range ?_)
      | (go_at_call 16; ((with_reducible refine (HCK.out _ (by repeat' (first | (with_reducible exact Below.refl _ _) | (with_reducible assumption) | (with_reducible refine Below.drew ?_) | (with_reducible refine Below.more ?_ _) | (with_reducible refine Below.put ?_ ?_ _) | (with_reducible refine Below.next ?_ (by with_reducible assumption)) | (with_reducible exact Nat.le_refl _) | (with_reducible refine Below.size' ?_) | omega))).mono ?_); rw [HOK.out]; rintro e w3 ⟨rfl, hb3⟩; have hbx := HBX.out w3 (by repeat' (first | (with_reducible exact Below.refl _ _) | (with_reducible assumption) | (with_reducible refine Below.drew ?_) | (with_reducible refine Below.more ?_ _) | (with_reducible refine Below.put ?_ ?_ _) | (with_reducible refine Below.next ?_ (by with_reducible assumption)) | (with_reducible exact Nat.le_refl _) | (with_reducible refine Below.size' ?_) | omega)); have HS3 := Lib.hid hbx.1; have HZ3 := Lib.hid hbx.2.1; have q3 := hbx.2.2; have hb3' : Below w.heap.size w w3 := (by repeat' (first | (with_reducible exact Below.refl _ _) | (with_reducible assumption) | (with_reducible refine Below.drew ?_) | (with_reducible refine Below.more ?_ _) | (with_reducible refine Below.put ?_ ?_ _) | (with_reducible refine Below.next ?_ (by with_reducible assumption)) | (with_reducible exact Nat.le_refl _) | (with_reducible refine Below.size' ?_) | omega)); have HB3 := Lib.hid hb3'; clear hbx hb3'))
      | (refine wpList_load_as laySt rfl (.tmp 6) rfl w.heap.size 0 rfl ⟨term, stamp, next, ⟨a1, n1, c1⟩, ⟨a2, n2, c2⟩, ⟨a3, n3, c3⟩, ⟨a4, n4, c4⟩⟩ (.agg #[.int .i64 term, .int .i64 stamp, .int .i64 next, .slice a1 n1 c1, .slice a2 n2 c2, .slice a3 n3 c3, .slice a4 n4 c4]) rfl (HBX.out _ (by repeat' (first | (with_reducible exact Below.refl _ _) | (with_reducible assumption) | (with_reducible refine Below.drew ?_) | (with_reducible refine Below.more ?_ _) | (with_reducible refine Below.put ?_ ?_ _) | (with_reducible refine Below.next ?_ (by with_reducible assumption)) | (with_reducible exact Nat.le_refl _) | (with_reducible refine Below.size' ?_) | omega))).1.range ?_))
  have HM7 := Lib.hid (HM6.out.block (hb7.block gl (by omega)))
  have hx6 := hb6.size
  go_loopw [17] (fun i wr => ∃ k : Nat, k ≤ s.leas.length ∧ i = .int .i64 k ∧ Hid (Mine layLea wr w5.heap.size gl 0 (spTo le sp s.leas k)) ∧ Hid (Only gl w7 wr)) (fun i _ => s.leas.length - (intOf i).toNat)
  case atStart => exact ⟨0, by omega, rfl, by rw [spTo_zero]; exact HM7.out, Only.refl _ _⟩
  case round =>
    obtain ⟨k, hk, rfl, hmr, hor⟩ := hrel
    have HLL := Lib.hid HL.out.2.1
    have qr := hor.out.size
    have hXr : Box wr w6.heap.size (Raw.cells ⟨t4, s4, n4, ⟨x1, m1, y1⟩, ⟨some ⟨gl, 0, none⟩, s.leas.length, y2⟩, ⟨x3, m3, y3⟩, ⟨x4, m4, y4⟩⟩) := HX7.out.block (hor.out.block _ (by have := Q7.out; omega) (by omega))
    have HXR := Lib.hid hXr
    have k4 := HXR.out.cell (j := 4) rfl
    have hll : s.leas.length ≤ 900 := HLL.out
    by_cases hlt : k < s.leas.length
    · have hsl := spTo_length le sp s.leas k
      have hkl : k < (spTo le sp s.leas k).length := by rw [hsl]; exact hlt
      have hget := spTo_get le sp s.leas hlt hkl
      have hhit := spTo_hit le sp s.leas hlt
      have hmis := spTo_miss le sp s.leas hlt
      obtain ⟨b', o', hb', hcs⟩ := LRow.range hmr.out.row hkl
      simp only [Option.some.injEq, Addr.mk.injEq, and_true] at hb'
      obtain ⟨rfl, rfl⟩ := hb'
      have hc0 := (cellsLea (hcs wr (Below.refl _ _))).1
      rw [hget] at hc0 hcs
      generalize hxe : s.leas[k] = x at hget hhit hmis hc0 hcs
      obtain ⟨v0, v1, v2, v3, v4, v5, v6⟩ := x
      simp only at hc0 hhit hmis
      have hc1 : wr.cell? ⟨gl, k * 7, none⟩ = some (.int .i64 v0) := by
        have e : 0 + k * layLea.size = k * 7 := by rw [Nat.zero_add]; rfl
        rw [e] at hc0; exact hc0
      have HKL := Lib.hid hkl
      have HXK := Lib.hid hget
      have HHIT := Lib.hid hhit
      have HMIS := Lib.hid hmis
      clear hsl hget hhit hmis hcs hc0 hxe
      by_cases he : v0 = le
      · have HN := Lib.hid (HHIT.out he)
        go_wp2_with (refine wpList_store_cellM (L := layLea) rfl (.tmp 90) (.tmp 88) rfl size1_slice.2.2 hmr.out k HKL.out 6 (show 6 < 7 by decide) (.int .i64 sp) ⟨v0, v1, v2, v3, v4, v5, sp⟩ (by rw [HXK.out]; rfl) rfl rfl rfl rfl ?_; intro w8 hm8 hw8; have HM8 := Lib.hid hm8; have HW8 := Lib.hid hw8; clear hm8 hw8)
        exact ⟨⟨k + 1, by omega, by go_num, by rw [HN.out]; exact HM8.out, hor.out.wrote HW8.out⟩, by simp [intOf]; omega⟩
      · have HN := Lib.hid (HMIS.out he)
        go_wp2_with fail
        go_roundw
        case rel => exact ⟨k + 1, by omega, by go_num, by rw [HN.out]; exact hmr.out, hor.out⟩
        case measure => simp [intOf]; omega
    · obtain rfl : k = s.leas.length := by omega
      have hrow := hmr.out.row
      rw [spTo_full] at hrow
      have hlen : (spendL le sp s.leas).length = s.leas.length := spendL_length _ _ _
      have hstr := drop_st (g6 := gl) HST6.out hrow (by rw [hlen]; exact Nat.le_refl _) ((Only.of hb7).trans hor.out) (.inl ⟨0, none, rfl⟩) (Mid.refl w5.heap.size wr.heap.size wr)
      rw [hlen] at hstr
      have HSTR := Lib.hid hstr
      have HLEN : Hid ((spendL le sp s.leas).length ≤ 900) := by show _ ≤ _; rw [hlen]; exact HLL.out
      have HSr := Lib.hid (HS7.out.block (hor.out.block _ (HS7.out.lt (by simp)) (by omega)))
      have HZr := Lib.hid (HZ7.out.block (hor.out.block _ (HZ7.out.lt (by simp)) (by omega)))
      have HBr := Lib.hid (HB7.out.trans (hor.out.below (by omega) (by omega)))
      clear hrow hlen hstr
      go_wp2_with (first
        | (have hgq := HB9; clear hgq; refine wpList_store_whole laySt rfl (.tmp 12) (.tmp 92) rfl (w.heap.size + 1) ⟨t5, s5, n5, ⟨u1, v1, z1⟩, ⟨u2, v2, z2⟩, ⟨u3, v3, z3⟩, ⟨u4, v4, z4⟩⟩ _ rfl rfl HZ9.out rfl ?_; intro w10 hbx10 hw10; have HX10 := Lib.hid hbx10; have HW10 := Lib.hid hw10; clear hbx10 hw10)
        | (go_at_call 39; have hsw := HSW.out { s with leas := spendL le sp s.leas } ⟨t4, s4, n4, ⟨x1, m1, y1⟩, ⟨some ⟨gl, 0, none⟩, s.leas.length, y2⟩, ⟨x3, m3, y3⟩, ⟨x4, m4, y4⟩⟩ w5.heap.size wr HSTR.out (by omega) HFIT2.out HL.out.1 HLEN.out; ((with_reducible refine hsw.mono ?_); clear hsw; rintro e w9 ⟨⟨t5, s5, n5, ⟨u1, v1, z1⟩, ⟨u2, v2, z2⟩, ⟨u3, v3, z3⟩, ⟨u4, v4, z4⟩⟩, rfl, hst9, hb9⟩; have HST9 := Lib.hid hst9; have HB9 := Lib.hid (below_up HBr.out hb9); have HZ9 := Lib.hid (HZr.out.next (show 0 < 7 by decide) hb9); have q9 := hb9.size; clear hst9))
        | (refine wpList_load_as laySt rfl (.tmp 16) rfl w6.heap.size 0 rfl ⟨t4, s4, n4, ⟨x1, m1, y1⟩, ⟨some ⟨gl, 0, none⟩, s.leas.length, y2⟩, ⟨x3, m3, y3⟩, ⟨x4, m4, y4⟩⟩ (.agg #[.int .i64 t4, .int .i64 s4, .int .i64 n4, .slice x1 m1 y1, .slice (some ⟨gl, 0, none⟩) s.leas.length y2, .slice x3 m3 y3, .slice x4 m4 y4]) rfl HXR.out.range ?_))
      have b10 : Below w.heap.size w w10 := HB9.out.trans (HW10.out.below _ (by omega))
      exact ⟨rfl, refreport_out (r9 := ⟨t5, s5, n5, ⟨u1, v1, z1⟩, ⟨u2, v2, z2⟩, ⟨u3, v3, z3⟩, ⟨u4, v4, z4⟩⟩) (e := 0) rfl rfl HX10.out ((HST9.out.mid ((Mid.refl w5.heap.size w9.heap.size w9).wrote HW10.out (.inl (by omega))) (Nat.le_refl _) (Nat.le_refl _)).mono (Nat.zero_le _)) rfl b10⟩
end Go.Proofs.Ytoofmofaimdhpaa
