import Derived.Test.YtoofmofaimdhpaaLedGrantOk
import Derived.Test.YtoofmofaimdhpaaPackLedgerGrants1
import Derived.Test.YtoofmofaimdhpaaRefGrantNo
import Derived.Deep.Cut
import Derived.Deep.RegionHeld3
set_option linter.unusedVariables false
set_option linter.unusedSimpArgs false
namespace Go.Proofs.Ytoofmofaimdhpaa
open Go.ChangeShapes Go.WideShapes Go.ChangeAt Go.RowKit
set_option maxRecDepth 100000

set_option maxHeartbeats 40000000 in
theorem refgrant_good (s : St) (r : Raw) (B : Nat) (sh ep nu te sz : Int) (w : World) (h : StAt w B r s) (hl1' : s.tens.length ≤ 800) (hl2 : s.leas.length ≤ 900) (hl3 : s.sess.length ≤ 900) (hl4 : s.dsks.length ≤ 900)
    (hok : stOk s = true) (fid frate fburst fbucket : Int) (hfd : findT s.tens te = (⟨fid, frate, fburst, fbucket, false⟩, true)) (g1 : 1 ≤ sh) (g2 : sh ≤ 8) (g3 : 1 ≤ ep) (g4 : 1 ≤ nu) (g5 : 1 ≤ sz) (g6 : sz ≤ 1000000) (g7 : s.leas.length < 64) (g8 : s.next < 1099511627776) (htk : takeI fbucket sz = (fbucket - 1000 * sz, 0)) (hns : 1 ≤ s.next) (hne : s.tens ≠ []) (hfit2 : Fits (s.leas ++ [⟨s.next, te, sh, ep, nu, sz, 0⟩])) :
    Calls Try.prog 12 #[r.agg, .int .i64 sh, .int .i64 ep, .int .i64 nu, .int .i64 te, .int .i64 sz] w (RetSA w (sweptS (grownS s ⟨fid, frate, fburst, fbucket - 1000 * sz, false⟩ ⟨s.next, te, sh, ep, nu, sz, 0⟩), ⟨0, frate, fburst, s.next, sz⟩)) := by
  have hl1 : s.tens.length ≤ 900 := by omega
  have HS := Lib.hid h
  have HL := Lib.hid (And.intro hl1 (And.intro hl2 (And.intro hl3 hl4)))
  have HCK := Lib.hid (fun w' (hb : Below w.heap.size w w') => refcheck_st s r B w' (h.below hb) hl1 hl2)
  have HOK := Lib.hid hok
  have HPF := Lib.hid (fun w' (hb : Below w.heap.size w w') => reffind_any s.tens r.ten.a r.ten.n r.ten.c te w' h.ten.len (le_maxLen (by omega)) (Row.below h.trow hb))
  have HFD := Lib.hid hfd
  have HTA := Lib.hid htk
  have HFIT2 := Lib.hid hfit2
  have HNE := Lib.hid hne
  have HCP := Lib.hid (fun w' (hb : Below w.heap.size w w') => refcopy_st s r B w' (h.below hb) hl1 hl2 hl3 hl4)
  obtain ⟨g9, g10⟩ := findT_ten (stOk_ten hok).1 hfd
  simp only at g9 g10
  obtain ⟨ss, HSS⟩ : ∃ ss, Hid (setS s.tens ⟨fid, frate, fburst, fbucket - 1000 * sz, false⟩ = ss) := ⟨_, rfl⟩
  have HSL2 := Lib.hid (show ss.1.length ≤ s.tens.length + 1 by rw [← HSS.out]; exact setS_len _ _)
  have hfwf : (Lit.int .i64 (s.next + 1)).wf = true := Go.WalkArith.wf_i64 ⟨by omega, by omega⟩
  obtain ⟨term, stamp, next, ⟨a1, n1, c1⟩, ⟨a2, n2, c2⟩, ⟨a3, n3, c3⟩, ⟨a4, n4, c4⟩⟩ := r
  obtain rfl : next = s.next := h.next
  obtain rfl : s.leas.length = n2 := h.lea.len
  have HBX : Hid (∀ w', Below (((w.alloc (.cells #[.int .i64 term, .int .i64 stamp, .int .i64 s.next, .slice a1 n1 c1, .slice a2 s.leas.length c2, .slice a3 n3 c3, .slice a4 n4 c4] 27)).alloc (.cells #[.int .i64 0, .int .i64 0, .int .i64 0, .slice none 0 0, .slice none 0 0, .slice none 0 0, .slice none 0 0] 27)).alloc (.cells #[.int .i64 0, .int .i64 0, .int .i64 0, .int .i64 0, .int .i64 0] 32)).heap.size (((w.alloc (.cells #[.int .i64 term, .int .i64 stamp, .int .i64 s.next, .slice a1 n1 c1, .slice a2 s.leas.length c2, .slice a3 n3 c3, .slice a4 n4 c4] 27)).alloc (.cells #[.int .i64 0, .int .i64 0, .int .i64 0, .slice none 0 0, .slice none 0 0, .slice none 0 0, .slice none 0 0] 27)).alloc (.cells #[.int .i64 0, .int .i64 0, .int .i64 0, .int .i64 0, .int .i64 0] 32)) w' →
      Box w' w.heap.size (Raw.cells ⟨term, stamp, s.next, ⟨a1, n1, c1⟩, ⟨a2, s.leas.length, c2⟩, ⟨a3, n3, c3⟩, ⟨a4, n4, c4⟩⟩) ∧ Box w' (w.heap.size + 1) (Raw.cells ⟨0, 0, 0, ⟨none, 0, 0⟩, ⟨none, 0, 0⟩, ⟨none, 0, 0⟩, ⟨none, 0, 0⟩⟩) ∧ Box w' (w.heap.size + 1 + 1) (Ans.cells ⟨0, 0, 0, 0, 0⟩) ∧ w.heap.size + 3 ≤ w'.heap.size) :=
    fun w' hb => ⟨Box.of_alloc (mid_alloc' (mid_alloc' hb)), Box.of_alloc1 (mid_alloc' hb), Box.of_alloc2 hb, by have := hb.size; simp at this; omega⟩
  clear h hl1 hl2 hl3 hl4 hok hfd htk hfit2 hne
  go_enter Try.func12, Try.ntmps12
  go_upto_region 16 with (first
      | (have hgq := HX12; clear hgq; refine wpList_store_field rfl (.tmp 122) (.tmp 121) rfl size1_slice.2.2 w7.heap.size 2 _ (.int .i64 (s.next + 1)) rfl rfl rfl rfl HX12.out (show 2 < 7 by decide) ?_; intro w13 hbx13 hw13; have HX13 : Hid (Box w13 w7.heap.size (Raw.cells ⟨t4, s4, s.next + 1, ⟨xa, ss.1.length, ya⟩, ⟨xb, m2 + 1, yb⟩, ⟨x3, m3, y3⟩, ⟨x4, m4, y4⟩⟩)) := hbx13; have HW13 := Lib.hid hw13; have HS13 := Lib.hid (HS12.out.wrote hw13 (by omega)); have HR13 := Lib.hid (HR12.out.wrote hw13 (by omega)); have HA13 := Lib.hid (HA12.out.wrote hw13 (by omega)); have HT13 := Lib.hid (HT12.out.wrote hw13 (by omega)); have q13 := Nat.le_of_eq hw13.size; have q13' := Nat.le_of_eq hw13.size.symm; clear hbx13 hw13 kx)
      | (have hgq := HX11; clear hgq; refine wpList_store_field rfl (.tmp 118) (.tmp 117) rfl size1_slice.1 w7.heap.size 4 _ (.slice xb (m2 + 1) yb) rfl rfl rfl rfl HX11.out (show 4 < 7 by decide) ?_; intro w12 hbx12 hw12; have HX12 : Hid (Box w12 w7.heap.size (Raw.cells ⟨t4, s4, s.next, ⟨xa, ss.1.length, ya⟩, ⟨xb, m2 + 1, yb⟩, ⟨x3, m3, y3⟩, ⟨x4, m4, y4⟩⟩)) := hbx12; have HW12 := Lib.hid hw12; have HS12 := Lib.hid (HS11.out.wrote hw12 (by omega)); have HR12 := Lib.hid (HR11.out.wrote hw12 (by omega)); have HA12 := Lib.hid (HA11.out.wrote hw12 (by omega)); have HT12 := Lib.hid (HT11.out.wrote hw12 (by omega)); have q12 := Nat.le_of_eq hw12.size; have q12' := Nat.le_of_eq hw12.size.symm; have kx := HX12.out.cell (j := 2) rfl; clear hbx12 hw12)
      | (have hgq := HX10; clear hgq; at_builtin; (have hcn : Can w10 w6b.heap.size 38 7 x2 m2 y2 (s.leas.flatMap layLea.cells) := (HST7.out.mid HM10.out (Nat.le_refl _) (Nat.le_refl _)).lea.can; have hm2 : s.leas.length = m2 := HST7.out.is.lea.len; refine wpList_can el_leas rfl (.tmp 107) (.tmp 116) rfl w6b.heap.size x2 m2 y2 (s.leas.flatMap layLea.cells) rfl (hcn.alloc _) (some ⟨w10.heap.size, 0, none⟩) 1 1 [.int .i64 s.next, .int .i64 te, .int .i64 sh, .int .i64 ep, .int .i64 nu, .int .i64 sz, .int .i64 0] rfl rfl (Row.new _ _ _ _) (layLea.one ⟨s.next, te, sh, ep, nu, sz, 0⟩) (by omega) (by simp; omega) ?_; clear hcn hm2); intro xb yb w11 hcan11 hg11 hb11 hown11; have K11 := Lib.hid (And.intro hg11 (hown11.1 (by decide))); have HX11 := Lib.hid (box_grown (HX10.out.block (heap_alloc_old _ _ (by omega))) hg11 (by simp; omega) (lea_apart HST7.out (Nat.le_refl _))); have HS11 := Lib.hid ((HS10.out.block (heap_alloc_old _ _ (by omega))).below hb11 (by omega)); have HR11 := Lib.hid ((HR10.out.block (heap_alloc_old _ _ (by omega))).below hb11 (by omega)); have HA11 := Lib.hid ((HA10.out.block (heap_alloc_old _ _ (by omega))).below hb11 (by omega)); have HT11 := Lib.hid ((HT10.out.block (heap_alloc_old _ _ (by omega))).below hb11 (by omega)); have HB11 := Lib.hid hb11; have q11 := hb11.size; have q11a : w10.heap.size ≤ w11.heap.size := Nat.le_trans (Nat.le_of_lt (Nat.lt_of_lt_of_eq (Nat.lt_succ_self _) (World.size_alloc _ _).symm)) hb11.size; clear hcan11 hg11 hown11 k2 k4)
      | (have hgq := HX9; clear hgq; refine wpList_store_field rfl (.tmp 105) (.tmp 103) rfl size1_slice.2.1 w7.heap.size 3 _ (.slice xa ss.1.length ya) rfl rfl rfl rfl HX9.out (show 3 < 7 by decide) ?_; intro w10 hbx10 hw10; have HX10 : Hid (Box w10 w7.heap.size (Raw.cells ⟨t4, s4, s.next, ⟨xa, ss.1.length, ya⟩, ⟨x2, m2, y2⟩, ⟨x3, m3, y3⟩, ⟨x4, m4, y4⟩⟩)) := hbx10; have HW10 := Lib.hid hw10; have HS10 := Lib.hid (HS9.out.wrote hw10 (by omega)); have HR10 := Lib.hid (HR9.out.wrote hw10 (by omega)); have HA10 := Lib.hid (HA9.out.wrote hw10 (by omega)); have HT10 := Lib.hid (HT9.out.wrote hw10 (by omega)); have HM10 := Lib.hid (HM9.out.wrote hw10 (.inr (Nat.le_refl _))); have q10 := Nat.le_of_eq hw10.size; have q10' := Nat.le_of_eq hw10.size.symm; have k2 := HS10.out.cell (j := 2) rfl; have k4 := HX10.out.cell (j := 4) rfl; clear hbx10 hw10)
      | (go_at_call 38; have hse := refset_any s.tens x1 m1 y1 ⟨fid, frate, fburst, fbucket - 1000 * sz, false⟩ w8b HST8b.out.is.ten.len HL.out.1 HST8b.out.is.ten.nil HST8b.out.is.ten.le HST8b.out.is.trow; (with_reducible refine hse.mono ?_); clear hse; rw [HSS.out]; rintro e w9 ⟨xa, ya, rfl, hle9, hnil9, hnear9, hrow9, hb9⟩; have K9 := Lib.hid (And.intro hle9 (And.intro hnil9 (And.intro (hnear9.mono (show w7.heap.size + 1 ≤ w8b.heap.size by omega)) hrow9))); clear hle9 hnil9 hnear9 hrow9; have HX9 := Lib.hid (HX8b.out.next (show 0 < 7 by decide) hb9); have HS9 := Lib.hid (HS8b.out.next (show 0 < 7 by decide) hb9); have HR9 := Lib.hid (HR8b.out.next (show 0 < 7 by decide) hb9); have HA9 := Lib.hid (HA8b.out.next (show 0 < 5 by decide) hb9); have HT9 := Lib.hid (HT8b.out.next (show 0 < 5 by decide) hb9); have HM9 := Lib.hid (HM8b.out.next hb9 (by omega)); have q9 := hb9.size; have HB9 := Lib.hid hb9; clear k3x)
      | (have hgq := HT8b; clear hgq; refine wpList_load_as layTen rfl (.tmp 14) rfl w5.heap.size 0 rfl ⟨fid, frate, fburst, fbucket - 1000 * sz, false⟩ (.agg #[.int .i64 fid, .int .i64 frate, .int .i64 fburst, .int .i64 (fbucket - 1000 * sz), .bool false]) rfl HT8b.out.range ?_)
      | (have hgq := HT8; clear hgq; refine wpList_store_field rfl (.tmp 97) (.tmp 96) rfl size1_slice.2.2 w5.heap.size 3 _ (.int .i64 (fbucket - 1000 * sz)) rfl rfl rfl rfl HT8.out (show 3 < 5 by decide) ?_; intro w8b hbx hw; have HT8b : Hid (Box w8b w5.heap.size (Tenant.cells ⟨fid, frate, fburst, fbucket - 1000 * sz, false⟩)) := hbx; have HW8b := Lib.hid hw; have HX8b := Lib.hid (HX8.out.wrote hw (by omega)); have HS8b := Lib.hid (HS8.out.wrote hw (by omega)); have HR8b := Lib.hid (HR8.out.wrote hw (by omega)); have HA8b := Lib.hid (HA8.out.wrote hw (by omega)); have q8b := Nat.le_of_eq hw.size; have q8b' := Nat.le_of_eq hw.size.symm; have HM8b : Hid (Mid w6b.heap.size w7.heap.size w7 w8b) := ((Mid.refl w6b.heap.size w7.heap.size w7).next HB8.out (Nat.le_refl _)).wrote hw (.inl (by omega)); have HST8b := Lib.hid (HST7.out.mid HM8b.out (Nat.le_refl _) (Nat.le_refl _)); have k3x := HX8b.out.cell (j := 3) rfl; clear hbx hw)
      | (have hgq := HB7; clear hgq; refine wpList_store_box laySt rfl (.tmp 18) (.tmp 95) rfl ⟨t4, s4, s.next, ⟨x1, m1, y1⟩, ⟨x2, m2, y2⟩, ⟨x3, m3, y3⟩, ⟨x4, m4, y4⟩⟩ rfl rfl rfl ?_; intro w8 hw8 ht8 hb8 hs8; have HX8 : Hid (Box w8 w7.heap.size (Raw.cells ⟨t4, s4, s.next, ⟨x1, m1, y1⟩, ⟨x2, m2, y2⟩, ⟨x3, m3, y3⟩, ⟨x4, m4, y4⟩⟩)) := ⟨hw8, ht8⟩; have HT8 := Lib.hid (HT7.out.next (show 0 < 5 by decide) hb8); have HS8 := Lib.hid ((HBX.out w8 (by repeat' (first | (with_reducible exact Below.refl _ _) | (with_reducible assumption) | (with_reducible refine Below.drew ?_) | (with_reducible refine Below.more ?_ _) | (with_reducible refine Below.put ?_ ?_ _) | (with_reducible refine Below.next ?_ (by with_reducible assumption)) | (with_reducible exact Nat.le_refl _) | (with_reducible refine Below.size' ?_) | omega))).1); have HR8 := Lib.hid ((HBX.out w8 (by repeat' (first | (with_reducible exact Below.refl _ _) | (with_reducible assumption) | (with_reducible refine Below.drew ?_) | (with_reducible refine Below.more ?_ _) | (with_reducible refine Below.put ?_ ?_ _) | (with_reducible refine Below.next ?_ (by with_reducible assumption)) | (with_reducible exact Nat.le_refl _) | (with_reducible refine Below.size' ?_) | omega))).2.1); have HA8 := Lib.hid ((HBX.out w8 (by repeat' (first | (with_reducible exact Below.refl _ _) | (with_reducible assumption) | (with_reducible refine Below.drew ?_) | (with_reducible refine Below.more ?_ _) | (with_reducible refine Below.put ?_ ?_ _) | (with_reducible refine Below.next ?_ (by with_reducible assumption)) | (with_reducible exact Nat.le_refl _) | (with_reducible refine Below.size' ?_) | omega))).2.2.1); have q8 := hb8.size; have q8' : w7.heap.size + 1 ≤ w8.heap.size := (by rw [hs8]; exact Nat.le_refl _); have HB8 := Lib.hid hb8; have hb08 : Below w.heap.size w w8 := (by repeat' (first | (with_reducible exact Below.refl _ _) | (with_reducible assumption) | (with_reducible refine Below.drew ?_) | (with_reducible refine Below.more ?_ _) | (with_reducible refine Below.put ?_ ?_ _) | (with_reducible refine Below.next ?_ (by with_reducible assumption)) | (with_reducible exact Nat.le_refl _) | (with_reducible refine Below.size' ?_) | omega)); have HB08 := Lib.hid hb08; clear hw8 ht8 hs8 hb08)
      | (go_at_call 37; ((with_reducible refine (HCP.out _ (by repeat' (first | (with_reducible exact Below.refl _ _) | (with_reducible assumption) | (with_reducible refine Below.drew ?_) | (with_reducible refine Below.more ?_ _) | (with_reducible refine Below.put ?_ ?_ _) | (with_reducible refine Below.next ?_ (by with_reducible assumption)) | (with_reducible exact Nat.le_refl _) | (with_reducible refine Below.size' ?_) | omega))).mono ?_); rintro e w7 ⟨⟨t4, s4, n4', ⟨x1, m1, y1⟩, ⟨x2, m2, y2⟩, ⟨x3, m3, y3⟩, ⟨x4, m4, y4⟩⟩, rfl, hst7, hb7⟩; obtain rfl : n4' = s.next := hst7.is.next; have HST7 := Lib.hid hst7; have HT7 := Lib.hid (HT6b.out.next (show 0 < 5 by decide) hb7); have q7 := hb7.size; have HB7 := Lib.hid hb7; clear hst7))
      | (go_at_call 36; ((with_reducible refine (reftake_any _ _ _ g9 g10).mono ?_); rw [HTA.out]; rintro e w6b ⟨rfl, hb6b⟩; have HT6b := Lib.hid (HT6.out.next (show 0 < 5 by decide) hb6b); have q6b := hb6b.size; clear p0 p1 p2 p3 p4))
      | (have hgq := HB5; clear hgq; refine wpList_store_box layTen rfl (.tmp 14) (.tmp 55) rfl ⟨fid, frate, fburst, fbucket, false⟩ rfl rfl rfl ?_; intro w6 hw6 ht6 hb6 hs6; obtain ⟨p0, p1, p2, p3, p4⟩ := cellsTen0 hw6; have HT6 : Hid (Box w6 w5.heap.size (Tenant.cells ⟨fid, frate, fburst, fbucket, false⟩)) := ⟨hw6, ht6⟩; clear k3; have k2 := (HBX.out w6 (by repeat' (first | (with_reducible exact Below.refl _ _) | (with_reducible assumption) | (with_reducible refine Below.drew ?_) | (with_reducible refine Below.more ?_ _) | (with_reducible refine Below.put ?_ ?_ _) | (with_reducible refine Below.next ?_ (by with_reducible assumption)) | (with_reducible exact Nat.le_refl _) | (with_reducible refine Below.size' ?_) | omega))).1.cell (j := 2) rfl; have k4 := (HBX.out w6 (by repeat' (first | (with_reducible exact Below.refl _ _) | (with_reducible assumption) | (with_reducible refine Below.drew ?_) | (with_reducible refine Below.more ?_ _) | (with_reducible refine Below.put ?_ ?_ _) | (with_reducible refine Below.next ?_ (by with_reducible assumption)) | (with_reducible exact Nat.le_refl _) | (with_reducible refine Below.size' ?_) | omega))).1.cell (j := 4) rfl; have q6 := hb6.size; have q6' : w5.heap.size + 1 ≤ w6.heap.size := (by rw [hs6]; exact Nat.le_refl _); clear hw6 ht6 hs6)
      | (go_at_call 26; ((with_reducible refine (HPF.out _ (by repeat' (first | (with_reducible exact Below.refl _ _) | (with_reducible assumption) | (with_reducible refine Below.drew ?_) | (with_reducible refine Below.more ?_ _) | (with_reducible refine Below.put ?_ ?_ _) | (with_reducible refine Below.next ?_ (by with_reducible assumption)) | (with_reducible exact Nat.le_refl _) | (with_reducible refine Below.size' ?_) | omega))).mono ?_); rw [HFD.out]; rintro e w5 ⟨rfl, hb5⟩; have HB5 := Lib.hid hb5; have q5 := hb5.size; have q53 := (HBX.out w5 (by repeat' (first | (with_reducible exact Below.refl _ _) | (with_reducible assumption) | (with_reducible refine Below.drew ?_) | (with_reducible refine Below.more ?_ _) | (with_reducible refine Below.put ?_ ?_ _) | (with_reducible refine Below.next ?_ (by with_reducible assumption)) | (with_reducible exact Nat.le_refl _) | (with_reducible refine Below.size' ?_) | omega))).2.2.2))
      | (go_at_call 16; ((with_reducible refine (HCK.out _ (by repeat' (first | (with_reducible exact Below.refl _ _) | (with_reducible assumption) | (with_reducible refine Below.drew ?_) | (with_reducible refine Below.more ?_ _) | (with_reducible refine Below.put ?_ ?_ _) | (with_reducible refine Below.next ?_ (by with_reducible assumption)) | (with_reducible exact Nat.le_refl _) | (with_reducible refine Below.size' ?_) | omega))).mono ?_); rw [HOK.out]; rintro e w3 ⟨rfl, hb3⟩; have k3 := (HBX.out w3 (by repeat' (first | (with_reducible exact Below.refl _ _) | (with_reducible assumption) | (with_reducible refine Below.drew ?_) | (with_reducible refine Below.more ?_ _) | (with_reducible refine Below.put ?_ ?_ _) | (with_reducible refine Below.next ?_ (by with_reducible assumption)) | (with_reducible exact Nat.le_refl _) | (with_reducible refine Below.size' ?_) | omega))).1.cell (j := 3) rfl))
      | (refine wpList_load_as laySt rfl (.tmp 6) rfl w.heap.size 0 rfl ⟨term, stamp, s.next, ⟨a1, n1, c1⟩, ⟨a2, s.leas.length, c2⟩, ⟨a3, n3, c3⟩, ⟨a4, n4, c4⟩⟩ (.agg #[.int .i64 term, .int .i64 stamp, .int .i64 s.next, .slice a1 n1 c1, .slice a2 s.leas.length c2, .slice a3 n3 c3, .slice a4 n4 c4]) rfl (HBX.out _ (by repeat' (first | (with_reducible exact Below.refl _ _) | (with_reducible assumption) | (with_reducible refine Below.drew ?_) | (with_reducible refine Below.more ?_ _) | (with_reducible refine Below.put ?_ ?_ _) | (with_reducible refine Below.next ?_ (by with_reducible assumption)) | (with_reducible exact Nat.le_refl _) | (with_reducible refine Below.size' ?_) | omega))).1.range ?_))
  have q3 := q53
  have S13 : StAt w13 w6b.heap.size ⟨t4, s4, s.next + 1, ⟨xa, ss.1.length, ya⟩, ⟨xb, m2 + 1, yb⟩, ⟨x3, m3, y3⟩, ⟨x4, m4, y4⟩⟩ (grownS s ⟨fid, frate, fburst, fbucket - 1000 * sz, false⟩ ⟨s.next, te, sh, ep, nu, sz, 0⟩) := by
    unfold grownS
    rw [HSS.out]
    exact grown_ref HST7.out q7 HNE.out rfl HM9.out K9.out.1 K9.out.2.1 K9.out.2.2.1 K9.out.2.2.2 HW10.out K11.out.1 K11.out.2 HX11.out HW12.out HW13.out
  have ht : (grownS s ⟨fid, frate, fburst, fbucket - 1000 * sz, false⟩ ⟨s.next, te, sh, ep, nu, sz, 0⟩).tens.length ≤ 900 := by
    show (setS s.tens _).1.length ≤ 900
    rw [HSS.out]; have := HSL2.out; omega
  have hll : (grownS s ⟨fid, frate, fburst, fbucket - 1000 * sz, false⟩ ⟨s.next, te, sh, ep, nu, sz, 0⟩).leas.length ≤ 900 := by
    show (s.leas ++ [_]).length ≤ 900
    rw [List.length_append, List.length_singleton]; omega
  have HSW : Hid (Calls Try.prog 39 #[(.agg #[.int .i64 t4, .int .i64 s4, .int .i64 (s.next + 1), .slice xa ss.1.length ya, .slice xb (m2 + 1) yb, .slice x3 m3 y3, .slice x4 m4 y4])] w13.drew (RetSt w13.drew w6b.heap.size (sweptS (grownS s ⟨fid, frate, fburst, fbucket - 1000 * sz, false⟩ ⟨s.next, te, sh, ep, nu, sz, 0⟩)))) := refswept_st (grownS s ⟨fid, frate, fburst, fbucket - 1000 * sz, false⟩ ⟨s.next, te, sh, ep, nu, sz, 0⟩) ⟨t4, s4, s.next + 1, ⟨xa, ss.1.length, ya⟩, ⟨xb, m2 + 1, yb⟩, ⟨x3, m3, y3⟩, ⟨x4, m4, y4⟩⟩ w6b.heap.size w13.drew (S13.below (Below.refl _ _).drew) HFIT2.out ht hll (by show _ ≤ w13.heap.size; omega)
  clear S13 ht hll
  have b10 : Below w.heap.size w w10 := (((HB08.out.trans (HW8b.out.below _ (by omega))).trans (HB9.out.mono (by omega))).trans (HW10.out.below _ (by omega)))
  have HB13 : Hid (Below w.heap.size w w13) := (((b10.alloc (by omega) _).trans (HB11.out.mono (by omega))).trans (HW12.out.below _ (by omega))).trans (HW13.out.below _ (by omega))
  clear b10
  have e1 : w7.heap.size ≠ w.heap.size + 1 := by omega
  have e2 : w7.heap.size ≠ w.heap.size + 1 + 1 := by omega
  have e3 : w5.heap.size ≠ w.heap.size + 1 := by omega
  have e4 : w5.heap.size ≠ w.heap.size + 1 + 1 := by omega
  have HKP : Hid (∀ w', Box w' w7.heap.size (Raw.cells ⟨t4, s4, s.next + 1, ⟨xa, ss.1.length, ya⟩, ⟨xb, m2 + 1, yb⟩, ⟨x3, m3, y3⟩, ⟨x4, m4, y4⟩⟩) → Box w' w.heap.size (Raw.cells ⟨term, stamp, s.next, ⟨a1, n1, c1⟩, ⟨a2, s.leas.length, c2⟩, ⟨a3, n3, c3⟩, ⟨a4, n4, c4⟩⟩) → Box w' w5.heap.size (Tenant.cells ⟨fid, frate, fburst, fbucket - 1000 * sz, false⟩) → (w'.cell? ⟨w7.heap.size, 0, none⟩ = some (.int .i64 t4) ∧ w'.cell? ⟨w7.heap.size, 1, none⟩ = some (.int .i64 s4) ∧ w'.cell? ⟨w7.heap.size, 2, none⟩ = some (.int .i64 (s.next + 1)) ∧ w'.cell? ⟨w7.heap.size, 3, none⟩ = some (.slice xa ss.1.length ya) ∧ w'.cell? ⟨w7.heap.size, 4, none⟩ = some (.slice xb (m2 + 1) yb) ∧ w'.cell? ⟨w7.heap.size, 5, none⟩ = some (.slice x3 m3 y3) ∧ w'.cell? ⟨w7.heap.size, 6, none⟩ = some (.slice x4 m4 y4) ∧ w'.cell? ⟨w.heap.size, 2, none⟩ = some (.int .i64 s.next) ∧ w'.cell? ⟨w5.heap.size, 1, none⟩ = some (.int .i64 frate) ∧ w'.cell? ⟨w5.heap.size, 2, none⟩ = some (.int .i64 fburst))) := fun w' b1 b2 b3 => ⟨b1.cell (j := 0) rfl, b1.cell (j := 1) rfl, b1.cell (j := 2) rfl, b1.cell (j := 3) rfl, b1.cell (j := 4) rfl, b1.cell (j := 5) rfl, b1.cell (j := 6) rfl, b2.cell (j := 2) rfl, b3.cell (j := 1) rfl, b3.cell (j := 2) rfl⟩
  have HKD : Hid (w13.drew.cell? ⟨w7.heap.size, 0, none⟩ = some (.int .i64 t4) ∧ w13.drew.cell? ⟨w7.heap.size, 1, none⟩ = some (.int .i64 s4) ∧ w13.drew.cell? ⟨w7.heap.size, 2, none⟩ = some (.int .i64 (s.next + 1)) ∧ w13.drew.cell? ⟨w7.heap.size, 3, none⟩ = some (.slice xa ss.1.length ya) ∧ w13.drew.cell? ⟨w7.heap.size, 4, none⟩ = some (.slice xb (m2 + 1) yb) ∧ w13.drew.cell? ⟨w7.heap.size, 5, none⟩ = some (.slice x3 m3 y3) ∧ w13.drew.cell? ⟨w7.heap.size, 6, none⟩ = some (.slice x4 m4 y4) ∧ w13.drew.cell? ⟨w.heap.size, 2, none⟩ = some (.int .i64 s.next) ∧ w13.drew.cell? ⟨w5.heap.size, 1, none⟩ = some (.int .i64 frate) ∧ w13.drew.cell? ⟨w5.heap.size, 2, none⟩ = some (.int .i64 fburst)) := HKP.out _ HX13.out.drew HS13.out.drew HT13.out.drew
  refine wp_region_held_drew (S := (fun w' => (w'.cell? ⟨w7.heap.size, 0, none⟩ = some (.int .i64 t4) ∧ w'.cell? ⟨w7.heap.size, 1, none⟩ = some (.int .i64 s4) ∧ w'.cell? ⟨w7.heap.size, 2, none⟩ = some (.int .i64 (s.next + 1)) ∧ w'.cell? ⟨w7.heap.size, 3, none⟩ = some (.slice xa ss.1.length ya) ∧ w'.cell? ⟨w7.heap.size, 4, none⟩ = some (.slice xb (m2 + 1) yb) ∧ w'.cell? ⟨w7.heap.size, 5, none⟩ = some (.slice x3 m3 y3) ∧ w'.cell? ⟨w7.heap.size, 6, none⟩ = some (.slice x4 m4 y4) ∧ w'.cell? ⟨w.heap.size, 2, none⟩ = some (.int .i64 s.next) ∧ w'.cell? ⟨w5.heap.size, 1, none⟩ = some (.int .i64 frate) ∧ w'.cell? ⟨w5.heap.size, 2, none⟩ = some (.int .i64 fburst)))) (by kernel_rfl) HKD.out (fun hHeld => ?_)
  refine wpAnyH_take (i := 0) (oi := _) (v := ?v0_1) rfl (by kernel_rfl) (by kernel_rfl) (by kernel_rfl) (fun _ _ _ h => h) (Or.inl ⟨by rfl, ?hy0_1⟩) (by assumption) ?rest0_1
  case hy0_1 =>
    intro w hSw
    (try dsimp only at hSw)
    go_simp
    rfl
  case' rest0_1 => try simp only [Act.put, List.setIfInBounds_toArray, List.set_cons_zero, List.set_cons_succ, List.getElem_toArray, List.getElem_cons_zero, List.getElem_cons_succ]
  refine wpAnyH_take (i := 2) (oi := _) (v := ?v2_2) rfl (by kernel_rfl) (by kernel_rfl) (by kernel_rfl) (fun _ _ _ h => h) (Or.inl ⟨by rfl, ?hy2_2⟩) (by assumption) ?rest2_2
  case hy2_2 =>
    intro w hSw
    (try dsimp only at hSw)
    go_simp
    rfl
  case' rest2_2 => try simp only [Act.put, List.setIfInBounds_toArray, List.set_cons_zero, List.set_cons_succ, List.getElem_toArray, List.getElem_cons_zero, List.getElem_cons_succ]
  refine wpAnyH_take (i := 3) (oi := _) (v := ?v3_3) rfl (by kernel_rfl) (by kernel_rfl) (by kernel_rfl) (fun _ _ _ h => h) (Or.inl ⟨by rfl, ?hy3_3⟩) (by assumption) ?rest3_3
  case hy3_3 =>
    intro w hSw
    (try dsimp only at hSw)
    go_simp
    rfl
  case' rest3_3 => try simp only [Act.put, List.setIfInBounds_toArray, List.set_cons_zero, List.set_cons_succ, List.getElem_toArray, List.getElem_cons_zero, List.getElem_cons_succ]
  refine wpAnyH_take (i := 4) (oi := _) (v := ?v4_4) rfl (by kernel_rfl) (by kernel_rfl) (by kernel_rfl) (fun _ _ _ h => h) (Or.inl ⟨by rfl, ?hy4_4⟩) (by assumption) ?rest4_4
  case hy4_4 =>
    intro w hSw
    (try dsimp only at hSw)
    go_simp
    rfl
  case' rest4_4 => try simp only [Act.put, List.setIfInBounds_toArray, List.set_cons_zero, List.set_cons_succ, List.getElem_toArray, List.getElem_cons_zero, List.getElem_cons_succ]
  refine wpAnyH_take (i := 5) (oi := _) (v := ?v5_5) rfl (by kernel_rfl) (by kernel_rfl) (by kernel_rfl) (fun _ _ _ h => h) (Or.inl ⟨by rfl, ?hy5_5⟩) (by assumption) ?rest5_5
  case hy5_5 =>
    intro w hSw
    (try dsimp only at hSw)
    go_simp
    rfl
  case' rest5_5 => try simp only [Act.put, List.setIfInBounds_toArray, List.set_cons_zero, List.set_cons_succ, List.getElem_toArray, List.getElem_cons_zero, List.getElem_cons_succ]
  refine wpAnyH_take (i := 6) (oi := _) (v := ?v6_6) rfl (by kernel_rfl) (by kernel_rfl) (by kernel_rfl) (fun _ _ _ h => h) (Or.inl ⟨by rfl, ?hy6_6⟩) (by assumption) ?rest6_6
  case hy6_6 =>
    intro w hSw
    (try dsimp only at hSw)
    go_simp
    rfl
  case' rest6_6 => try simp only [Act.put, List.setIfInBounds_toArray, List.set_cons_zero, List.set_cons_succ, List.getElem_toArray, List.getElem_cons_zero, List.getElem_cons_succ]
  refine wpAnyH_take (i := 7) (oi := _) (v := ?v7_7) rfl (by kernel_rfl) (by kernel_rfl) (by kernel_rfl) (fun _ _ _ h => h) (Or.inl ⟨by rfl, ?hy7_7⟩) (by assumption) ?rest7_7
  case hy7_7 =>
    intro w hSw
    (try dsimp only at hSw)
    go_simp
    rfl
  case' rest7_7 => try simp only [Act.put, List.setIfInBounds_toArray, List.set_cons_zero, List.set_cons_succ, List.getElem_toArray, List.getElem_cons_zero, List.getElem_cons_succ]
  refine wpAnyH_take (i := 8) (oi := _) (v := ?v8_8) rfl (by kernel_rfl) (by kernel_rfl) (by kernel_rfl) (fun _ _ _ h => h) (Or.inl ⟨by rfl, ?hy8_8⟩) (by assumption) ?rest8_8
  case hy8_8 =>
    intro w hSw
    (try dsimp only at hSw)
    go_simp
    rfl
  case' rest8_8 => try simp only [Act.put, List.setIfInBounds_toArray, List.set_cons_zero, List.set_cons_succ, List.getElem_toArray, List.getElem_cons_zero, List.getElem_cons_succ]
  refine wpAnyH_take (i := 9) (oi := _) (v := ?v9_9) rfl (by kernel_rfl) (by kernel_rfl) (by kernel_rfl) (fun _ _ _ h => h) (Or.inl ⟨by rfl, ?hy9_9⟩) (by assumption) ?rest9_9
  case hy9_9 =>
    intro w hSw
    (try dsimp only at hSw)
    go_simp
    rfl
  case' rest9_9 => try simp only [Act.put, List.setIfInBounds_toArray, List.set_cons_zero, List.set_cons_succ, List.getElem_toArray, List.getElem_cons_zero, List.getElem_cons_succ]
  refine wpAnyH_ready (rs := [1]) (by kernel_rfl) (by simp) ?_
  refine AllReadyH.cons (o := _) rfl (fun K hK => ?_) AllReadyH.nil
  go_simp
  go_at_call 39
  with_reducible refine HSW.out.mono ?_
  rintro e w14 ⟨⟨t5, s5, n5, ⟨u1, v1, z1⟩, ⟨u2, v2, z2⟩, ⟨u3, v3, z3⟩, ⟨u4, v4, z4⟩⟩, rfl, hst14, hb14a⟩
  have hb14 : Below w13.heap.size w13 w14 := ⟨hb14a.os, hb14a.tape, hb14a.output, hb14a.size, hb14a.block⟩
  clear hb14a
  have HST14 := Lib.hid hst14
  clear hst14
  have HX14 := Lib.hid (HX13.out.next (show 0 < 7 by decide) hb14)
  have HS14 := Lib.hid (HS13.out.next (show 0 < 7 by decide) hb14)
  have HR14 := Lib.hid (HR13.out.next (show 0 < 7 by decide) hb14)
  have HA14 := Lib.hid (HA13.out.next (show 0 < 5 by decide) hb14)
  have HT14 := Lib.hid (HT13.out.next (show 0 < 5 by decide) hb14)
  have HB14 := Lib.hid (HB13.out.trans (hb14.mono HB13.out.size))
  have P17 : Hid (Box (((((((w14.setCell ⟨w.heap.size + 1, 0, none⟩ (.int .i64 t5)).setCell ⟨w.heap.size + 1, 1, none⟩ (.int .i64 s5)).setCell ⟨w.heap.size + 1, 2, none⟩ (.int .i64 n5)).setCell ⟨w.heap.size + 1, 3, none⟩ (.slice u1 v1 z1)).setCell ⟨w.heap.size + 1, 4, none⟩ (.slice u2 v2 z2)).setCell ⟨w.heap.size + 1, 5, none⟩ (.slice u3 v3 z3)).setCell ⟨w.heap.size + 1, 6, none⟩ (.slice u4 v4 z4)) (w.heap.size + 1) (⟨t5, s5, n5, ⟨u1, v1, z1⟩, ⟨u2, v2, z2⟩, ⟨u3, v3, z3⟩, ⟨u4, v4, z4⟩⟩ : Raw).cells ∧ Wrote (w.heap.size + 1) w14 (((((((w14.setCell ⟨w.heap.size + 1, 0, none⟩ (.int .i64 t5)).setCell ⟨w.heap.size + 1, 1, none⟩ (.int .i64 s5)).setCell ⟨w.heap.size + 1, 2, none⟩ (.int .i64 n5)).setCell ⟨w.heap.size + 1, 3, none⟩ (.slice u1 v1 z1)).setCell ⟨w.heap.size + 1, 4, none⟩ (.slice u2 v2 z2)).setCell ⟨w.heap.size + 1, 5, none⟩ (.slice u3 v3 z3)).setCell ⟨w.heap.size + 1, 6, none⟩ (.slice u4 v4 z4))) := box_put (L := laySt) (⟨t5, s5, n5, ⟨u1, v1, z1⟩, ⟨u2, v2, z2⟩, ⟨u3, v3, z3⟩, ⟨u4, v4, z4⟩⟩ : Raw) HR14.out rfl
  have HK14 : Hid (w14.cell? ⟨w7.heap.size, 0, none⟩ = some (.int .i64 t4) ∧ w14.cell? ⟨w7.heap.size, 1, none⟩ = some (.int .i64 s4) ∧ w14.cell? ⟨w7.heap.size, 2, none⟩ = some (.int .i64 (s.next + 1)) ∧ w14.cell? ⟨w7.heap.size, 3, none⟩ = some (.slice xa ss.1.length ya) ∧ w14.cell? ⟨w7.heap.size, 4, none⟩ = some (.slice xb (m2 + 1) yb) ∧ w14.cell? ⟨w7.heap.size, 5, none⟩ = some (.slice x3 m3 y3) ∧ w14.cell? ⟨w7.heap.size, 6, none⟩ = some (.slice x4 m4 y4) ∧ w14.cell? ⟨w.heap.size, 2, none⟩ = some (.int .i64 s.next) ∧ w14.cell? ⟨w5.heap.size, 1, none⟩ = some (.int .i64 frate) ∧ w14.cell? ⟨w5.heap.size, 2, none⟩ = some (.int .i64 fburst)) := HKP.out _ HX14.out HS14.out HT14.out
  have HK17 : Hid ((((((((w14.setCell ⟨w.heap.size + 1, 0, none⟩ (.int .i64 t5)).setCell ⟨w.heap.size + 1, 1, none⟩ (.int .i64 s5)).setCell ⟨w.heap.size + 1, 2, none⟩ (.int .i64 n5)).setCell ⟨w.heap.size + 1, 3, none⟩ (.slice u1 v1 z1)).setCell ⟨w.heap.size + 1, 4, none⟩ (.slice u2 v2 z2)).setCell ⟨w.heap.size + 1, 5, none⟩ (.slice u3 v3 z3)).setCell ⟨w.heap.size + 1, 6, none⟩ (.slice u4 v4 z4)).cell? ⟨w7.heap.size, 0, none⟩ = some (.int .i64 t4) ∧ (((((((w14.setCell ⟨w.heap.size + 1, 0, none⟩ (.int .i64 t5)).setCell ⟨w.heap.size + 1, 1, none⟩ (.int .i64 s5)).setCell ⟨w.heap.size + 1, 2, none⟩ (.int .i64 n5)).setCell ⟨w.heap.size + 1, 3, none⟩ (.slice u1 v1 z1)).setCell ⟨w.heap.size + 1, 4, none⟩ (.slice u2 v2 z2)).setCell ⟨w.heap.size + 1, 5, none⟩ (.slice u3 v3 z3)).setCell ⟨w.heap.size + 1, 6, none⟩ (.slice u4 v4 z4)).cell? ⟨w7.heap.size, 1, none⟩ = some (.int .i64 s4) ∧ (((((((w14.setCell ⟨w.heap.size + 1, 0, none⟩ (.int .i64 t5)).setCell ⟨w.heap.size + 1, 1, none⟩ (.int .i64 s5)).setCell ⟨w.heap.size + 1, 2, none⟩ (.int .i64 n5)).setCell ⟨w.heap.size + 1, 3, none⟩ (.slice u1 v1 z1)).setCell ⟨w.heap.size + 1, 4, none⟩ (.slice u2 v2 z2)).setCell ⟨w.heap.size + 1, 5, none⟩ (.slice u3 v3 z3)).setCell ⟨w.heap.size + 1, 6, none⟩ (.slice u4 v4 z4)).cell? ⟨w7.heap.size, 2, none⟩ = some (.int .i64 (s.next + 1)) ∧ (((((((w14.setCell ⟨w.heap.size + 1, 0, none⟩ (.int .i64 t5)).setCell ⟨w.heap.size + 1, 1, none⟩ (.int .i64 s5)).setCell ⟨w.heap.size + 1, 2, none⟩ (.int .i64 n5)).setCell ⟨w.heap.size + 1, 3, none⟩ (.slice u1 v1 z1)).setCell ⟨w.heap.size + 1, 4, none⟩ (.slice u2 v2 z2)).setCell ⟨w.heap.size + 1, 5, none⟩ (.slice u3 v3 z3)).setCell ⟨w.heap.size + 1, 6, none⟩ (.slice u4 v4 z4)).cell? ⟨w7.heap.size, 3, none⟩ = some (.slice xa ss.1.length ya) ∧ (((((((w14.setCell ⟨w.heap.size + 1, 0, none⟩ (.int .i64 t5)).setCell ⟨w.heap.size + 1, 1, none⟩ (.int .i64 s5)).setCell ⟨w.heap.size + 1, 2, none⟩ (.int .i64 n5)).setCell ⟨w.heap.size + 1, 3, none⟩ (.slice u1 v1 z1)).setCell ⟨w.heap.size + 1, 4, none⟩ (.slice u2 v2 z2)).setCell ⟨w.heap.size + 1, 5, none⟩ (.slice u3 v3 z3)).setCell ⟨w.heap.size + 1, 6, none⟩ (.slice u4 v4 z4)).cell? ⟨w7.heap.size, 4, none⟩ = some (.slice xb (m2 + 1) yb) ∧ (((((((w14.setCell ⟨w.heap.size + 1, 0, none⟩ (.int .i64 t5)).setCell ⟨w.heap.size + 1, 1, none⟩ (.int .i64 s5)).setCell ⟨w.heap.size + 1, 2, none⟩ (.int .i64 n5)).setCell ⟨w.heap.size + 1, 3, none⟩ (.slice u1 v1 z1)).setCell ⟨w.heap.size + 1, 4, none⟩ (.slice u2 v2 z2)).setCell ⟨w.heap.size + 1, 5, none⟩ (.slice u3 v3 z3)).setCell ⟨w.heap.size + 1, 6, none⟩ (.slice u4 v4 z4)).cell? ⟨w7.heap.size, 5, none⟩ = some (.slice x3 m3 y3) ∧ (((((((w14.setCell ⟨w.heap.size + 1, 0, none⟩ (.int .i64 t5)).setCell ⟨w.heap.size + 1, 1, none⟩ (.int .i64 s5)).setCell ⟨w.heap.size + 1, 2, none⟩ (.int .i64 n5)).setCell ⟨w.heap.size + 1, 3, none⟩ (.slice u1 v1 z1)).setCell ⟨w.heap.size + 1, 4, none⟩ (.slice u2 v2 z2)).setCell ⟨w.heap.size + 1, 5, none⟩ (.slice u3 v3 z3)).setCell ⟨w.heap.size + 1, 6, none⟩ (.slice u4 v4 z4)).cell? ⟨w7.heap.size, 6, none⟩ = some (.slice x4 m4 y4) ∧ (((((((w14.setCell ⟨w.heap.size + 1, 0, none⟩ (.int .i64 t5)).setCell ⟨w.heap.size + 1, 1, none⟩ (.int .i64 s5)).setCell ⟨w.heap.size + 1, 2, none⟩ (.int .i64 n5)).setCell ⟨w.heap.size + 1, 3, none⟩ (.slice u1 v1 z1)).setCell ⟨w.heap.size + 1, 4, none⟩ (.slice u2 v2 z2)).setCell ⟨w.heap.size + 1, 5, none⟩ (.slice u3 v3 z3)).setCell ⟨w.heap.size + 1, 6, none⟩ (.slice u4 v4 z4)).cell? ⟨w.heap.size, 2, none⟩ = some (.int .i64 s.next) ∧ (((((((w14.setCell ⟨w.heap.size + 1, 0, none⟩ (.int .i64 t5)).setCell ⟨w.heap.size + 1, 1, none⟩ (.int .i64 s5)).setCell ⟨w.heap.size + 1, 2, none⟩ (.int .i64 n5)).setCell ⟨w.heap.size + 1, 3, none⟩ (.slice u1 v1 z1)).setCell ⟨w.heap.size + 1, 4, none⟩ (.slice u2 v2 z2)).setCell ⟨w.heap.size + 1, 5, none⟩ (.slice u3 v3 z3)).setCell ⟨w.heap.size + 1, 6, none⟩ (.slice u4 v4 z4)).cell? ⟨w5.heap.size, 1, none⟩ = some (.int .i64 frate) ∧ (((((((w14.setCell ⟨w.heap.size + 1, 0, none⟩ (.int .i64 t5)).setCell ⟨w.heap.size + 1, 1, none⟩ (.int .i64 s5)).setCell ⟨w.heap.size + 1, 2, none⟩ (.int .i64 n5)).setCell ⟨w.heap.size + 1, 3, none⟩ (.slice u1 v1 z1)).setCell ⟨w.heap.size + 1, 4, none⟩ (.slice u2 v2 z2)).setCell ⟨w.heap.size + 1, 5, none⟩ (.slice u3 v3 z3)).setCell ⟨w.heap.size + 1, 6, none⟩ (.slice u4 v4 z4)).cell? ⟨w5.heap.size, 2, none⟩ = some (.int .i64 fburst)) := HKP.out _ (HX14.out.wrote P17.out.2 e1) (HS14.out.wrote P17.out.2 (by omega)) (HT14.out.wrote P17.out.2 e3)
  clear hHeld
  refine hK.out _ _ HK14.out (fun hHeld => ?_)
  clear hK K
  try simp only [Act.put, List.setIfInBounds_toArray, List.set_cons_zero, List.set_cons_succ, List.getElem_toArray, List.getElem_cons_zero, List.getElem_cons_succ]
  refine wpAnyH_ready (rs := [10]) (by kernel_rfl) (by simp) ?_
  refine AllReadyH.cons (o := _) rfl (fun K hK => ?_) AllReadyH.nil
  obtain ⟨⟨k0, k1, k2, k3, k4, k5, k6⟩, ⟨zz0, zz1, zz2, zz3, zz4, zz5, zz6⟩, _⟩ := HR14.out.st
  simp only at k0 k1 k2 k3 k4 k5 k6
  go_simp
  clear k0 k1 k2 k3 k4 k5 k6 zz0 zz1 zz2 zz3 zz4 zz5 zz6
  clear hHeld
  refine hK.out _ _ HK17.out (fun hHeld => ?_)
  clear hK K
  try simp only [Act.put, List.setIfInBounds_toArray, List.set_cons_zero, List.set_cons_succ, List.getElem_toArray, List.getElem_cons_zero, List.getElem_cons_succ]
  obtain ⟨w17, hw17⟩ : ∃ x, x = (((((((w14.setCell ⟨w.heap.size + 1, 0, none⟩ (.int .i64 t5)).setCell ⟨w.heap.size + 1, 1, none⟩ (.int .i64 s5)).setCell ⟨w.heap.size + 1, 2, none⟩ (.int .i64 n5)).setCell ⟨w.heap.size + 1, 3, none⟩ (.slice u1 v1 z1)).setCell ⟨w.heap.size + 1, 4, none⟩ (.slice u2 v2 z2)).setCell ⟨w.heap.size + 1, 5, none⟩ (.slice u3 v3 z3)).setCell ⟨w.heap.size + 1, 6, none⟩ (.slice u4 v4 z4)) := ⟨_, rfl⟩
  rw [← hw17] at hHeld ⊢
  have P17b : Hid (Box w17 (w.heap.size + 1) (⟨t5, s5, n5, ⟨u1, v1, z1⟩, ⟨u2, v2, z2⟩, ⟨u3, v3, z3⟩, ⟨u4, v4, z4⟩⟩ : Raw).cells ∧ Wrote (w.heap.size + 1) w14 w17) := by show _ ∧ _; rw [hw17]; exact P17.out
  clear hw17 P17 HK17
  have HA17 := Lib.hid (HA14.out.wrote P17b.out.2 (by omega))
  have P18 : Hid (Box (((((w17.setCell ⟨w.heap.size + 1 + 1, 0, none⟩ (.int .i64 0)).setCell ⟨w.heap.size + 1 + 1, 1, none⟩ (.int .i64 frate)).setCell ⟨w.heap.size + 1 + 1, 2, none⟩ (.int .i64 fburst)).setCell ⟨w.heap.size + 1 + 1, 3, none⟩ (.int .i64 s.next)).setCell ⟨w.heap.size + 1 + 1, 4, none⟩ (.int .i64 sz)) (w.heap.size + 1 + 1) (⟨0, frate, fburst, s.next, sz⟩ : Ans).cells ∧ Wrote (w.heap.size + 1 + 1) w17 (((((w17.setCell ⟨w.heap.size + 1 + 1, 0, none⟩ (.int .i64 0)).setCell ⟨w.heap.size + 1 + 1, 1, none⟩ (.int .i64 frate)).setCell ⟨w.heap.size + 1 + 1, 2, none⟩ (.int .i64 fburst)).setCell ⟨w.heap.size + 1 + 1, 3, none⟩ (.int .i64 s.next)).setCell ⟨w.heap.size + 1 + 1, 4, none⟩ (.int .i64 sz))) := box_put (L := layAns) (⟨0, frate, fburst, s.next, sz⟩ : Ans) HA17.out rfl
  have HK18 : Hid ((((((w17.setCell ⟨w.heap.size + 1 + 1, 0, none⟩ (.int .i64 0)).setCell ⟨w.heap.size + 1 + 1, 1, none⟩ (.int .i64 frate)).setCell ⟨w.heap.size + 1 + 1, 2, none⟩ (.int .i64 fburst)).setCell ⟨w.heap.size + 1 + 1, 3, none⟩ (.int .i64 s.next)).setCell ⟨w.heap.size + 1 + 1, 4, none⟩ (.int .i64 sz)).cell? ⟨w7.heap.size, 0, none⟩ = some (.int .i64 t4) ∧ (((((w17.setCell ⟨w.heap.size + 1 + 1, 0, none⟩ (.int .i64 0)).setCell ⟨w.heap.size + 1 + 1, 1, none⟩ (.int .i64 frate)).setCell ⟨w.heap.size + 1 + 1, 2, none⟩ (.int .i64 fburst)).setCell ⟨w.heap.size + 1 + 1, 3, none⟩ (.int .i64 s.next)).setCell ⟨w.heap.size + 1 + 1, 4, none⟩ (.int .i64 sz)).cell? ⟨w7.heap.size, 1, none⟩ = some (.int .i64 s4) ∧ (((((w17.setCell ⟨w.heap.size + 1 + 1, 0, none⟩ (.int .i64 0)).setCell ⟨w.heap.size + 1 + 1, 1, none⟩ (.int .i64 frate)).setCell ⟨w.heap.size + 1 + 1, 2, none⟩ (.int .i64 fburst)).setCell ⟨w.heap.size + 1 + 1, 3, none⟩ (.int .i64 s.next)).setCell ⟨w.heap.size + 1 + 1, 4, none⟩ (.int .i64 sz)).cell? ⟨w7.heap.size, 2, none⟩ = some (.int .i64 (s.next + 1)) ∧ (((((w17.setCell ⟨w.heap.size + 1 + 1, 0, none⟩ (.int .i64 0)).setCell ⟨w.heap.size + 1 + 1, 1, none⟩ (.int .i64 frate)).setCell ⟨w.heap.size + 1 + 1, 2, none⟩ (.int .i64 fburst)).setCell ⟨w.heap.size + 1 + 1, 3, none⟩ (.int .i64 s.next)).setCell ⟨w.heap.size + 1 + 1, 4, none⟩ (.int .i64 sz)).cell? ⟨w7.heap.size, 3, none⟩ = some (.slice xa ss.1.length ya) ∧ (((((w17.setCell ⟨w.heap.size + 1 + 1, 0, none⟩ (.int .i64 0)).setCell ⟨w.heap.size + 1 + 1, 1, none⟩ (.int .i64 frate)).setCell ⟨w.heap.size + 1 + 1, 2, none⟩ (.int .i64 fburst)).setCell ⟨w.heap.size + 1 + 1, 3, none⟩ (.int .i64 s.next)).setCell ⟨w.heap.size + 1 + 1, 4, none⟩ (.int .i64 sz)).cell? ⟨w7.heap.size, 4, none⟩ = some (.slice xb (m2 + 1) yb) ∧ (((((w17.setCell ⟨w.heap.size + 1 + 1, 0, none⟩ (.int .i64 0)).setCell ⟨w.heap.size + 1 + 1, 1, none⟩ (.int .i64 frate)).setCell ⟨w.heap.size + 1 + 1, 2, none⟩ (.int .i64 fburst)).setCell ⟨w.heap.size + 1 + 1, 3, none⟩ (.int .i64 s.next)).setCell ⟨w.heap.size + 1 + 1, 4, none⟩ (.int .i64 sz)).cell? ⟨w7.heap.size, 5, none⟩ = some (.slice x3 m3 y3) ∧ (((((w17.setCell ⟨w.heap.size + 1 + 1, 0, none⟩ (.int .i64 0)).setCell ⟨w.heap.size + 1 + 1, 1, none⟩ (.int .i64 frate)).setCell ⟨w.heap.size + 1 + 1, 2, none⟩ (.int .i64 fburst)).setCell ⟨w.heap.size + 1 + 1, 3, none⟩ (.int .i64 s.next)).setCell ⟨w.heap.size + 1 + 1, 4, none⟩ (.int .i64 sz)).cell? ⟨w7.heap.size, 6, none⟩ = some (.slice x4 m4 y4) ∧ (((((w17.setCell ⟨w.heap.size + 1 + 1, 0, none⟩ (.int .i64 0)).setCell ⟨w.heap.size + 1 + 1, 1, none⟩ (.int .i64 frate)).setCell ⟨w.heap.size + 1 + 1, 2, none⟩ (.int .i64 fburst)).setCell ⟨w.heap.size + 1 + 1, 3, none⟩ (.int .i64 s.next)).setCell ⟨w.heap.size + 1 + 1, 4, none⟩ (.int .i64 sz)).cell? ⟨w.heap.size, 2, none⟩ = some (.int .i64 s.next) ∧ (((((w17.setCell ⟨w.heap.size + 1 + 1, 0, none⟩ (.int .i64 0)).setCell ⟨w.heap.size + 1 + 1, 1, none⟩ (.int .i64 frate)).setCell ⟨w.heap.size + 1 + 1, 2, none⟩ (.int .i64 fburst)).setCell ⟨w.heap.size + 1 + 1, 3, none⟩ (.int .i64 s.next)).setCell ⟨w.heap.size + 1 + 1, 4, none⟩ (.int .i64 sz)).cell? ⟨w5.heap.size, 1, none⟩ = some (.int .i64 frate) ∧ (((((w17.setCell ⟨w.heap.size + 1 + 1, 0, none⟩ (.int .i64 0)).setCell ⟨w.heap.size + 1 + 1, 1, none⟩ (.int .i64 frate)).setCell ⟨w.heap.size + 1 + 1, 2, none⟩ (.int .i64 fburst)).setCell ⟨w.heap.size + 1 + 1, 3, none⟩ (.int .i64 s.next)).setCell ⟨w.heap.size + 1 + 1, 4, none⟩ (.int .i64 sz)).cell? ⟨w5.heap.size, 2, none⟩ = some (.int .i64 fburst)) := HKP.out _ ((HX14.out.wrote P17b.out.2 e1).wrote P18.out.2 e2) ((HS14.out.wrote P17b.out.2 (by omega)).wrote P18.out.2 (by omega)) ((HT14.out.wrote P17b.out.2 e3).wrote P18.out.2 e4)
  refine wpAnyH_ready (rs := [11]) (by kernel_rfl) (by simp) ?_
  refine AllReadyH.cons (o := _) rfl (fun K hK => ?_) AllReadyH.nil
  obtain ⟨a0, a1', a2', a3', a4'⟩ := cellsAns0 HA17.out.range
  have y0' := HA17.out.froz (j := 0) (show 0 < 5 by decide)
  have y1' := HA17.out.froz (j := 1) (show 1 < 5 by decide)
  have y2' := HA17.out.froz (j := 2) (show 2 < 5 by decide)
  have y3' := HA17.out.froz (j := 3) (show 3 < 5 by decide)
  have y4' := HA17.out.froz (j := 4) (show 4 < 5 by decide)
  simp only at a0 a1' a2' a3' a4'
  go_simp
  clear a0 a1' a2' a3' a4' y0' y1' y2' y3' y4'
  clear hHeld
  refine hK.out _ _ HK18.out (fun hHeld => ?_)
  clear hK K
  try simp only [Act.put, List.setIfInBounds_toArray, List.set_cons_zero, List.set_cons_succ, List.getElem_toArray, List.getElem_cons_zero, List.getElem_cons_succ]
  refine wpAnyH_done (by kernel_rfl) ?_ _
  clear hHeld
  refine two_wrote0 (F := Exit.then _ _ _ _) P17b.out P18.out ?_
  intro w15 HX15 HA15 q15 hk15 hb15
  have HX15' := Lib.hid HX15
  have HA15' := Lib.hid HA15
  have HK15' := Lib.hid hk15
  have HQ15 := Lib.hid q15
  clear P17b P18 HKP HKD HK14 HK18 HX15 HA15 hk15 q15
  go_wp2_with fail
  have q15 := HQ15.out
  have S15 := HST14.out.mid (⟨by omega, fun k e1 e2 => HK15'.out k (by omega) (by omega)⟩ : Mid w6b.heap.size w14.heap.size w14 w15) (Nat.le_refl _) (Nat.le_refl _)
  exact ⟨rfl, refgrant_out (r9 := ⟨t5, s5, n5, ⟨u1, v1, z1⟩, ⟨u2, v2, z2⟩, ⟨u3, v3, z3⟩, ⟨u4, v4, z4⟩⟩) (a := ⟨0, frate, fburst, s.next, sz⟩) rfl rfl HX15'.out HA15'.out (S15.mono (Nat.zero_le _)) rfl (HB14.out.trans (hb15 _ (by omega)))⟩
end Go.Proofs.Ytoofmofaimdhpaa
