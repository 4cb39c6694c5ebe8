import Derived.Test.YtoofmofaimdhpaaPackA5
import Derived.Deep.Cut
import Derived.StillTailTactics
import Derived.Deep.DeepMust
import Derived.Deep.RegionHeld3
set_option linter.unusedVariables false
set_option linter.unusedSimpArgs false
namespace Go.Proofs.Ytoofmofaimdhpaa
open Go.ChangeShapes Go.WideShapes Go.ChangeAt Go.RowKit
set_option maxRecDepth 100000

set_option maxHeartbeats 16000000 in
theorem report_more (s : St) (r : Raw) (B : Nat) (sh ep le sp : Int) (cl : Bool) (w : World) (h : StAt w B r s) (hl1' : s.tens.length ≤ 800) (hl2 : s.leas.length ≤ 900) (hl3 : s.sess.length ≤ 900) (hl4 : s.dsks.length ≤ 900)
    (i0 i1 i2 i3 i4 i5 i6 : Int) (k : Nat) (hok : stOk s = true) (hix : idxL (leaIs sh ep le) s.leas = k) (hx : ∃ hk : k < s.leas.length, s.leas[k] = ⟨i0, i1, i2, i3, i4, i5, i6⟩) (hr0 : 0 ≤ i6) (hr1 : i6 ≤ i5) (hr2 : i5 ≤ 1000000) (hc0 : i6 ≤ sp) (hc : i5 < sp) :
    Calls Try.prog 22 #[r.agg, .int .i64 sh, .int .i64 ep, .int .i64 le, .int .i64 sp, .bool cl] w (RetSEN w (sweptS s, 2)) := by
  have hl1 : s.tens.length ≤ 900 := by omega
  have hmf : ∀ (fn : Fn) (first cap : Array Value) (w : World), (Instr.makeFunc fn first cap).run Try.prog w = .ok (.func fn first cap) w := fun _ _ _ _ => rfl
  have HS := Lib.hid h
  have HL := Lib.hid (And.intro hl1 (And.intro hl2 (And.intro hl3 hl4)))
  have HCK := Lib.hid (fun w' (hb : Below w.heap.size w w') => check_st s r B w' (h.below hb) hl1 hl2)
  have HOK := Lib.hid hok
  have HFIT := Lib.hid (stOk_ten hok).2
  have HCP := Lib.hid (fun w' (hb : Below w.heap.size w w') => copied_st s r B w' (h.below hb) hl1 hl2 hl3 hl4)
  have HPF := Lib.hid (fun te w' (hb : Below w.heap.size w w') => pfind_any s.tens r.ten.a r.ten.n r.ten.c te w' h.ten.len (le_maxLen (by omega)) (Row.below h.trow hb))
  have HPL := Lib.hid (fun gl gs ge w' (hb : Below w.heap.size w w') (hc1 : w'.cell? ⟨gl, 0, none⟩ = some (.int .i64 le)) (hc2 : w'.cell? ⟨gs, 0, none⟩ = some (.int .i64 sh)) (hc3 : w'.cell? ⟨ge, 0, none⟩ = some (.int .i64 ep)) => place_lea s.leas r.lea.a r.lea.n r.lea.c 53 #[.pointer (some ⟨gl, 0, none⟩), .pointer (some ⟨gs, 0, none⟩), .pointer (some ⟨ge, 0, none⟩)] (leaIs sh ep le) w' h.lea.len (le_maxLen (by have := h.lea.len; omega)) (h.lea.row.below hb) enter_report2
    (fun x _ w'' hb' => report2_any x sh ep le gl gs ge w'' ((hb'.cell (p := ⟨gl, 0, none⟩) (World.block_lt_of_cell? w' _ hc1)).trans hc1) ((hb'.cell (p := ⟨gs, 0, none⟩) (World.block_lt_of_cell? w' _ hc2)).trans hc2) ((hb'.cell (p := ⟨ge, 0, none⟩) (World.block_lt_of_cell? w' _ hc3)).trans hc3)))
  have HI := Lib.hid hix
  obtain ⟨hk, hxk⟩ := hx
  have hr := h.lea.row
  have hl2' := h.lea.len
  obtain ⟨b, o, ha2, hcs⟩ := LRow.range hr hk
  have HRG := Lib.hid (fun w' hb => hcs w' hb)
  rw [hxk] at HRG
  have HXK := Lib.hid hxk
  have HKL := Lib.hid hk
  have hd : decide ((0 : Int) ≤ (k : Int)) = true := decide_eq_true (by omega)
  have hkl : (k : Int) < (s.leas.length : Int) := by omega
  have hk900 : (k : Int) < 900 := by omega
  obtain ⟨term, stamp, next, ⟨a1, n1, c1⟩, ⟨a2, n2, c2⟩, ⟨a3, n3, c3⟩, ⟨a4, n4, c4⟩⟩ := r
  have hn2 : s.leas.length = n2 := h.lea.len
  subst hn2
  simp only at ha2
  subst ha2
  have HBX : Hid (∀ w', Below (((((w.alloc (.cells #[.int .i64 term, .int .i64 stamp, .int .i64 next, .slice a1 n1 c1, .slice (some ⟨b, o, none⟩) s.leas.length c2, .slice a3 n3 c3, .slice a4 n4 c4] 27)).alloc (.cells #[.int .i64 sh] 3)).alloc (.cells #[.int .i64 ep] 3)).alloc (.cells #[.int .i64 le] 3)).alloc (.cells #[.int .i64 0, .int .i64 0, .int .i64 0, .slice none 0 0, .slice none 0 0, .slice none 0 0, .slice none 0 0] 27)).heap.size (((((w.alloc (.cells #[.int .i64 term, .int .i64 stamp, .int .i64 next, .slice a1 n1 c1, .slice (some ⟨b, o, none⟩) s.leas.length c2, .slice a3 n3 c3, .slice a4 n4 c4] 27)).alloc (.cells #[.int .i64 sh] 3)).alloc (.cells #[.int .i64 ep] 3)).alloc (.cells #[.int .i64 le] 3)).alloc (.cells #[.int .i64 0, .int .i64 0, .int .i64 0, .slice none 0 0, .slice none 0 0, .slice none 0 0, .slice none 0 0] 27)) w' →
      Box w' w.heap.size (Raw.cells ⟨term, stamp, next, ⟨a1, n1, c1⟩, ⟨some ⟨b, o, none⟩, s.leas.length, c2⟩, ⟨a3, n3, c3⟩, ⟨a4, n4, c4⟩⟩) ∧ Box w' (w.heap.size + 1) [.int .i64 sh] ∧ Box w' (w.heap.size + 1 + 1) [.int .i64 ep] ∧ Box w' (w.heap.size + 1 + 1 + 1) [.int .i64 le] ∧ Box w' (w.heap.size + 1 + 1 + 1 + 1) (Raw.cells ⟨0, 0, 0, ⟨none, 0, 0⟩, ⟨none, 0, 0⟩, ⟨none, 0, 0⟩, ⟨none, 0, 0⟩⟩) ∧ w.heap.size + 5 ≤ w'.heap.size) :=
    fun w' hb => ⟨Box.of_alloc (mid_alloc' (mid_alloc' (mid_alloc' (mid_alloc' hb)))), Box.of_alloc1 (mid_alloc' (mid_alloc' (mid_alloc' hb))), Box.of_alloc2 (mid_alloc' (mid_alloc' hb)), Box.of_alloc3 (mid_alloc' hb), Box.of_alloc4 hb, by have := hb.size; simp at this; omega⟩
  clear h hl1 hl2 hl3 hl4 hok hix hxk hr hcs hl2'
  go_enter_defers Try.func22, Try.ntmps22
  go_wp2_with (first
      | (refine wpList_store_whole laySt rfl (.tmp 12) (.tmp 52) rfl (w.heap.size + 1 + 1 + 1 + 1) ⟨t4, s4, n4, ⟨x1, m1, y1⟩, ⟨x2, m2, y2⟩, ⟨x3, m3, y3⟩, ⟨x4, m4, y4⟩⟩ _ rfl rfl HX7.out rfl ?_; intro w20 hbx20 hw20; have HX20 := Lib.hid hbx20; have HW20 := Lib.hid hw20; have q20 := Nat.le_of_eq hw20.size; have q20' := Nat.le_of_eq hw20.size.symm; clear hbx20 hw20)
      | (refine wpList_load_as laySt rfl (.tmp 12) rfl (w.heap.size + 1 + 1 + 1 + 1) 0 rfl ⟨t4, s4, n4, ⟨x1, m1, y1⟩, ⟨x2, m2, y2⟩, ⟨x3, m3, y3⟩, ⟨x4, m4, y4⟩⟩ (.agg #[.int .i64 t4, .int .i64 s4, .int .i64 n4, .slice x1 m1 y1, .slice x2 m2 y2, .slice x3 m3 y3, .slice x4 m4 y4]) rfl HX7.out.range ?_)
      | (have hgq := q6; clear hgq; refine wpList_store_box layLea rfl (.tmp 16) (.tmp 40) rfl ⟨i0, i1, i2, i3, i4, i5, i6⟩ rfl rfl rfl ?_; intro w7 hw7 ht7 hb7 hs7; obtain ⟨p0, p1, p2, p3, p4, p5, p6⟩ := cellsLea0 hw7; have HC7 : Hid (Box w7 w6.heap.size (Lease.cells ⟨i0, i1, i2, i3, i4, i5, i6⟩)) := ⟨hw7, ht7⟩; have HB7 := Lib.hid (HB6.out.trans (hb7.mono (by omega))); have HX7 := Lib.hid (HX6.out.below hb7 (by omega)); have HS7 := Lib.hid (HS6.out.below hb7 (by omega)); have HST7 := Lib.hid (HST6.out.mid (Mid.below hb7 (Nat.le_refl _) : Mid w3.heap.size w6.heap.size w6 w7) (Nat.le_refl _) (Nat.le_refl _)); have q7 := hb7.size; have q7' : w7.heap.size ≤ w6.heap.size + 1 := (by rw [hs7]; exact Nat.le_refl _); have q7'' : w6.heap.size + 1 ≤ w7.heap.size := (by rw [hs7]; exact Nat.le_refl _); have k34 := HX7.out.cell (j := 4) rfl; clear k4; clear hw7 ht7 hs7)
      | (refine wpList_load_lay layLea rfl (.tmp 39) rfl b (o + k * layLea.size) rfl ⟨i0, i1, i2, i3, i4, i5, i6⟩ (HRG.out w6 HB6.out) ?_)
      | (go_at_call 41; have hpl := HPL.out (w.heap.size + 1 + 1 + 1) (w.heap.size + 1) (w.heap.size + 1 + 1) w5 HB45.out HP5.out.1 HP5.out.2.1 HP5.out.2.2; ((with_reducible refine hpl.mono ?_); clear hpl; rw [HI.out]; rintro e w6 ⟨rfl, hb6⟩; have HB6 := Lib.hid (HB45.out.trans (hb6.mono (by omega))); have HX6 := Lib.hid (HX5.out.below hb6 (by omega)); have HS6 := Lib.hid (HS5.out.below hb6 (by omega)); have HST6 := Lib.hid (HST5.out.mid (Mid.below hb6 (Nat.le_refl _) : Mid w3.heap.size w5.heap.size w5 w6) (Nat.le_refl _) (Nat.le_refl _)); have q6 := hb6.size; clear k4; have k4 := HS6.out.cell (j := 4) rfl))
      | (refine wpList_store_whole laySt rfl (.tmp 12) (.tmp 25) rfl (w.heap.size + 1 + 1 + 1 + 1) ⟨t4, s4, n4, ⟨x1, m1, y1⟩, ⟨x2, m2, y2⟩, ⟨x3, m3, y3⟩, ⟨x4, m4, y4⟩⟩ _ rfl rfl HX4.out.2.2.2.2.1 rfl ?_; intro w5 hbx5 hw5; have HX5 := Lib.hid hbx5; have q3 := HX3.out.2.2.2.2.2; have HST5 := Lib.hid (HST4.out.mid (Mid.wrote (Mid.refl w3.heap.size w4.heap.size w4) hw5 (.inl (by omega))) (Nat.le_refl _) (Nat.le_refl _)); have HS5 := Lib.hid (HX4.out.1.wrote hw5 (by omega)); have HP5 := Lib.hid (And.intro ((HX4.out.2.2.2.1.wrote hw5 (by omega)).cell (j := 0) rfl) (And.intro ((HX4.out.2.1.wrote hw5 (by omega)).cell (j := 0) rfl) ((HX4.out.2.2.1.wrote hw5 (by omega)).cell (j := 0) rfl))); have hb5 : Below (w.heap.size + 1 + 1 + 1 + 1) w4 w5 := hw5.below _ (Nat.le_refl _); have HB45 : Hid (Below w.heap.size w w5) := Below.trans (show Below w.heap.size w w4 from (by repeat' (first | (with_reducible exact Below.refl _ _) | (with_reducible assumption) | (with_reducible refine Below.drew ?_) | (with_reducible refine Below.more ?_ _) | (with_reducible refine Below.put ?_ ?_ _) | (with_reducible refine Below.next ?_ (by with_reducible assumption)) | (with_reducible exact Nat.le_refl _) | (with_reducible refine Below.size' ?_) | omega))) (hb5.mono (by omega)); have q5 := Nat.le_of_eq hw5.size; have q5' := Nat.le_of_eq hw5.size.symm; have q34 := hb4.size; have k4 := HS5.out.cell (j := 4) rfl; clear hbx5 hw5)
      | (go_at_call 31; ((with_reducible refine (HCP.out _ (by repeat' (first | (with_reducible exact Below.refl _ _) | (with_reducible assumption) | (with_reducible refine Below.drew ?_) | (with_reducible refine Below.more ?_ _) | (with_reducible refine Below.put ?_ ?_ _) | (with_reducible refine Below.next ?_ (by with_reducible assumption)) | (with_reducible exact Nat.le_refl _) | (with_reducible refine Below.size' ?_) | omega))).mono ?_); rintro e w4 ⟨⟨t4, s4, n4, ⟨x1, m1, y1⟩, ⟨x2, m2, y2⟩, ⟨x3, m3, y3⟩, ⟨x4, m4, y4⟩⟩, rfl, hst4, hb4⟩; have HST4 := Lib.hid hst4; have HX4 := Lib.hid (HBX.out w4 (by repeat' (first | (with_reducible exact Below.refl _ _) | (with_reducible assumption) | (with_reducible refine Below.drew ?_) | (with_reducible refine Below.more ?_ _) | (with_reducible refine Below.put ?_ ?_ _) | (with_reducible refine Below.next ?_ (by with_reducible assumption)) | (with_reducible exact Nat.le_refl _) | (with_reducible refine Below.size' ?_) | omega))); clear hst4))
      | (go_at_call 19; ((with_reducible refine (HCK.out _ (by repeat' (first | (with_reducible exact Below.refl _ _) | (with_reducible assumption) | (with_reducible refine Below.drew ?_) | (with_reducible refine Below.more ?_ _) | (with_reducible refine Below.put ?_ ?_ _) | (with_reducible refine Below.next ?_ (by with_reducible assumption)) | (with_reducible exact Nat.le_refl _) | (with_reducible refine Below.size' ?_) | omega))).mono ?_); rw [HOK.out]; rintro e w3 ⟨rfl, hb3⟩; have HX3 := Lib.hid (HBX.out w3 (by repeat' (first | (with_reducible exact Below.refl _ _) | (with_reducible assumption) | (with_reducible refine Below.drew ?_) | (with_reducible refine Below.more ?_ _) | (with_reducible refine Below.put ?_ ?_ _) | (with_reducible refine Below.next ?_ (by with_reducible assumption)) | (with_reducible exact Nat.le_refl _) | (with_reducible refine Below.size' ?_) | omega)))))
      | (refine wpList_load_as laySt rfl (.tmp 6) rfl w.heap.size 0 rfl ⟨term, stamp, next, ⟨a1, n1, c1⟩, ⟨some ⟨b, o, none⟩, s.leas.length, c2⟩, ⟨a3, n3, c3⟩, ⟨a4, n4, c4⟩⟩ (.agg #[.int .i64 term, .int .i64 stamp, .int .i64 next, .slice a1 n1 c1, .slice (some ⟨b, o, none⟩) s.leas.length c2, .slice a3 n3 c3, .slice a4 n4 c4]) rfl (HBX.out _ (by repeat' (first | (with_reducible exact Below.refl _ _) | (with_reducible assumption) | (with_reducible refine Below.drew ?_) | (with_reducible refine Below.more ?_ _) | (with_reducible refine Below.put ?_ ?_ _) | (with_reducible refine Below.next ?_ (by with_reducible assumption)) | (with_reducible exact Nat.le_refl _) | (with_reducible refine Below.size' ?_) | omega))).1.range ?_))
  have S20 : StAt w20 w3.heap.size ⟨t4, s4, n4, ⟨x1, m1, y1⟩, ⟨x2, m2, y2⟩, ⟨x3, m3, y3⟩, ⟨x4, m4, y4⟩⟩ s := HST7.out.is.mid (Mid.wrote (Mid.refl w3.heap.size w7.heap.size w7) HW20.out (.inl (by omega))) (Nat.le_refl _) (Nat.le_refl _)
  have b20 : Below w.heap.size w w20 := HB7.out.trans (HW20.out.below _ (by omega))
  refine door_only (report1_d w3.heap.size (w.heap.size + 1 + 1 + 1 + 1) s .returning w20 (sweep_st s _ w3.heap.size (w.heap.size + 1 + 1 + 1 + 1) w20 HX20.out S20 (by omega) (by omega) HFIT.out HL.out.1 HL.out.2.1)) (by simp [go_sem]) ?_
  intro w' r9 hbxr hstr hor
  exact report_outN (g := (w.heap.size + 1 + 1 + 1 + 1)) (r9 := r9) (e := 2) rfl rfl hbxr (hstr.mono (by omega)) rfl (b20.trans (hor.below (by omega) (by omega)))
end Go.Proofs.Ytoofmofaimdhpaa
