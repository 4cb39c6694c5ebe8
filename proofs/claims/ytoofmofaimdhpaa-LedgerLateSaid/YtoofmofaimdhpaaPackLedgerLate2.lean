import Derived.Test.YtoofmofaimdhpaaRefCheckSt
import Derived.Test.YtoofmofaimdhpaaPackA4
import Derived.Test.YtoofmofaimdhpaaLedWakes
import Derived.Test.YtoofmofaimdhpaaPackLedgerLate1
import Derived.Deep.Cut
import Derived.Deep.RegionHeld3
import Derived.StillTailTactics
import Derived.Test.YtoofmofaimdhpaaLedReport
import Derived.Test.YtoofmofaimdhpaaLedCredit
set_option linter.unusedVariables false
set_option linter.unusedSimpArgs false
namespace Go.Proofs.Ytoofmofaimdhpaa
open Go.ChangeShapes Go.WideShapes Go.ChangeAt Go.RowKit
set_option maxRecDepth 100000

set_option maxHeartbeats 4000000 in
theorem reffind_st (s : St) (r : Raw) (B : Nat) (id : Int) (w : World) (h : StAt w B r s) (hl1 : s.tens.length ≤ 900) (hl2 : s.leas.length ≤ 900) :
    Calls Try.prog 15 #[r.agg, .int .i64 id] w (RetLF w (findSt s id)) := by
  have HCK := Lib.hid (fun w' (hb : Below w.heap.size w w') => refcheck_st s r B w' (h.below hb) hl1 hl2)
  have HN := Lib.hid (findSt_no (s := s) (id := id))
  have HB := Lib.hid (findSt_bad (s := s) (id := id))
  have HY := Lib.hid (fun x h1 h2 => findSt_yes (s := s) (id := id) (x := x) h1 h2)
  generalize findSt s id = res at HN HB HY ⊢
  have hr := h.lea.row
  have hn2 : s.leas.length = r.lea.n := h.lea.len
  obtain ⟨term, stamp, next, ⟨a1, n1, c1⟩, ⟨a2, n2, c2⟩, ⟨a3, n3, c3⟩, ⟨a4, n4, c4⟩⟩ := r
  simp only at hn2 hr
  subst hn2
  clear h
  have HBX : Hid (∀ w', Below (w.heap.size + 2) ((w.alloc (.cells #[.int .i64 term, .int .i64 stamp, .int .i64 next, .slice a1 n1 c1, .slice a2 s.leas.length c2, .slice a3 n3 c3, .slice a4 n4 c4] 27)).alloc (.cells #[.int .i64 0, .int .i64 0, .int .i64 0, .int .i64 0, .int .i64 0, .int .i64 0, .int .i64 0] 38)) w' →
      Box w' w.heap.size (Raw.cells ⟨term, stamp, next, ⟨a1, n1, c1⟩, ⟨a2, s.leas.length, c2⟩, ⟨a3, n3, c3⟩, ⟨a4, n4, c4⟩⟩) ∧ Box w' (w.heap.size + 1) (Lease.cells zeroLea)) := fun w' hb0 => by
    have e : ((w.alloc (.cells #[.int .i64 term, .int .i64 stamp, .int .i64 next, .slice a1 n1 c1, .slice a2 s.leas.length c2, .slice a3 n3 c3, .slice a4 n4 c4] 27)).alloc (.cells #[.int .i64 0, .int .i64 0, .int .i64 0, .int .i64 0, .int .i64 0, .int .i64 0, .int .i64 0] 38)).heap.size = w.heap.size + 2 := by simp
    rw [← e] at hb0
    exact ⟨Box.of_alloc (mid_alloc' hb0), Box.of_alloc1 hb0⟩
  have hbw : Below w.heap.size w ((w.alloc (.cells #[.int .i64 term, .int .i64 stamp, .int .i64 next, .slice a1 n1 c1, .slice a2 s.leas.length c2, .slice a3 n3 c3, .slice a4 n4 c4] 27)).alloc (.cells #[.int .i64 0, .int .i64 0, .int .i64 0, .int .i64 0, .int .i64 0, .int .i64 0, .int .i64 0] 38)) := (by repeat' (first | (with_reducible exact Below.refl _ _) | (with_reducible assumption) | (with_reducible refine Below.drew ?_) | (with_reducible refine Below.more ?_ _) | (with_reducible refine Below.put ?_ ?_ _) | (with_reducible refine Below.next ?_ (by with_reducible assumption)) | (with_reducible exact Nat.le_refl _) | (with_reducible refine Below.size' ?_) | omega))
  have BW := Lib.hid hbw
  clear hbw
  go_enter Try.func15, Try.ntmps15
  go_wp2
  go_loopw [6] (fun i wr => ∃ k : Nat, k ≤ s.leas.length ∧ i = .int .i64 k ∧ Hid (∀ j (h : j < s.leas.length), j < k → (s.leas[j].id == id) = false) ∧ Below (w.heap.size + 2) ((w.alloc (.cells #[.int .i64 term, .int .i64 stamp, .int .i64 next, .slice a1 n1 c1, .slice a2 s.leas.length c2, .slice a3 n3 c3, .slice a4 n4 c4] 27)).alloc (.cells #[.int .i64 0, .int .i64 0, .int .i64 0, .int .i64 0, .int .i64 0, .int .i64 0, .int .i64 0] 38)) wr) (fun i _ => s.leas.length - (intOf i).toNat)
  case atStart => exact ⟨0, by omega, rfl, (fun j _ hj => by omega), Below.refl _ _⟩
  case round =>
    obtain ⟨k, hk, rfl, hno, hb0⟩ := hrel
    have hb : Below w.heap.size w wr := BW.out.trans (hb0.mono (by omega))
    have HB0 := Lib.hid hb0
    have hsz := hb0.size
    simp only [World.size_alloc] at hsz
    have HXR := Lib.hid (HBX.out wr hb0)
    have k4 := HXR.out.1.cell (j := 4) rfl
    by_cases hlt : k < s.leas.length
    · obtain ⟨b, o, ha, hcs⟩ := LRow.range hr hlt
      subst ha
      have HRG := Lib.hid (fun w' hb => hcs w' hb)
      have HKL := Lib.hid hlt
      cases hok : stOk s with
      | false =>
        have HOK := Lib.hid hok
        have HO := Lib.hid (HB.out hok)
        clear hok hcs
        go_wp2_with (first
          | (refine wpList_strip (by rfl) ?_; refine wpList_load_as laySt rfl (.tmp 2) rfl w.heap.size 0 rfl ⟨term, stamp, next, ⟨a1, n1, c1⟩, ⟨some ⟨b, o, none⟩, s.leas.length, c2⟩, ⟨a3, n3, c3⟩, ⟨a4, n4, c4⟩⟩ (.agg #[.int .i64 term, .int .i64 stamp, .int .i64 next, .slice a1 n1 c1, .slice (some ⟨b, o, none⟩) s.leas.length c2, .slice a3 n3 c3, .slice a4 n4 c4]) rfl HXR.out.1.range ?_)
          | (go_at_call 16; ((with_reducible refine (HCK.out wr hb).mono ?_); rw [HOK.out]; rintro e w3 ⟨rfl, hb3⟩; have HZ3 := Lib.hid (HXR.out.2.next (by simp) hb3); have q3 := hb3.size))
          | (refine wpList_store_whole layLea rfl (.tmp 4) (.tmp 31) rfl (w.heap.size + 1) zeroLea _ rfl rfl HZ3.out rfl ?_; intro w4 hbx4 hw4; have HX4 := Lib.hid hbx4; have HW4 := Lib.hid hw4; clear hbx4 hw4))
        have b4 : Below w.heap.size w w4 := (hb.trans (hb3.mono (by omega))).trans (HW4.out.below _ (by omega))
        obtain ⟨j0, j1, j2, j3, j4, j5, j6⟩ := cellsLea0 HX4.out.range
        refine bodyPost_ret (v := .tuple #[Lease.agg zeroLea, .bool false]) (by simp [results, Try.results15, go_sem, j0, j1, j2, j3, j4, j5, j6]) rfl ?_
        exact ⟨by rw [HO.out], b4⟩
      | true =>
        have HOK := Lib.hid hok
        have HYY := Lib.hid (fun x h2 => HY.out x hok h2)
        have HFI : Hid ((s.leas[k].id == id) = true → s.leas.find? (fun x => x.id == id) = some s.leas[k]) := fun h => List.find?_eq_some_iff_getElem.2 ⟨h, k, HKL.out, rfl, fun j hj => by rw [hno.out j (by omega) hj]; rfl⟩
        have HNO : Hid ((s.leas[k].id == id) = false → ∀ j (h : j < s.leas.length), j < k + 1 → (s.leas[j].id == id) = false) := fun h1 j h hj => by
          rcases Nat.lt_succ_iff_lt_or_eq.1 hj with h2 | rfl
          · exact hno.out j h h2
          · exact h1
        clear hok hcs
        generalize s.leas[k] = x at HRG HFI HNO
        obtain ⟨v0, v1, v2, v3, v4, v5, v6⟩ := x
        by_cases he : v0 = id
        · have HO := Lib.hid (HYY.out _ (HFI.out (by simpa using he)))
          go_wp2_with (first
            | (refine wpList_strip (by rfl) ?_; refine wpList_load_as laySt rfl (.tmp 2) rfl w.heap.size 0 rfl ⟨term, stamp, next, ⟨a1, n1, c1⟩, ⟨some ⟨b, o, none⟩, s.leas.length, c2⟩, ⟨a3, n3, c3⟩, ⟨a4, n4, c4⟩⟩ (.agg #[.int .i64 term, .int .i64 stamp, .int .i64 next, .slice a1 n1 c1, .slice (some ⟨b, o, none⟩) s.leas.length c2, .slice a3 n3 c3, .slice a4 n4 c4]) rfl HXR.out.1.range ?_)
            | (go_at_call 16; ((with_reducible refine (HCK.out wr hb).mono ?_); rw [HOK.out]; rintro e w3 ⟨rfl, hb3⟩; have HZ3 := Lib.hid (HXR.out.2.next (by simp) hb3); have q3 := hb3.size; have k4' := (HXR.out.1.next (by simp) hb3).cell (j := 4) rfl; have HR3 := Lib.hid (HRG.out w3 (hb.trans (hb3.mono (by omega)))); have hx0 : w3.cell? ⟨b, o + k * 7, none⟩ = some (.int .i64 v0) := (cellsLea HR3.out).1; clear k4))
            | (refine wpList_load_as layLea rfl (.tmp 29) rfl b (o + k * 7) rfl ⟨v0, v1, v2, v3, v4, v5, v6⟩ (.agg #[.int .i64 v0, .int .i64 v1, .int .i64 v2, .int .i64 v3, .int .i64 v4, .int .i64 v5, .int .i64 v6]) rfl HR3.out ?_)
            | (refine wpList_store_whole layLea rfl (.tmp 4) (.tmp 30) rfl (w.heap.size + 1) ⟨v0, v1, v2, v3, v4, v5, v6⟩ _ rfl rfl HZ3.out rfl ?_; intro w4 hbx4 hw4; have HX4 := Lib.hid hbx4; have HW4 := Lib.hid hw4; clear hbx4 hw4))
          have b4 : Below w.heap.size w w4 := (hb.trans (hb3.mono (by omega))).trans (HW4.out.below _ (by omega))
          obtain ⟨j0, j1, j2, j3, j4, j5, j6⟩ := cellsLea0 HX4.out.range
          refine bodyPost_ret (v := .tuple #[Lease.agg ⟨v0, v1, v2, v3, v4, v5, v6⟩, .bool true]) (by simp [results, Try.results15, go_sem, j0, j1, j2, j3, j4, j5, j6]) rfl ?_
          exact ⟨by rw [HO.out], b4⟩
        · have HNN := Lib.hid (HNO.out (by simpa using he))
          go_wp2_with (first
            | (refine wpList_strip (by rfl) ?_; refine wpList_load_as laySt rfl (.tmp 2) rfl w.heap.size 0 rfl ⟨term, stamp, next, ⟨a1, n1, c1⟩, ⟨some ⟨b, o, none⟩, s.leas.length, c2⟩, ⟨a3, n3, c3⟩, ⟨a4, n4, c4⟩⟩ (.agg #[.int .i64 term, .int .i64 stamp, .int .i64 next, .slice a1 n1 c1, .slice (some ⟨b, o, none⟩) s.leas.length c2, .slice a3 n3 c3, .slice a4 n4 c4]) rfl HXR.out.1.range ?_)
            | (go_at_call 16; ((with_reducible refine (HCK.out wr hb).mono ?_); rw [HOK.out]; rintro e w3 ⟨rfl, hb3⟩; have q3 := hb3.size; have k4' := (HXR.out.1.next (by simp) hb3).cell (j := 4) rfl; have HR3 := Lib.hid (HRG.out w3 (hb.trans (hb3.mono (by omega)))); have hx0 : w3.cell? ⟨b, o + k * 7, none⟩ = some (.int .i64 v0) := (cellsLea HR3.out).1; have HB9 := Lib.hid (HB0.out.trans (hb3.mono (by omega))); clear k4)))
          go_roundw
          case rel => exact ⟨k + 1, by omega, by go_num, HNN.out, HB9.out⟩
          case measure => simp [intOf]; omega
    · obtain rfl : k = s.leas.length := by omega
      have HO := Lib.hid (HN.out (List.find?_eq_none.2 fun x hx => by
        obtain ⟨j, hj, rfl⟩ := List.mem_iff_getElem.1 hx
        rw [hno.out j hj hj]; simp))
      go_wp2_with (refine wpList_store_whole layLea rfl (.tmp 4) (.tmp 31) rfl (w.heap.size + 1) zeroLea _ rfl rfl HXR.out.2 rfl ?_; intro w4 hbx4 hw4; have HX4 := Lib.hid hbx4; have HW4 := Lib.hid hw4; clear hbx4 hw4)
      have b4 : Below w.heap.size w w4 := hb.trans (HW4.out.below _ (by omega))
      obtain ⟨j0, j1, j2, j3, j4, j5, j6⟩ := cellsLea0 HX4.out.range
      refine bodyPost_ret (v := .tuple #[Lease.agg zeroLea, .bool false]) (by simp [results, Try.results15, go_sem, j0, j1, j2, j3, j4, j5, j6]) rfl ?_
      exact ⟨by rw [HO.out], b4⟩
end Go.Proofs.Ytoofmofaimdhpaa

/- LedgerLate where there is nothing to be done: the walk. -/
namespace Go.Proofs.Ytoofmofaimdhpaa
open Go.ChangeShapes Go.WideShapes Go.ChangeAt Go.RowKit
set_option maxRecDepth 100000

set_option maxHeartbeats 16000000 in
theorem llate_great (s : St) (r : Raw) (le : Int) (za : Option Addr) (zs : List Int) (zn zc : Nat) (w : World) (h : StAt w 0 r s) (hzn : zs.length = zn) (hz : Row w za (zs.map (Value.int .i64))) (hg : greatB s = true) :
    Calls Try.prog 6 #[r.agg, .int .i64 le, .slice za zn zc] w fun e w' => e = .returned (.bool true) ∧ Below w.heap.size w w' := by
  have HG := Lib.hid (fun w' (hb : Below w.heap.size w w') => great_st s r 0 w' (h.below hb))
  have HGG := Lib.hid hg
  obtain ⟨term, stamp, next, ⟨a1, n1, c1⟩, ⟨a2, n2, c2⟩, ⟨a3, n3, c3⟩, ⟨a4, n4, c4⟩⟩ := r
  have HBX : Hid (∀ w', Below (w.alloc (.cells #[.int .i64 term, .int .i64 stamp, .int .i64 next, .slice a1 n1 c1, .slice a2 n2 c2, .slice a3 n3 c3, .slice a4 n4 c4] 27)).heap.size (w.alloc (.cells #[.int .i64 term, .int .i64 stamp, .int .i64 next, .slice a1 n1 c1, .slice a2 n2 c2, .slice a3 n3 c3, .slice a4 n4 c4] 27)) w' → Box w' w.heap.size (Raw.cells ⟨term, stamp, next, ⟨a1, n1, c1⟩, ⟨a2, n2, c2⟩, ⟨a3, n3, c3⟩, ⟨a4, n4, c4⟩⟩)) := fun w' hb => Box.of_alloc hb
  clear h hz hg
  go_enter Try.func6, Try.ntmps6
  go_wp2_with (first
      | (go_at_call 10; ((with_reducible refine (wakes_true _).mono ?_); rintro e w9 ⟨rfl, hb9⟩; have HB9 := Lib.hid (below_on HB2.out hb9)))
      | (go_at_call 9; ((with_reducible refine (HG.out _ (by repeat' (first | (with_reducible exact Below.refl _ _) | (with_reducible assumption) | (with_reducible refine Below.drew ?_) | (with_reducible refine Below.more ?_ _) | (with_reducible refine Below.put ?_ ?_ _) | (with_reducible refine Below.next ?_ (by with_reducible assumption)) | (with_reducible exact Nat.le_refl _) | (with_reducible refine Below.size' ?_) | omega))).mono ?_); rw [HGG.out]; rintro e w2 ⟨rfl, hb2⟩; have hb2' : Below w.heap.size w w2 := (by repeat' (first | (with_reducible exact Below.refl _ _) | (with_reducible assumption) | (with_reducible refine Below.drew ?_) | (with_reducible refine Below.more ?_ _) | (with_reducible refine Below.put ?_ ?_ _) | (with_reducible refine Below.next ?_ (by with_reducible assumption)) | (with_reducible exact Nat.le_refl _) | (with_reducible refine Below.size' ?_) | omega)); have HB2 := Lib.hid hb2'; have HX2 := Lib.hid (HBX.out w2 (by repeat' (first | (with_reducible exact Below.refl _ _) | (with_reducible assumption) | (with_reducible refine Below.drew ?_) | (with_reducible refine Below.more ?_ _) | (with_reducible refine Below.put ?_ ?_ _) | (with_reducible refine Below.next ?_ (by with_reducible assumption)) | (with_reducible exact Nat.le_refl _) | (with_reducible refine Below.size' ?_) | omega))); clear hb2'))
      | (refine wpList_load_as laySt rfl (.tmp 3) rfl w.heap.size 0 rfl ⟨term, stamp, next, ⟨a1, n1, c1⟩, ⟨a2, n2, c2⟩, ⟨a3, n3, c3⟩, ⟨a4, n4, c4⟩⟩ (.agg #[.int .i64 term, .int .i64 stamp, .int .i64 next, .slice a1 n1 c1, .slice a2 n2 c2, .slice a3 n3 c3, .slice a4 n4 c4]) rfl (HBX.out _ (by repeat' (first | (with_reducible exact Below.refl _ _) | (with_reducible assumption) | (with_reducible refine Below.drew ?_) | (with_reducible refine Below.more ?_ _) | (with_reducible refine Below.put ?_ ?_ _) | (with_reducible refine Below.next ?_ (by with_reducible assumption)) | (with_reducible exact Nat.le_refl _) | (with_reducible refine Below.size' ?_) | omega))).range ?_))
  go_returns
  exact ⟨rfl, HB9.out⟩
set_option maxHeartbeats 16000000 in
theorem llate_long (s : St) (r : Raw) (le : Int) (za : Option Addr) (zs : List Int) (zn zc : Nat) (w : World) (h : StAt w 0 r s) (hzn : zs.length = zn) (hz : Row w za (zs.map (Value.int .i64))) (hg : greatB s = false) (hl : 30 < zn) :
    Calls Try.prog 6 #[r.agg, .int .i64 le, .slice za zn zc] w fun e w' => e = .returned (.bool true) ∧ Below w.heap.size w w' := by
  have HG := Lib.hid (fun w' (hb : Below w.heap.size w w') => great_st s r 0 w' (h.below hb))
  have HGG := Lib.hid hg
  have d30 : decide ((30 : Int) < (zn : Int)) = true := decide_eq_true (by omega)
  obtain ⟨term, stamp, next, ⟨a1, n1, c1⟩, ⟨a2, n2, c2⟩, ⟨a3, n3, c3⟩, ⟨a4, n4, c4⟩⟩ := r
  have HBX : Hid (∀ w', Below (w.alloc (.cells #[.int .i64 term, .int .i64 stamp, .int .i64 next, .slice a1 n1 c1, .slice a2 n2 c2, .slice a3 n3 c3, .slice a4 n4 c4] 27)).heap.size (w.alloc (.cells #[.int .i64 term, .int .i64 stamp, .int .i64 next, .slice a1 n1 c1, .slice a2 n2 c2, .slice a3 n3 c3, .slice a4 n4 c4] 27)) w' → Box w' w.heap.size (Raw.cells ⟨term, stamp, next, ⟨a1, n1, c1⟩, ⟨a2, n2, c2⟩, ⟨a3, n3, c3⟩, ⟨a4, n4, c4⟩⟩)) := fun w' hb => Box.of_alloc hb
  clear h hz hg
  go_enter Try.func6, Try.ntmps6
  go_wp2_with (first
      | (go_at_call 10; ((with_reducible refine (wakes_true _).mono ?_); rintro e w9 ⟨rfl, hb9⟩; have HB9 := Lib.hid (below_on HB2.out hb9)))
      | (go_at_call 9; ((with_reducible refine (HG.out _ (by repeat' (first | (with_reducible exact Below.refl _ _) | (with_reducible assumption) | (with_reducible refine Below.drew ?_) | (with_reducible refine Below.more ?_ _) | (with_reducible refine Below.put ?_ ?_ _) | (with_reducible refine Below.next ?_ (by with_reducible assumption)) | (with_reducible exact Nat.le_refl _) | (with_reducible refine Below.size' ?_) | omega))).mono ?_); rw [HGG.out]; rintro e w2 ⟨rfl, hb2⟩; have hb2' : Below w.heap.size w w2 := (by repeat' (first | (with_reducible exact Below.refl _ _) | (with_reducible assumption) | (with_reducible refine Below.drew ?_) | (with_reducible refine Below.more ?_ _) | (with_reducible refine Below.put ?_ ?_ _) | (with_reducible refine Below.next ?_ (by with_reducible assumption)) | (with_reducible exact Nat.le_refl _) | (with_reducible refine Below.size' ?_) | omega)); have HB2 := Lib.hid hb2'; have HX2 := Lib.hid (HBX.out w2 (by repeat' (first | (with_reducible exact Below.refl _ _) | (with_reducible assumption) | (with_reducible refine Below.drew ?_) | (with_reducible refine Below.more ?_ _) | (with_reducible refine Below.put ?_ ?_ _) | (with_reducible refine Below.next ?_ (by with_reducible assumption)) | (with_reducible exact Nat.le_refl _) | (with_reducible refine Below.size' ?_) | omega))); clear hb2'))
      | (refine wpList_load_as laySt rfl (.tmp 3) rfl w.heap.size 0 rfl ⟨term, stamp, next, ⟨a1, n1, c1⟩, ⟨a2, n2, c2⟩, ⟨a3, n3, c3⟩, ⟨a4, n4, c4⟩⟩ (.agg #[.int .i64 term, .int .i64 stamp, .int .i64 next, .slice a1 n1 c1, .slice a2 n2 c2, .slice a3 n3 c3, .slice a4 n4 c4]) rfl (HBX.out _ (by repeat' (first | (with_reducible exact Below.refl _ _) | (with_reducible assumption) | (with_reducible refine Below.drew ?_) | (with_reducible refine Below.more ?_ _) | (with_reducible refine Below.put ?_ ?_ _) | (with_reducible refine Below.next ?_ (by with_reducible assumption)) | (with_reducible exact Nat.le_refl _) | (with_reducible refine Below.size' ?_) | omega))).range ?_))
  go_returns
  exact ⟨rfl, HB9.out⟩
set_option maxHeartbeats 16000000 in
theorem llate_bad (s : St) (r : Raw) (le : Int) (za : Option Addr) (zs : List Int) (zn zc : Nat) (w : World) (h : StAt w 0 r s) (hzn : zs.length = zn) (hz : Row w za (zs.map (Value.int .i64))) (hg : greatB s = false) (hl : zn ≤ 30) (hok : stOk s = false) :
    Calls Try.prog 6 #[r.agg, .int .i64 le, .slice za zn zc] w fun e w' => e = .returned (.bool true) ∧ Below w.heap.size w w' := by
  have hsz : s.tens.length ≤ 60 ∧ s.leas.length ≤ 100 ∧ s.sess.length ≤ 60 ∧ s.dsks.length ≤ 60 := by
    have := of_decide_eq_false hg
    omega
  obtain ⟨z1, z2, z3, z4⟩ := hsz
  have HG := Lib.hid (fun w' (hb : Below w.heap.size w w') => great_st s r 0 w' (h.below hb))
  have HGG := Lib.hid hg
  have HRC := Lib.hid (fun w' (hb : Below w.heap.size w w') => refcheck_st s r 0 w' (h.below hb) (by omega) (by omega))
  have HOK := Lib.hid hok
  have d30 : decide ((30 : Int) < (zn : Int)) = false := decide_eq_false (by omega)
  obtain ⟨term, stamp, next, ⟨a1, n1, c1⟩, ⟨a2, n2, c2⟩, ⟨a3, n3, c3⟩, ⟨a4, n4, c4⟩⟩ := r
  have HBX : Hid (∀ w', Below (w.alloc (.cells #[.int .i64 term, .int .i64 stamp, .int .i64 next, .slice a1 n1 c1, .slice a2 n2 c2, .slice a3 n3 c3, .slice a4 n4 c4] 27)).heap.size (w.alloc (.cells #[.int .i64 term, .int .i64 stamp, .int .i64 next, .slice a1 n1 c1, .slice a2 n2 c2, .slice a3 n3 c3, .slice a4 n4 c4] 27)) w' → Box w' w.heap.size (Raw.cells ⟨term, stamp, next, ⟨a1, n1, c1⟩, ⟨a2, n2, c2⟩, ⟨a3, n3, c3⟩, ⟨a4, n4, c4⟩⟩)) := fun w' hb => Box.of_alloc hb
  clear h hz hg hok z1 z2 z3 z4
  go_enter Try.func6, Try.ntmps6
  go_wp2_with (first
      | (go_at_call 10; ((with_reducible refine (wakes_true _).mono ?_); rintro e w9 ⟨rfl, hb9⟩; have HB9 := Lib.hid (below_on HB3.out hb9)))
      | (go_at_call 16; ((with_reducible refine (HRC.out w2 HB2.out).mono ?_); rw [HOK.out]; rintro e w3 ⟨rfl, hb3⟩; have HB3 := Lib.hid (below_on HB2.out hb3); have HX3 := Lib.hid (HX2.out.next (show 0 < 7 by decide) hb3)))
      | (have hgq := HB2; clear hgq; refine wpList_strip (by rfl) ?_; refine wpList_load_as laySt rfl (.tmp 3) rfl w.heap.size 0 rfl ⟨term, stamp, next, ⟨a1, n1, c1⟩, ⟨a2, n2, c2⟩, ⟨a3, n3, c3⟩, ⟨a4, n4, c4⟩⟩ (.agg #[.int .i64 term, .int .i64 stamp, .int .i64 next, .slice a1 n1 c1, .slice a2 n2 c2, .slice a3 n3 c3, .slice a4 n4 c4]) rfl HX2.out.range ?_)
      | (go_at_call 9; ((with_reducible refine (HG.out _ (by repeat' (first | (with_reducible exact Below.refl _ _) | (with_reducible assumption) | (with_reducible refine Below.drew ?_) | (with_reducible refine Below.more ?_ _) | (with_reducible refine Below.put ?_ ?_ _) | (with_reducible refine Below.next ?_ (by with_reducible assumption)) | (with_reducible exact Nat.le_refl _) | (with_reducible refine Below.size' ?_) | omega))).mono ?_); rw [HGG.out]; rintro e w2 ⟨rfl, hb2⟩; have hb2' : Below w.heap.size w w2 := (by repeat' (first | (with_reducible exact Below.refl _ _) | (with_reducible assumption) | (with_reducible refine Below.drew ?_) | (with_reducible refine Below.more ?_ _) | (with_reducible refine Below.put ?_ ?_ _) | (with_reducible refine Below.next ?_ (by with_reducible assumption)) | (with_reducible exact Nat.le_refl _) | (with_reducible refine Below.size' ?_) | omega)); have HB2 := Lib.hid hb2'; have HX2 := Lib.hid (HBX.out w2 (by repeat' (first | (with_reducible exact Below.refl _ _) | (with_reducible assumption) | (with_reducible refine Below.drew ?_) | (with_reducible refine Below.more ?_ _) | (with_reducible refine Below.put ?_ ?_ _) | (with_reducible refine Below.next ?_ (by with_reducible assumption)) | (with_reducible exact Nat.le_refl _) | (with_reducible refine Below.size' ?_) | omega))); clear hb2'))
      | (refine wpList_load_as laySt rfl (.tmp 3) rfl w.heap.size 0 rfl ⟨term, stamp, next, ⟨a1, n1, c1⟩, ⟨a2, n2, c2⟩, ⟨a3, n3, c3⟩, ⟨a4, n4, c4⟩⟩ (.agg #[.int .i64 term, .int .i64 stamp, .int .i64 next, .slice a1 n1 c1, .slice a2 n2 c2, .slice a3 n3 c3, .slice a4 n4 c4]) rfl (HBX.out _ (by repeat' (first | (with_reducible exact Below.refl _ _) | (with_reducible assumption) | (with_reducible refine Below.drew ?_) | (with_reducible refine Below.more ?_ _) | (with_reducible refine Below.put ?_ ?_ _) | (with_reducible refine Below.next ?_ (by with_reducible assumption)) | (with_reducible exact Nat.le_refl _) | (with_reducible refine Below.size' ?_) | omega))).range ?_))
  go_returns
  exact ⟨rfl, HB9.out⟩
set_option maxHeartbeats 16000000 in
theorem llate_none (s : St) (r : Raw) (le : Int) (za : Option Addr) (zs : List Int) (zn zc : Nat) (w : World) (h : StAt w 0 r s) (hzn : zs.length = zn) (hz : Row w za (zs.map (Value.int .i64))) (hg : greatB s = false) (hl : zn ≤ 30) (hok : stOk s = true) (i0 i1 i2 i3 i4 i5 i6 : Int) (hfs : findSt s le = (⟨i0, i1, i2, i3, i4, i5, i6⟩, false)) :
    Calls Try.prog 6 #[r.agg, .int .i64 le, .slice za zn zc] w fun e w' => e = .returned (.bool true) ∧ Below w.heap.size w w' := by
  have hsz : s.tens.length ≤ 60 ∧ s.leas.length ≤ 100 ∧ s.sess.length ≤ 60 ∧ s.dsks.length ≤ 60 := by
    have := of_decide_eq_false hg
    omega
  obtain ⟨z1, z2, z3, z4⟩ := hsz
  have HG := Lib.hid (fun w' (hb : Below w.heap.size w w') => great_st s r 0 w' (h.below hb))
  have HGG := Lib.hid hg
  have HRC := Lib.hid (fun w' (hb : Below w.heap.size w w') => refcheck_st s r 0 w' (h.below hb) (by omega) (by omega))
  have HOK := Lib.hid hok
  have HRF := Lib.hid (fun w' (hb : Below w.heap.size w w') => reffind_st s r 0 le w' (h.below hb) (by omega) (by omega))
  have HFS := Lib.hid hfs
  have d30 : decide ((30 : Int) < (zn : Int)) = false := decide_eq_false (by omega)
  obtain ⟨term, stamp, next, ⟨a1, n1, c1⟩, ⟨a2, n2, c2⟩, ⟨a3, n3, c3⟩, ⟨a4, n4, c4⟩⟩ := r
  have HBX : Hid (∀ w', Below (w.alloc (.cells #[.int .i64 term, .int .i64 stamp, .int .i64 next, .slice a1 n1 c1, .slice a2 n2 c2, .slice a3 n3 c3, .slice a4 n4 c4] 27)).heap.size (w.alloc (.cells #[.int .i64 term, .int .i64 stamp, .int .i64 next, .slice a1 n1 c1, .slice a2 n2 c2, .slice a3 n3 c3, .slice a4 n4 c4] 27)) w' → Box w' w.heap.size (Raw.cells ⟨term, stamp, next, ⟨a1, n1, c1⟩, ⟨a2, n2, c2⟩, ⟨a3, n3, c3⟩, ⟨a4, n4, c4⟩⟩)) := fun w' hb => Box.of_alloc hb
  clear h hz hg hok z1 z2 z3 z4 hfs
  go_enter Try.func6, Try.ntmps6
  go_wp2_with (first
      | (go_at_call 10; ((with_reducible refine (wakes_true _).mono ?_); rintro e w9 ⟨rfl, hb9⟩; have HB9 := Lib.hid (below_on HB5.out hb9)))
      | (have hgq := HB4; clear hgq; refine wpList_store_box layLea rfl (.tmp 7) (.tmp 31) rfl ⟨i0, i1, i2, i3, i4, i5, i6⟩ rfl rfl rfl ?_; intro w5 hw5 ht5 hb5 hs5; have HL5 : Hid (Box w5 w4.heap.size (Lease.cells ⟨i0, i1, i2, i3, i4, i5, i6⟩)) := ⟨hw5, ht5⟩; have HX5 := Lib.hid (HX4.out.next (show 0 < 7 by decide) hb5); have HB5 := Lib.hid (below_on HB4.out hb5); have p5 := HL5.out.cell (j := 5) rfl; have p6 := HL5.out.cell (j := 6) rfl; clear hw5 ht5 hs5)
      | (go_at_call 15; ((with_reducible refine (HRF.out w3 HB3.out).mono ?_); rw [HFS.out]; rintro e w4 ⟨rfl, hb4⟩; have HB4 := Lib.hid (below_on HB3.out hb4); have HX4 := Lib.hid (HX3.out.next (show 0 < 7 by decide) hb4)))
      | (have hgq := HB3; clear hgq; refine wpList_load_as laySt rfl (.tmp 3) rfl w.heap.size 0 rfl ⟨term, stamp, next, ⟨a1, n1, c1⟩, ⟨a2, n2, c2⟩, ⟨a3, n3, c3⟩, ⟨a4, n4, c4⟩⟩ (.agg #[.int .i64 term, .int .i64 stamp, .int .i64 next, .slice a1 n1 c1, .slice a2 n2 c2, .slice a3 n3 c3, .slice a4 n4 c4]) rfl HX3.out.range ?_)
      | (go_at_call 16; ((with_reducible refine (HRC.out w2 HB2.out).mono ?_); rw [HOK.out]; rintro e w3 ⟨rfl, hb3⟩; have HB3 := Lib.hid (below_on HB2.out hb3); have HX3 := Lib.hid (HX2.out.next (show 0 < 7 by decide) hb3)))
      | (have hgq := HB2; clear hgq; refine wpList_strip (by rfl) ?_; refine wpList_load_as laySt rfl (.tmp 3) rfl w.heap.size 0 rfl ⟨term, stamp, next, ⟨a1, n1, c1⟩, ⟨a2, n2, c2⟩, ⟨a3, n3, c3⟩, ⟨a4, n4, c4⟩⟩ (.agg #[.int .i64 term, .int .i64 stamp, .int .i64 next, .slice a1 n1 c1, .slice a2 n2 c2, .slice a3 n3 c3, .slice a4 n4 c4]) rfl HX2.out.range ?_)
      | (go_at_call 9; ((with_reducible refine (HG.out _ (by repeat' (first | (with_reducible exact Below.refl _ _) | (with_reducible assumption) | (with_reducible refine Below.drew ?_) | (with_reducible refine Below.more ?_ _) | (with_reducible refine Below.put ?_ ?_ _) | (with_reducible refine Below.next ?_ (by with_reducible assumption)) | (with_reducible exact Nat.le_refl _) | (with_reducible refine Below.size' ?_) | omega))).mono ?_); rw [HGG.out]; rintro e w2 ⟨rfl, hb2⟩; have hb2' : Below w.heap.size w w2 := (by repeat' (first | (with_reducible exact Below.refl _ _) | (with_reducible assumption) | (with_reducible refine Below.drew ?_) | (with_reducible refine Below.more ?_ _) | (with_reducible refine Below.put ?_ ?_ _) | (with_reducible refine Below.next ?_ (by with_reducible assumption)) | (with_reducible exact Nat.le_refl _) | (with_reducible refine Below.size' ?_) | omega)); have HB2 := Lib.hid hb2'; have HX2 := Lib.hid (HBX.out w2 (by repeat' (first | (with_reducible exact Below.refl _ _) | (with_reducible assumption) | (with_reducible refine Below.drew ?_) | (with_reducible refine Below.more ?_ _) | (with_reducible refine Below.put ?_ ?_ _) | (with_reducible refine Below.next ?_ (by with_reducible assumption)) | (with_reducible exact Nat.le_refl _) | (with_reducible refine Below.size' ?_) | omega))); clear hb2'))
      | (refine wpList_load_as laySt rfl (.tmp 3) rfl w.heap.size 0 rfl ⟨term, stamp, next, ⟨a1, n1, c1⟩, ⟨a2, n2, c2⟩, ⟨a3, n3, c3⟩, ⟨a4, n4, c4⟩⟩ (.agg #[.int .i64 term, .int .i64 stamp, .int .i64 next, .slice a1 n1 c1, .slice a2 n2 c2, .slice a3 n3 c3, .slice a4 n4 c4]) rfl (HBX.out _ (by repeat' (first | (with_reducible exact Below.refl _ _) | (with_reducible assumption) | (with_reducible refine Below.drew ?_) | (with_reducible refine Below.more ?_ _) | (with_reducible refine Below.put ?_ ?_ _) | (with_reducible refine Below.next ?_ (by with_reducible assumption)) | (with_reducible exact Nat.le_refl _) | (with_reducible refine Below.size' ?_) | omega))).range ?_))
  go_returns
  exact ⟨rfl, HB9.out⟩
end Go.Proofs.Ytoofmofaimdhpaa

/- LedgerLate: the loop over the reports, and what is compared behind it. -/
namespace Go.Proofs.Ytoofmofaimdhpaa
open Go.ChangeShapes Go.WideShapes Go.ChangeAt Go.RowKit
set_option maxRecDepth 100000

theorem late_in {s : St} {x : Lease} {l : List Int} {k : Nat} (hk : k < l.length) (h1 : x.spent ≤ l[k]) (h2 : l[k] ≤ x.size) :
    (lateF s x (l.take (k + 1))).1 = max (lateF s x (l.take k)).1 l[k] ∧ (reportS (lateF s x (l.take k)).2 x.shaper x.epoch x.id l[k] false).1 = (lateF s x (l.take (k + 1))).2 := by
  rw [lateF_take hk]
  unfold lateStep
  rw [if_pos ⟨h1, h2⟩]
  exact ⟨rfl, rfl⟩
theorem late_out {s : St} {x : Lease} {l : List Int} {k : Nat} (hk : k < l.length) (h : ¬(x.spent ≤ l[k] ∧ l[k] ≤ x.size)) : lateF s x (l.take (k + 1)) = lateF s x (l.take k) := by
  rw [lateF_take hk]
  unfold lateStep
  rw [if_neg h]
theorem one_wrote {w w' : World} {g : Nat} {cs : List Value} {F : World → Prop} (p : Box w' g cs ∧ Wrote g w w') (h : ∀ w'', Box w'' g cs → Wrote g w w'' → F w'') : F w' := h w' p.1 p.2
theorem creditS_same {s : St} {k : Int} (h1 : s.tens.length ≤ 60) : (creditS s k).tens.length ≤ 900 ∧ (creditS s k).leas = s.leas ∧ (creditS s k).sess = s.sess ∧ (creditS s k).dsks = s.dsks := by
  refine ⟨Nat.le_trans (credit_lens s k).1 (by omega), ?_⟩
  unfold creditS
  split <;> exact ⟨rfl, rfl, rfl⟩
set_option maxHeartbeats 16000000 in
theorem llate_yes (s : St) (r : Raw) (le : Int) (za : Option Addr) (zs : List Int) (zn zc : Nat) (w : World) (h : StAt w 0 r s) (hzn : zs.length = zn) (hz : Row w za (zs.map (Value.int .i64))) (hg : greatB s = false) (hl : zn ≤ 30) (hok : stOk s = true) (i1 i2 i3 i4 i5 i6 : Int) (hfs : findSt s le = (⟨le, i1, i2, i3, i4, i5, i6⟩, true)) :
    Calls Try.prog 6 #[r.agg, .int .i64 le, .slice za zn zc] w fun e w' => e = .returned (.bool true) ∧ Below w.heap.size w w' := by
  have hsz : s.tens.length ≤ 60 ∧ s.leas.length ≤ 100 ∧ s.sess.length ≤ 60 ∧ s.dsks.length ≤ 60 := by
    have := of_decide_eq_false hg
    omega
  obtain ⟨z1, z2, z3, z4⟩ := hsz
  have HG := Lib.hid (fun w' (hb : Below w.heap.size w w') => great_st s r 0 w' (h.below hb))
  have HGG := Lib.hid hg
  have HRC := Lib.hid (fun w' (hb : Below w.heap.size w w') => refcheck_st s r 0 w' (h.below hb) (by omega) (by omega))
  have HOK := Lib.hid hok
  have HRF := Lib.hid (fun w' (hb : Below w.heap.size w w') => reffind_st s r 0 le w' (h.below hb) (by omega) (by omega))
  have d30 : decide ((30 : Int) < (zn : Int)) = false := decide_eq_false (by omega)
  have HFS := Lib.hid hfs
  have hx : (⟨le, i1, i2, i3, i4, i5, i6⟩ : Lease) ∈ s.leas := (findSt_mem hfs).2.1
  have HF := Lib.hid (fun k => late_facts (x := ⟨le, i1, i2, i3, i4, i5, i6⟩) hok hx (zs.take k))
  have HE := Lib.hid (late_end (x := ⟨le, i1, i2, i3, i4, i5, i6⟩) hok hx zs)
  have HIN := Lib.hid (fun k (hk : k < zs.length) h1 h2 => late_in (s := s) (x := ⟨le, i1, i2, i3, i4, i5, i6⟩) hk h1 h2)
  have HOUT := Lib.hid (fun k (hk : k < zs.length) h => late_out (s := s) (x := ⟨le, i1, i2, i3, i4, i5, i6⟩) hk h)
  have HSZ := Lib.hid (And.intro z1 (And.intro z2 (And.intro z3 z4)))
  have HS := Lib.hid h
  have HZ := Lib.hid hz
  have HLX := Lib.hid (lea_parts (stOk_parts hok).2.1 hx)
  obtain ⟨term, stamp, next, ⟨a1, n1, c1⟩, ⟨a2, n2, c2⟩, ⟨a3, n3, c3⟩, ⟨a4, n4, c4⟩⟩ := r
  have HBX : Hid (∀ w', Below (w.alloc (.cells #[.int .i64 term, .int .i64 stamp, .int .i64 next, .slice a1 n1 c1, .slice a2 n2 c2, .slice a3 n3 c3, .slice a4 n4 c4] 27)).heap.size (w.alloc (.cells #[.int .i64 term, .int .i64 stamp, .int .i64 next, .slice a1 n1 c1, .slice a2 n2 c2, .slice a3 n3 c3, .slice a4 n4 c4] 27)) w' → Box w' w.heap.size (Raw.cells ⟨term, stamp, next, ⟨a1, n1, c1⟩, ⟨a2, n2, c2⟩, ⟨a3, n3, c3⟩, ⟨a4, n4, c4⟩⟩)) := fun w' hb => Box.of_alloc hb
  clear h hz hg hok z1 z2 z3 z4 hfs hx
  go_enter Try.func6, Try.ntmps6
  go_upto_region 8 with (first
      | (have hgq := HB5; clear hgq; refine wpList_store_box laySt rfl (.tmp 10) (.tmp 38) rfl ⟨term, stamp, next, ⟨a1, n1, c1⟩, ⟨a2, n2, c2⟩, ⟨a3, n3, c3⟩, ⟨a4, n4, c4⟩⟩ rfl rfl rfl ?_; intro w6 hw6 ht6 hb6 hs6; have HT6 : Hid (Box w6 w5.heap.size (Raw.cells ⟨term, stamp, next, ⟨a1, n1, c1⟩, ⟨a2, n2, c2⟩, ⟨a3, n3, c3⟩, ⟨a4, n4, c4⟩⟩)) := ⟨hw6, ht6⟩; have HL6 := Lib.hid (HL5.out.next (show 0 < 7 by decide) hb6); have HX6 := Lib.hid (HX5.out.next (show 0 < 7 by decide) hb6); have HB6 := Lib.hid (below_on HB5.out hb6); have q6 := hb6.size; have q6' : w6.heap.size = w5.heap.size + 1 := hs6; clear hw6 ht6 hs6 p5 p6)
      | (have hgq := HB5; clear hgq; refine wpList_load_as laySt rfl (.tmp 3) rfl w.heap.size 0 rfl ⟨term, stamp, next, ⟨a1, n1, c1⟩, ⟨a2, n2, c2⟩, ⟨a3, n3, c3⟩, ⟨a4, n4, c4⟩⟩ (.agg #[.int .i64 term, .int .i64 stamp, .int .i64 next, .slice a1 n1 c1, .slice a2 n2 c2, .slice a3 n3 c3, .slice a4 n4 c4]) rfl HX5.out.range ?_)
      | (have hgq := HB4; clear hgq; refine wpList_store_box layLea rfl (.tmp 7) (.tmp 31) rfl ⟨le, i1, i2, i3, i4, i5, i6⟩ rfl rfl rfl ?_; intro w5 hw5 ht5 hb5 hs5; have HL5 : Hid (Box w5 w4.heap.size (Lease.cells ⟨le, i1, i2, i3, i4, i5, i6⟩)) := ⟨hw5, ht5⟩; have HX5 := Lib.hid (HX4.out.next (show 0 < 7 by decide) hb5); have HB5 := Lib.hid (below_on HB4.out hb5); have p5 := HL5.out.cell (j := 5) rfl; have p6 := HL5.out.cell (j := 6) rfl; clear hw5 ht5 hs5)
      | (go_at_call 15; ((with_reducible refine (HRF.out w3 HB3.out).mono ?_); rw [HFS.out]; rintro e w4 ⟨rfl, hb4⟩; have HB4 := Lib.hid (below_on HB3.out hb4); have HX4 := Lib.hid (HX3.out.next (show 0 < 7 by decide) hb4)))
      | (have hgq := HB3; clear hgq; refine wpList_load_as laySt rfl (.tmp 3) rfl w.heap.size 0 rfl ⟨term, stamp, next, ⟨a1, n1, c1⟩, ⟨a2, n2, c2⟩, ⟨a3, n3, c3⟩, ⟨a4, n4, c4⟩⟩ (.agg #[.int .i64 term, .int .i64 stamp, .int .i64 next, .slice a1 n1 c1, .slice a2 n2 c2, .slice a3 n3 c3, .slice a4 n4 c4]) rfl HX3.out.range ?_)
      | (go_at_call 16; ((with_reducible refine (HRC.out w2 HB2.out).mono ?_); rw [HOK.out]; rintro e w3 ⟨rfl, hb3⟩; have HB3 := Lib.hid (below_on HB2.out hb3); have HX3 := Lib.hid (HX2.out.next (show 0 < 7 by decide) hb3)))
      | (have hgq := HB2; clear hgq; refine wpList_strip (by rfl) ?_; refine wpList_load_as laySt rfl (.tmp 3) rfl w.heap.size 0 rfl ⟨term, stamp, next, ⟨a1, n1, c1⟩, ⟨a2, n2, c2⟩, ⟨a3, n3, c3⟩, ⟨a4, n4, c4⟩⟩ (.agg #[.int .i64 term, .int .i64 stamp, .int .i64 next, .slice a1 n1 c1, .slice a2 n2 c2, .slice a3 n3 c3, .slice a4 n4 c4]) rfl HX2.out.range ?_)
      | (go_at_call 9; ((with_reducible refine (HG.out _ (by repeat' (first | (with_reducible exact Below.refl _ _) | (with_reducible assumption) | (with_reducible refine Below.drew ?_) | (with_reducible refine Below.more ?_ _) | (with_reducible refine Below.put ?_ ?_ _) | (with_reducible refine Below.next ?_ (by with_reducible assumption)) | (with_reducible exact Nat.le_refl _) | (with_reducible refine Below.size' ?_) | omega))).mono ?_); rw [HGG.out]; rintro e w2 ⟨rfl, hb2⟩; have hb2' : Below w.heap.size w w2 := (by repeat' (first | (with_reducible exact Below.refl _ _) | (with_reducible assumption) | (with_reducible refine Below.drew ?_) | (with_reducible refine Below.more ?_ _) | (with_reducible refine Below.put ?_ ?_ _) | (with_reducible refine Below.next ?_ (by with_reducible assumption)) | (with_reducible exact Nat.le_refl _) | (with_reducible refine Below.size' ?_) | omega)); have HB2 := Lib.hid hb2'; have HX2 := Lib.hid (HBX.out w2 (by repeat' (first | (with_reducible exact Below.refl _ _) | (with_reducible assumption) | (with_reducible refine Below.drew ?_) | (with_reducible refine Below.more ?_ _) | (with_reducible refine Below.put ?_ ?_ _) | (with_reducible refine Below.next ?_ (by with_reducible assumption)) | (with_reducible exact Nat.le_refl _) | (with_reducible refine Below.size' ?_) | omega))); clear hb2'))
      | (refine wpList_load_as laySt rfl (.tmp 3) rfl w.heap.size 0 rfl ⟨term, stamp, next, ⟨a1, n1, c1⟩, ⟨a2, n2, c2⟩, ⟨a3, n3, c3⟩, ⟨a4, n4, c4⟩⟩ (.agg #[.int .i64 term, .int .i64 stamp, .int .i64 next, .slice a1 n1 c1, .slice a2 n2 c2, .slice a3 n3 c3, .slice a4 n4 c4]) rfl (HBX.out _ (by repeat' (first | (with_reducible exact Below.refl _ _) | (with_reducible assumption) | (with_reducible refine Below.drew ?_) | (with_reducible refine Below.more ?_ _) | (with_reducible refine Below.put ?_ ?_ _) | (with_reducible refine Below.next ?_ (by with_reducible assumption)) | (with_reducible exact Nat.le_refl _) | (with_reducible refine Below.size' ?_) | omega))).range ?_))
  have q5 := hb5.size
  have hbx4 := HL5.out.lt (by simp)
  have hbx0 := HX5.out.lt (by simp)
  go_wp2_with fail
  go_loopw [9, 11] (fun m i wr => ∃ k : Nat, ∃ q : Raw, k ≤ zs.length ∧ m = .int .i64 (lateF s ⟨le, i1, i2, i3, i4, i5, i6⟩ (zs.take k)).1 ∧ i = .int .i64 k ∧ Hid (Box wr w5.heap.size (Raw.cells q)) ∧ Hid (StAt wr 0 q (lateF s ⟨le, i1, i2, i3, i4, i5, i6⟩ (zs.take k)).2) ∧ Hid (Below w5.heap.size w6 wr)) (fun _ i _ => zs.length - (intOf i).toNat)
  case atStart => exact ⟨0, ⟨term, stamp, next, ⟨a1, n1, c1⟩, ⟨a2, n2, c2⟩, ⟨a3, n3, c3⟩, ⟨a4, n4, c4⟩⟩, by omega, rfl, rfl, HT6.out, HS.out.below HB6.out, Below.refl _ _⟩
  case round =>
    obtain ⟨k, ⟨tq, sq, nq, ⟨x1q, m1q, y1q⟩, ⟨x2q, m2q, y2q⟩, ⟨x3q, m3q, y3q⟩, ⟨x4q, m4q, y4q⟩⟩, hk, rfl, rfl, hbq, hsq, hbr⟩ := hrel
    have HFK := Lib.hid (HF.out k)
    have HBR := Lib.hid (HB6.out.trans (hbr.out.mono (by omega)))
    have HLR := Lib.hid (HL6.out.below hbr.out hbx4)
    have HXR := Lib.hid (HX6.out.below hbr.out hbx0)
    have qr := hbr.out.size
    by_cases hlt : k < zs.length
    · obtain ⟨b, o, rfl, hcell⟩ := Row.getBelow HZ.out (k := k) (by rw [List.getElem?_map, List.getElem?_eq_getElem hlt]; rfl)
      have HCL := Lib.hid hcell
      have HI := Lib.hid (HIN.out k hlt)
      have HO := Lib.hid (HOUT.out k hlt)
      clear hcell
      generalize zs[k] = v at HCL HI HO
      have HKK : Hid (∀ w', Below w.heap.size w w' → Box w' w4.heap.size (Lease.cells ⟨le, i1, i2, i3, i4, i5, i6⟩) → (w'.cell? ⟨b, o + k, none⟩ = some (.int .i64 v) ∧ w'.cell? ⟨w4.heap.size, 5, none⟩ = some (.int .i64 i5) ∧ w'.cell? ⟨w4.heap.size, 6, none⟩ = some (.int .i64 i6))) := fun w' b1 b2 => ⟨HCL.out w' b1, b2.cell (j := 5) rfl, b2.cell (j := 6) rfl⟩
      have hzk : (k : Int) < (zn : Int) := by omega
      have hzl' : zs.length ≤ 30 := by omega
      go_upto_region 11 with (fail)
      by_cases g1 : i6 ≤ v
      · have d1 : decide (i6 ≤ v) = true := decide_eq_true g1
        by_cases g2 : v ≤ i5
        · have d2 : decide (v ≤ i5) = true := decide_eq_true g2
          refine wp_region_held_drew (S := (fun w' => (w'.cell? ⟨b, o + k, none⟩ = some (.int .i64 v) ∧ w'.cell? ⟨w4.heap.size, 5, none⟩ = some (.int .i64 i5) ∧ w'.cell? ⟨w4.heap.size, 6, none⟩ = some (.int .i64 i6)))) (by kernel_rfl) (HKK.out _ HBR.out.drew HLR.out.drew) (fun hHeld => ?_)
          refine wpAnyH_take (i := 0) (oi := _) (v := ?v0_13) rfl (by kernel_rfl) (by kernel_rfl) (by kernel_rfl) (fun _ _ _ h => h) (Or.inl ⟨by rfl, ?hy0_13⟩) (by assumption) ?rest0_13
          case hy0_13 =>
            intro w hSw
            (try dsimp only at hSw)
            go_simp
            rfl
          case' rest0_13 => try simp only [Act.put, List.setIfInBounds_toArray, List.set_cons_zero, List.set_cons_succ, List.getElem_toArray, List.getElem_cons_zero, List.getElem_cons_succ]
          refine wpAnyH_take (i := 1) (oi := _) (v := ?v1_14) rfl (by kernel_rfl) (by kernel_rfl) (by kernel_rfl) (fun _ _ _ h => h) (Or.inl ⟨by rfl, ?hy1_14⟩) (by assumption) ?rest1_14
          case hy1_14 =>
            intro w hSw
            (try dsimp only at hSw)
            go_simp
            rfl
          case' rest1_14 => try simp only [Act.put, List.setIfInBounds_toArray, List.set_cons_zero, List.set_cons_succ, List.getElem_toArray, List.getElem_cons_zero, List.getElem_cons_succ]
          refine wpAnyH_take (i := 2) (oi := _) (v := ?v2_15) rfl (by kernel_rfl) (by kernel_rfl) (by kernel_rfl) (fun _ _ _ h => h) (Or.inl ⟨by rfl, ?hy2_15⟩) (by assumption) ?rest2_15
          case hy2_15 =>
            intro w hSw
            (try dsimp only at hSw)
            go_simp
            rfl
          case' rest2_15 => try simp only [Act.put, List.setIfInBounds_toArray, List.set_cons_zero, List.set_cons_succ, List.getElem_toArray, List.getElem_cons_zero, List.getElem_cons_succ]
          refine wpAnyH_take (i := 3) (oi := _) (v := ?v3_16) rfl (by kernel_rfl) (by kernel_rfl) (by kernel_rfl) (fun _ _ _ h => h) (Or.inl ⟨by rfl, ?hy3_16⟩) (by assumption) ?rest3_16
          case hy3_16 =>
            intro w hSw
            (try dsimp only at hSw)
            go_simp
            rfl
          case' rest3_16 => try simp only [Act.put, List.setIfInBounds_toArray, List.set_cons_zero, List.set_cons_succ, List.getElem_toArray, List.getElem_cons_zero, List.getElem_cons_succ]
          refine wpAnyH_take (i := 4) (oi := _) (v := ?v4_17) rfl (by kernel_rfl) (by kernel_rfl) (by kernel_rfl) (fun _ _ _ h => h) (Or.inl ⟨by rfl, ?hy4_17⟩) (by assumption) ?rest4_17
          case hy4_17 =>
            intro w hSw
            (try dsimp only at hSw)
            go_simp
            rfl
          case' rest4_17 => try simp only [Act.put, List.setIfInBounds_toArray, List.set_cons_zero, List.set_cons_succ, List.getElem_toArray, List.getElem_cons_zero, List.getElem_cons_succ]
          refine wpAnyH_take (i := 5) (oi := _) (v := ?v5_18) rfl (by kernel_rfl) (by kernel_rfl) (by kernel_rfl) (fun _ _ _ h => h) (Or.inl ⟨by rfl, ?hy5_18⟩) (by assumption) ?rest5_18
          case hy5_18 =>
            intro w hSw
            (try dsimp only at hSw)
            go_simp
            rfl
          case' rest5_18 => try simp only [Act.put, List.setIfInBounds_toArray, List.set_cons_zero, List.set_cons_succ, List.getElem_toArray, List.getElem_cons_zero, List.getElem_cons_succ]
          refine wpAnyH_take (i := 6) (oi := _) (v := ?v6_19) rfl (by kernel_rfl) (by kernel_rfl) (by kernel_rfl) (fun _ _ _ h => h) (Or.inl ⟨by rfl, ?hy6_19⟩) (by assumption) ?rest6_19
          case hy6_19 =>
            intro w hSw
            (try dsimp only at hSw)
            go_simp
            rfl
          case' rest6_19 => try simp only [Act.put, List.setIfInBounds_toArray, List.set_cons_zero, List.set_cons_succ, List.getElem_toArray, List.getElem_cons_zero, List.getElem_cons_succ]
          refine wpAnyH_take (i := 7) (oi := _) (v := ?v7_20) rfl (by kernel_rfl) (by kernel_rfl) (by kernel_rfl) (fun _ _ _ h => h) (Or.inl ⟨by rfl, ?hy7_20⟩) (by assumption) ?rest7_20
          case hy7_20 =>
            intro w hSw
            (try dsimp only at hSw)
            go_simp
            rfl
          case' rest7_20 => try simp only [Act.put, List.setIfInBounds_toArray, List.set_cons_zero, List.set_cons_succ, List.getElem_toArray, List.getElem_cons_zero, List.getElem_cons_succ]
          refine wpAnyH_take (i := 8) (oi := _) (v := ?v8_21) rfl (by kernel_rfl) (by kernel_rfl) (by kernel_rfl) (fun _ _ _ h => h) (Or.inl ⟨by rfl, ?hy8_21⟩) (by assumption) ?rest8_21
          case hy8_21 =>
            intro w hSw
            (try dsimp only at hSw)
            go_simp
            rfl
          case' rest8_21 => try simp only [Act.put, List.setIfInBounds_toArray, List.set_cons_zero, List.set_cons_succ, List.getElem_toArray, List.getElem_cons_zero, List.getElem_cons_succ]
          refine wpAnyH_take (i := 9) (oi := _) (v := ?v9_22) rfl (by kernel_rfl) (by kernel_rfl) (by kernel_rfl) (fun _ _ _ h => h) (Or.inl ⟨by rfl, ?hy9_22⟩) (by assumption) ?rest9_22
          case hy9_22 =>
            intro w hSw
            (try dsimp only at hSw)
            go_simp
            rfl
          case' rest9_22 => try simp only [Act.put, List.setIfInBounds_toArray, List.set_cons_zero, List.set_cons_succ, List.getElem_toArray, List.getElem_cons_zero, List.getElem_cons_succ]
          refine wpAnyH_take (i := 10) (oi := _) (v := ?v10_23) rfl (by kernel_rfl) (by kernel_rfl) (by kernel_rfl) (fun _ _ _ h => h) (Or.inl ⟨by rfl, ?hy10_23⟩) (by assumption) ?rest10_23
          case hy10_23 =>
            intro w hSw
            (try dsimp only at hSw)
            go_simp
            rfl
          case' rest10_23 => try simp only [Act.put, List.setIfInBounds_toArray, List.set_cons_zero, List.set_cons_succ, List.getElem_toArray, List.getElem_cons_zero, List.getElem_cons_succ]
          refine wpAnyH_take (i := 11) (oi := _) (v := ?v11_24) rfl (by kernel_rfl) (by kernel_rfl) (by kernel_rfl) (fun _ _ _ h => h) (Or.inl ⟨by rfl, ?hy11_24⟩) (by assumption) ?rest11_24
          case hy11_24 =>
            intro w hSw
            (try dsimp only at hSw)
            go_simp
            rfl
          case' rest11_24 => try simp only [Act.put, List.setIfInBounds_toArray, List.set_cons_zero, List.set_cons_succ, List.getElem_toArray, List.getElem_cons_zero, List.getElem_cons_succ]
          refine wpAnyH_take (i := 12) (oi := _) (v := ?v12_25) rfl (by kernel_rfl) (by kernel_rfl) (by kernel_rfl) (fun _ _ _ h => h) (Or.inl ⟨by rfl, ?hy12_25⟩) (by assumption) ?rest12_25
          case hy12_25 =>
            intro w hSw
            (try dsimp only at hSw)
            go_simp
            rfl
          case' rest12_25 => try simp only [Act.put, List.setIfInBounds_toArray, List.set_cons_zero, List.set_cons_succ, List.getElem_toArray, List.getElem_cons_zero, List.getElem_cons_succ]
          refine wpAnyH_take (i := 13) (oi := _) (v := ?v13_26) rfl (by kernel_rfl) (by kernel_rfl) (by kernel_rfl) (fun _ _ _ h => h) (Or.inl ⟨by rfl, ?hy13_26⟩) (by assumption) ?rest13_26
          case hy13_26 =>
            intro w hSw
            (try dsimp only at hSw)
            go_simp
            rfl
          case' rest13_26 => try simp only [Act.put, List.setIfInBounds_toArray, List.set_cons_zero, List.set_cons_succ, List.getElem_toArray, List.getElem_cons_zero, List.getElem_cons_succ]
          refine wpAnyH_take (i := 14) (oi := _) (v := ?v14_27) rfl (by kernel_rfl) (by kernel_rfl) (by kernel_rfl) (fun _ _ _ h => h) (Or.inl ⟨by rfl, ?hy14_27⟩) (by assumption) ?rest14_27
          case hy14_27 =>
            intro w hSw
            (try dsimp only at hSw)
            go_simp
            rfl
          case' rest14_27 => try simp only [Act.put, List.setIfInBounds_toArray, List.set_cons_zero, List.set_cons_succ, List.getElem_toArray, List.getElem_cons_zero, List.getElem_cons_succ]
          refine wpAnyH_take (i := 15) (oi := _) (v := ?v15_28) rfl (by kernel_rfl) (by kernel_rfl) (by kernel_rfl) (fun _ _ _ h => h) (Or.inl ⟨by rfl, ?hy15_28⟩) (by assumption) ?rest15_28
          case hy15_28 =>
            intro w hSw
            (try dsimp only at hSw)
            go_simp
            rfl
          case' rest15_28 => try simp only [Act.put, List.setIfInBounds_toArray, List.set_cons_zero, List.set_cons_succ, List.getElem_toArray, List.getElem_cons_zero, List.getElem_cons_succ]
          refine wpAnyH_done (by kernel_rfl) ?_ _
          clear hHeld
          obtain ⟨wd, hwd⟩ : ∃ x, x = wr.drew := ⟨_, rfl⟩
          rw [← hwd]
          have HBD : Hid (Below w.heap.size w wd) := by show Below _ _ _; rw [hwd]; exact HBR.out.drew
          have HTD : Hid (Box wd w5.heap.size (Raw.cells ⟨tq, sq, nq, ⟨x1q, m1q, y1q⟩, ⟨x2q, m2q, y2q⟩, ⟨x3q, m3q, y3q⟩, ⟨x4q, m4q, y4q⟩⟩)) := by show Box _ _ _; rw [hwd]; exact hbq.out.drew
          have HLD : Hid (Box wd w4.heap.size (Lease.cells ⟨le, i1, i2, i3, i4, i5, i6⟩)) := by show Box _ _ _; rw [hwd]; exact HLR.out.drew
          have HSD : Hid (StAt wd 0 ⟨tq, sq, nq, ⟨x1q, m1q, y1q⟩, ⟨x2q, m2q, y2q⟩, ⟨x3q, m3q, y3q⟩, ⟨x4q, m4q, y4q⟩⟩ (lateF s ⟨le, i1, i2, i3, i4, i5, i6⟩ (zs.take k)).2) := by show StAt _ _ _ _; rw [hwd]; exact hsq.out.below (Below.refl _ _).drew
          have HBE : Hid (Below w5.heap.size w6 wd) := by show Below _ _ _; rw [hwd]; exact hbr.out.drew
          have qd : w6.heap.size ≤ wd.heap.size := HBE.out.size
          clear hwd
          have HN := Lib.hid (HI.out g1 g2)
          have hcl := HCL.out wd HBD.out
          obtain ⟨⟨k0, k1, k2, k3, k4, k5, k6⟩, _, _⟩ := HTD.out.st
          simp only at k0 k1 k2 k3 k4 k5 k6
          have l2 := HLD.out.cell (j := 2) rfl
          have l3 := HLD.out.cell (j := 3) rfl
          have HRP := Lib.hid (fun w' (hb : Below wd.heap.size wd w') => report_new (lateF s ⟨le, i1, i2, i3, i4, i5, i6⟩ (zs.take k)).2 ⟨tq, sq, nq, ⟨x1q, m1q, y1q⟩, ⟨x2q, m2q, y2q⟩, ⟨x3q, m3q, y3q⟩, ⟨x4q, m4q, y4q⟩⟩ 0 i2 i3 le v false w' (HSD.out.below hb) (by have := HFK.out.2.1; have := HSZ.out.1; omega) (by have := HFK.out.2.2.1; have := HSZ.out.2.1; omega) (by have h1 := HFK.out.2.2.2.1; have := HSZ.out.2.2.1; rw [h1]; omega) (by have h1 := HFK.out.2.2.2.2.1; have := HSZ.out.2.2.2; rw [h1]; omega) HFK.out.1)
          go_upto_region 13 with (fail)
          have HKT : Hid (∀ w', Below w.heap.size w w' → Box w' w4.heap.size (Lease.cells ⟨le, i1, i2, i3, i4, i5, i6⟩) → (w'.cell? ⟨b, o + k, none⟩ = some (.int .i64 v) ∧ w'.cell? ⟨w4.heap.size, 2, none⟩ = some (.int .i64 i2) ∧ w'.cell? ⟨w4.heap.size, 3, none⟩ = some (.int .i64 i3))) := fun w' b1 b2 => ⟨HCL.out w' b1, b2.cell (j := 2) rfl, b2.cell (j := 3) rfl⟩
          clear k0 k1 k2 k3 k4 k5 k6 hcl l2 l3
          refine wp_region_held_drew (S := (fun w' => (w'.cell? ⟨b, o + k, none⟩ = some (.int .i64 v) ∧ w'.cell? ⟨w4.heap.size, 2, none⟩ = some (.int .i64 i2) ∧ w'.cell? ⟨w4.heap.size, 3, none⟩ = some (.int .i64 i3)))) (by kernel_rfl) (HKT.out _ HBD.out.drew HLD.out.drew) (fun hHeld => ?_)
          refine wpAnyH_take (i := 1) (oi := _) (v := ?v1_1) rfl (by kernel_rfl) (by kernel_rfl) (by kernel_rfl) (fun _ _ _ h => h) (Or.inl ⟨by rfl, ?hy1_1⟩) (by assumption) ?rest1_1
          case hy1_1 =>
            intro w hSw
            (try dsimp only at hSw)
            go_simp
            rfl
          case' rest1_1 => try simp only [Act.put, List.setIfInBounds_toArray, List.set_cons_zero, List.set_cons_succ, List.getElem_toArray, List.getElem_cons_zero, List.getElem_cons_succ]
          refine wpAnyH_take (i := 2) (oi := _) (v := ?v2_2) rfl (by kernel_rfl) (by kernel_rfl) (by kernel_rfl) (fun _ _ _ h => h) (Or.inl ⟨by rfl, ?hy2_2⟩) (by assumption) ?rest2_2
          case hy2_2 =>
            intro w hSw
            (try dsimp only at hSw)
            go_simp
            rfl
          case' rest2_2 => try simp only [Act.put, List.setIfInBounds_toArray, List.set_cons_zero, List.set_cons_succ, List.getElem_toArray, List.getElem_cons_zero, List.getElem_cons_succ]
          refine wpAnyH_take (i := 3) (oi := _) (v := ?v3_3) rfl (by kernel_rfl) (by kernel_rfl) (by kernel_rfl) (fun _ _ _ h => h) (Or.inl ⟨by rfl, ?hy3_3⟩) (by assumption) ?rest3_3
          case hy3_3 =>
            intro w hSw
            (try dsimp only at hSw)
            go_simp
            rfl
          case' rest3_3 => try simp only [Act.put, List.setIfInBounds_toArray, List.set_cons_zero, List.set_cons_succ, List.getElem_toArray, List.getElem_cons_zero, List.getElem_cons_succ]
          refine wpAnyH_take (i := 4) (oi := _) (v := ?v4_4) rfl (by kernel_rfl) (by kernel_rfl) (by kernel_rfl) (fun _ _ _ h => h) (Or.inl ⟨by rfl, ?hy4_4⟩) (by assumption) ?rest4_4
          case hy4_4 =>
            intro w hSw
            (try dsimp only at hSw)
            go_simp
            rfl
          case' rest4_4 => try simp only [Act.put, List.setIfInBounds_toArray, List.set_cons_zero, List.set_cons_succ, List.getElem_toArray, List.getElem_cons_zero, List.getElem_cons_succ]
          refine wpAnyH_take (i := 5) (oi := _) (v := ?v5_5) rfl (by kernel_rfl) (by kernel_rfl) (by kernel_rfl) (fun _ _ _ h => h) (Or.inl ⟨by rfl, ?hy5_5⟩) (by assumption) ?rest5_5
          case hy5_5 =>
            intro w hSw
            (try dsimp only at hSw)
            go_simp
            rfl
          case' rest5_5 => try simp only [Act.put, List.setIfInBounds_toArray, List.set_cons_zero, List.set_cons_succ, List.getElem_toArray, List.getElem_cons_zero, List.getElem_cons_succ]
          refine wpAnyH_take (i := 6) (oi := _) (v := ?v6_6) rfl (by kernel_rfl) (by kernel_rfl) (by kernel_rfl) (fun _ _ _ h => h) (Or.inl ⟨by rfl, ?hy6_6⟩) (by assumption) ?rest6_6
          case hy6_6 =>
            intro w hSw
            (try dsimp only at hSw)
            go_simp
            rfl
          case' rest6_6 => try simp only [Act.put, List.setIfInBounds_toArray, List.set_cons_zero, List.set_cons_succ, List.getElem_toArray, List.getElem_cons_zero, List.getElem_cons_succ]
          refine wpAnyH_take (i := 7) (oi := _) (v := ?v7_7) rfl (by kernel_rfl) (by kernel_rfl) (by kernel_rfl) (fun _ _ _ h => h) (Or.inl ⟨by rfl, ?hy7_7⟩) (by assumption) ?rest7_7
          case hy7_7 =>
            intro w hSw
            (try dsimp only at hSw)
            go_simp
            rfl
          case' rest7_7 => try simp only [Act.put, List.setIfInBounds_toArray, List.set_cons_zero, List.set_cons_succ, List.getElem_toArray, List.getElem_cons_zero, List.getElem_cons_succ]
          refine wpAnyH_take (i := 8) (oi := _) (v := ?v8_8) rfl (by kernel_rfl) (by kernel_rfl) (by kernel_rfl) (fun _ _ _ h => h) (Or.inl ⟨by rfl, ?hy8_8⟩) (by assumption) ?rest8_8
          case hy8_8 =>
            intro w hSw
            (try dsimp only at hSw)
            go_simp
            rfl
          case' rest8_8 => try simp only [Act.put, List.setIfInBounds_toArray, List.set_cons_zero, List.set_cons_succ, List.getElem_toArray, List.getElem_cons_zero, List.getElem_cons_succ]
          refine wpAnyH_take (i := 9) (oi := _) (v := ?v9_9) rfl (by kernel_rfl) (by kernel_rfl) (by kernel_rfl) (fun _ _ _ h => h) (Or.inl ⟨by rfl, ?hy9_9⟩) (by assumption) ?rest9_9
          case hy9_9 =>
            intro w hSw
            (try dsimp only at hSw)
            go_simp
            rfl
          case' rest9_9 => try simp only [Act.put, List.setIfInBounds_toArray, List.set_cons_zero, List.set_cons_succ, List.getElem_toArray, List.getElem_cons_zero, List.getElem_cons_succ]
          refine wpAnyH_ready (rs := [0]) (by kernel_rfl) (by simp) ?_
          refine AllReadyH.cons (o := _) rfl (fun K hK => ?_) AllReadyH.nil
          obtain ⟨⟨k0, k1, k2, k3, k4, k5, k6⟩, _, _⟩ := HTD.out.st
          simp only at k0 k1 k2 k3 k4 k5 k6
          go_simp
          clear k0 k1 k2 k3 k4 k5 k6
          clear hHeld
          refine hK.out _ _ (HKT.out _ HBD.out.drew HLD.out.drew) (fun hHeld => ?_)
          clear hK K
          try simp only [Act.put, List.setIfInBounds_toArray, List.set_cons_zero, List.set_cons_succ, List.getElem_toArray, List.getElem_cons_zero, List.getElem_cons_succ]
          refine wpAnyH_ready (rs := [10]) (by kernel_rfl) (by simp) ?_
          refine AllReadyH.cons (o := _) rfl (fun K hK => ?_) AllReadyH.nil
          go_simp
          go_at_call 22
          with_reducible refine (HRP.out wd.drew (Below.refl _ _).drew).mono ?_
          rintro e w7 ⟨⟨tp, sp, np, ⟨x1p, m1p, y1p⟩, ⟨x2p, m2p, y2p⟩, ⟨x3p, m3p, y3p⟩, ⟨x4p, m4p, y4p⟩⟩, rfl, hst7, hb7⟩
          have hb7' : Below wd.heap.size wd w7 := ⟨hb7.os, hb7.tape, hb7.output, hb7.size, hb7.block⟩
          have HST7 := Lib.hid hst7
          have HX7 := Lib.hid (HTD.out.below hb7' (by omega))
          have q7 := hb7'.size
          have HB7 := Lib.hid (HBE.out.trans (hb7'.mono (by omega)))
          have HLE7 := Lib.hid (HLD.out.below hb7' (by omega))
          have HBD7 := Lib.hid (HBD.out.trans (hb7'.mono HBD.out.size))
          clear hst7 hb7
          clear hHeld
          refine hK.out _ _ (HKT.out _ HBD7.out HLE7.out) (fun hHeld => ?_)
          clear hK K
          try simp only [Act.put, List.setIfInBounds_toArray, List.set_cons_zero, List.set_cons_succ, List.getElem_toArray, List.getElem_cons_zero, List.getElem_cons_succ]
          refine wpAnyH_take (i := 11) (oi := _) (v := ?v11_10) rfl (by kernel_rfl) (by kernel_rfl) (by kernel_rfl) (fun _ _ _ h => h) (Or.inl ⟨by rfl, ?hy11_10⟩) (by assumption) ?rest11_10
          case hy11_10 =>
            intro w hSw
            (try dsimp only at hSw)
            go_simp
            rfl
          case' rest11_10 => try simp only [Act.put, List.setIfInBounds_toArray, List.set_cons_zero, List.set_cons_succ, List.getElem_toArray, List.getElem_cons_zero, List.getElem_cons_succ]
          refine wpAnyH_take (i := 12) (oi := _) (v := ?v12_11) rfl (by kernel_rfl) (by kernel_rfl) (by kernel_rfl) (fun _ _ _ h => h) (Or.inl ⟨by rfl, ?hy12_11⟩) (by assumption) ?rest12_11
          case hy12_11 =>
            intro w hSw
            (try dsimp only at hSw)
            go_simp
            rfl
          case' rest12_11 => try simp only [Act.put, List.setIfInBounds_toArray, List.set_cons_zero, List.set_cons_succ, List.getElem_toArray, List.getElem_cons_zero, List.getElem_cons_succ]
          refine wpAnyH_take (i := 13) (oi := _) (v := ?v13_12) rfl (by kernel_rfl) (by kernel_rfl) (by kernel_rfl) (fun _ _ _ h => h) (Or.inl ⟨by rfl, ?hy13_12⟩) (by assumption) ?rest13_12
          case hy13_12 =>
            intro w hSw
            (try dsimp only at hSw)
            go_simp
            rfl
          case' rest13_12 => try simp only [Act.put, List.setIfInBounds_toArray, List.set_cons_zero, List.set_cons_succ, List.getElem_toArray, List.getElem_cons_zero, List.getElem_cons_succ]
          refine wpAnyH_ready (rs := [14]) (by kernel_rfl) (by simp) ?_
          refine AllReadyH.cons (o := _) rfl (fun K hK => ?_) AllReadyH.nil
          obtain ⟨⟨k0, k1, k2, k3, k4, k5, k6⟩, ⟨z0, z1, z2, z3, z4, z5, z6⟩, _⟩ := HX7.out.st
          simp only at k0 k1 k2 k3 k4 k5 k6
          go_simp
          clear k0 k1 k2 k3 k4 k5 k6 z0 z1 z2 z3 z4 z5 z6
          clear hHeld
          have HKN : Hid (((((((((w7.setCell ⟨w5.heap.size, 0, none⟩ (.int .i64 tp)).setCell ⟨w5.heap.size, 1, none⟩ (.int .i64 sp)).setCell ⟨w5.heap.size, 2, none⟩ (.int .i64 np)).setCell ⟨w5.heap.size, 3, none⟩ (.slice x1p m1p y1p)).setCell ⟨w5.heap.size, 4, none⟩ (.slice x2p m2p y2p)).setCell ⟨w5.heap.size, 5, none⟩ (.slice x3p m3p y3p)).setCell ⟨w5.heap.size, 6, none⟩ (.slice x4p m4p y4p)).cell? ⟨b, o + k, none⟩ = some (.int .i64 v) ∧ (((((((w7.setCell ⟨w5.heap.size, 0, none⟩ (.int .i64 tp)).setCell ⟨w5.heap.size, 1, none⟩ (.int .i64 sp)).setCell ⟨w5.heap.size, 2, none⟩ (.int .i64 np)).setCell ⟨w5.heap.size, 3, none⟩ (.slice x1p m1p y1p)).setCell ⟨w5.heap.size, 4, none⟩ (.slice x2p m2p y2p)).setCell ⟨w5.heap.size, 5, none⟩ (.slice x3p m3p y3p)).setCell ⟨w5.heap.size, 6, none⟩ (.slice x4p m4p y4p)).cell? ⟨w4.heap.size, 2, none⟩ = some (.int .i64 i2) ∧ (((((((w7.setCell ⟨w5.heap.size, 0, none⟩ (.int .i64 tp)).setCell ⟨w5.heap.size, 1, none⟩ (.int .i64 sp)).setCell ⟨w5.heap.size, 2, none⟩ (.int .i64 np)).setCell ⟨w5.heap.size, 3, none⟩ (.slice x1p m1p y1p)).setCell ⟨w5.heap.size, 4, none⟩ (.slice x2p m2p y2p)).setCell ⟨w5.heap.size, 5, none⟩ (.slice x3p m3p y3p)).setCell ⟨w5.heap.size, 6, none⟩ (.slice x4p m4p y4p)).cell? ⟨w4.heap.size, 3, none⟩ = some (.int .i64 i3))) := HKT.out _ (HBD7.out.trans ((box_put (L := laySt) (⟨tp, sp, np, ⟨x1p, m1p, y1p⟩, ⟨x2p, m2p, y2p⟩, ⟨x3p, m3p, y3p⟩, ⟨x4p, m4p, y4p⟩⟩ : Raw) HX7.out rfl).2.below _ (by omega))) (HLE7.out.wrote (box_put (L := laySt) (⟨tp, sp, np, ⟨x1p, m1p, y1p⟩, ⟨x2p, m2p, y2p⟩, ⟨x3p, m3p, y3p⟩, ⟨x4p, m4p, y4p⟩⟩ : Raw) HX7.out rfl).2 (by omega))
          refine hK.out _ _ (HKN.out) (fun hHeld => ?_)
          clear hK K
          try simp only [Act.put, List.setIfInBounds_toArray, List.set_cons_zero, List.set_cons_succ, List.getElem_toArray, List.getElem_cons_zero, List.getElem_cons_succ]
          refine wpAnyH_done (by kernel_rfl) ?_ _
          clear hHeld
          have P7 : Hid (Box (((((((w7.setCell ⟨w5.heap.size, 0, none⟩ (.int .i64 tp)).setCell ⟨w5.heap.size, 1, none⟩ (.int .i64 sp)).setCell ⟨w5.heap.size, 2, none⟩ (.int .i64 np)).setCell ⟨w5.heap.size, 3, none⟩ (.slice x1p m1p y1p)).setCell ⟨w5.heap.size, 4, none⟩ (.slice x2p m2p y2p)).setCell ⟨w5.heap.size, 5, none⟩ (.slice x3p m3p y3p)).setCell ⟨w5.heap.size, 6, none⟩ (.slice x4p m4p y4p)) w5.heap.size (⟨tp, sp, np, ⟨x1p, m1p, y1p⟩, ⟨x2p, m2p, y2p⟩, ⟨x3p, m3p, y3p⟩, ⟨x4p, m4p, y4p⟩⟩ : Raw).cells ∧ Wrote w5.heap.size w7 (((((((w7.setCell ⟨w5.heap.size, 0, none⟩ (.int .i64 tp)).setCell ⟨w5.heap.size, 1, none⟩ (.int .i64 sp)).setCell ⟨w5.heap.size, 2, none⟩ (.int .i64 np)).setCell ⟨w5.heap.size, 3, none⟩ (.slice x1p m1p y1p)).setCell ⟨w5.heap.size, 4, none⟩ (.slice x2p m2p y2p)).setCell ⟨w5.heap.size, 5, none⟩ (.slice x3p m3p y3p)).setCell ⟨w5.heap.size, 6, none⟩ (.slice x4p m4p y4p))) := box_put (L := laySt) (⟨tp, sp, np, ⟨x1p, m1p, y1p⟩, ⟨x2p, m2p, y2p⟩, ⟨x3p, m3p, y3p⟩, ⟨x4p, m4p, y4p⟩⟩ : Raw) HX7.out rfl
          refine one_wrote (F := Exit.inBlock _ _ _ _) P7.out ?_
          intro w8 hbx8 hw8
          have HX8 := Lib.hid hbx8
          have HW8 := Lib.hid hw8
          clear hbx8 hw8 P7
          go_wp2_with fail
          have st8 : StAt w8 0 ⟨tp, sp, np, ⟨x1p, m1p, y1p⟩, ⟨x2p, m2p, y2p⟩, ⟨x3p, m3p, y3p⟩, ⟨x4p, m4p, y4p⟩⟩ (lateF s ⟨le, i1, i2, i3, i4, i5, i6⟩ (zs.take (k + 1))).2 := by
            have h1 := HST7.out
            rw [HN.out.2] at h1
            have hd : wd.drew.heap.size = wd.heap.size := rfl
            exact (h1.keep (g := w5.heap.size) (fun j _ hj => HW8.out.keep j hj) (by rw [hd]; omega)).mono (Nat.zero_le _)
          exact ⟨⟨k + 1, ⟨tp, sp, np, ⟨x1p, m1p, y1p⟩, ⟨x2p, m2p, y2p⟩, ⟨x3p, m3p, y3p⟩, ⟨x4p, m4p, y4p⟩⟩, by omega, congrArg (Value.int .i64) (by rw [HN.out.1]; split <;> omega), by go_num, HX8.out, st8, HB7.out.trans (HW8.out.below _ (Nat.le_refl _))⟩, by simp [intOf]; omega⟩
        · have d2 : decide (v ≤ i5) = false := decide_eq_false g2
          refine wp_region_held_drew (S := (fun w' => (w'.cell? ⟨b, o + k, none⟩ = some (.int .i64 v) ∧ w'.cell? ⟨w4.heap.size, 5, none⟩ = some (.int .i64 i5) ∧ w'.cell? ⟨w4.heap.size, 6, none⟩ = some (.int .i64 i6)))) (by kernel_rfl) (HKK.out _ HBR.out.drew HLR.out.drew) (fun hHeld => ?_)
          refine wpAnyH_take (i := 0) (oi := _) (v := ?v0_38) rfl (by kernel_rfl) (by kernel_rfl) (by kernel_rfl) (fun _ _ _ h => h) (Or.inl ⟨by rfl, ?hy0_38⟩) (by assumption) ?rest0_38
          case hy0_38 =>
            intro w hSw
            (try dsimp only at hSw)
            go_simp
            rfl
          case' rest0_38 => try simp only [Act.put, List.setIfInBounds_toArray, List.set_cons_zero, List.set_cons_succ, List.getElem_toArray, List.getElem_cons_zero, List.getElem_cons_succ]
          refine wpAnyH_take (i := 1) (oi := _) (v := ?v1_39) rfl (by kernel_rfl) (by kernel_rfl) (by kernel_rfl) (fun _ _ _ h => h) (Or.inl ⟨by rfl, ?hy1_39⟩) (by assumption) ?rest1_39
          case hy1_39 =>
            intro w hSw
            (try dsimp only at hSw)
            go_simp
            rfl
          case' rest1_39 => try simp only [Act.put, List.setIfInBounds_toArray, List.set_cons_zero, List.set_cons_succ, List.getElem_toArray, List.getElem_cons_zero, List.getElem_cons_succ]
          refine wpAnyH_take (i := 2) (oi := _) (v := ?v2_40) rfl (by kernel_rfl) (by kernel_rfl) (by kernel_rfl) (fun _ _ _ h => h) (Or.inl ⟨by rfl, ?hy2_40⟩) (by assumption) ?rest2_40
          case hy2_40 =>
            intro w hSw
            (try dsimp only at hSw)
            go_simp
            rfl
          case' rest2_40 => try simp only [Act.put, List.setIfInBounds_toArray, List.set_cons_zero, List.set_cons_succ, List.getElem_toArray, List.getElem_cons_zero, List.getElem_cons_succ]
          refine wpAnyH_take (i := 3) (oi := _) (v := ?v3_41) rfl (by kernel_rfl) (by kernel_rfl) (by kernel_rfl) (fun _ _ _ h => h) (Or.inl ⟨by rfl, ?hy3_41⟩) (by assumption) ?rest3_41
          case hy3_41 =>
            intro w hSw
            (try dsimp only at hSw)
            go_simp
            rfl
          case' rest3_41 => try simp only [Act.put, List.setIfInBounds_toArray, List.set_cons_zero, List.set_cons_succ, List.getElem_toArray, List.getElem_cons_zero, List.getElem_cons_succ]
          refine wpAnyH_take (i := 4) (oi := _) (v := ?v4_42) rfl (by kernel_rfl) (by kernel_rfl) (by kernel_rfl) (fun _ _ _ h => h) (Or.inl ⟨by rfl, ?hy4_42⟩) (by assumption) ?rest4_42
          case hy4_42 =>
            intro w hSw
            (try dsimp only at hSw)
            go_simp
            rfl
          case' rest4_42 => try simp only [Act.put, List.setIfInBounds_toArray, List.set_cons_zero, List.set_cons_succ, List.getElem_toArray, List.getElem_cons_zero, List.getElem_cons_succ]
          refine wpAnyH_take (i := 5) (oi := _) (v := ?v5_43) rfl (by kernel_rfl) (by kernel_rfl) (by kernel_rfl) (fun _ _ _ h => h) (Or.inl ⟨by rfl, ?hy5_43⟩) (by assumption) ?rest5_43
          case hy5_43 =>
            intro w hSw
            (try dsimp only at hSw)
            go_simp
            rfl
          case' rest5_43 => try simp only [Act.put, List.setIfInBounds_toArray, List.set_cons_zero, List.set_cons_succ, List.getElem_toArray, List.getElem_cons_zero, List.getElem_cons_succ]
          refine wpAnyH_take (i := 6) (oi := _) (v := ?v6_44) rfl (by kernel_rfl) (by kernel_rfl) (by kernel_rfl) (fun _ _ _ h => h) (Or.inl ⟨by rfl, ?hy6_44⟩) (by assumption) ?rest6_44
          case hy6_44 =>
            intro w hSw
            (try dsimp only at hSw)
            go_simp
            rfl
          case' rest6_44 => try simp only [Act.put, List.setIfInBounds_toArray, List.set_cons_zero, List.set_cons_succ, List.getElem_toArray, List.getElem_cons_zero, List.getElem_cons_succ]
          refine wpAnyH_take (i := 7) (oi := _) (v := ?v7_45) rfl (by kernel_rfl) (by kernel_rfl) (by kernel_rfl) (fun _ _ _ h => h) (Or.inl ⟨by rfl, ?hy7_45⟩) (by assumption) ?rest7_45
          case hy7_45 =>
            intro w hSw
            (try dsimp only at hSw)
            go_simp
            rfl
          case' rest7_45 => try simp only [Act.put, List.setIfInBounds_toArray, List.set_cons_zero, List.set_cons_succ, List.getElem_toArray, List.getElem_cons_zero, List.getElem_cons_succ]
          refine wpAnyH_take (i := 8) (oi := _) (v := ?v8_46) rfl (by kernel_rfl) (by kernel_rfl) (by kernel_rfl) (fun _ _ _ h => h) (Or.inl ⟨by rfl, ?hy8_46⟩) (by assumption) ?rest8_46
          case hy8_46 =>
            intro w hSw
            (try dsimp only at hSw)
            go_simp
            rfl
          case' rest8_46 => try simp only [Act.put, List.setIfInBounds_toArray, List.set_cons_zero, List.set_cons_succ, List.getElem_toArray, List.getElem_cons_zero, List.getElem_cons_succ]
          refine wpAnyH_take (i := 9) (oi := _) (v := ?v9_47) rfl (by kernel_rfl) (by kernel_rfl) (by kernel_rfl) (fun _ _ _ h => h) (Or.inl ⟨by rfl, ?hy9_47⟩) (by assumption) ?rest9_47
          case hy9_47 =>
            intro w hSw
            (try dsimp only at hSw)
            go_simp
            rfl
          case' rest9_47 => try simp only [Act.put, List.setIfInBounds_toArray, List.set_cons_zero, List.set_cons_succ, List.getElem_toArray, List.getElem_cons_zero, List.getElem_cons_succ]
          refine wpAnyH_take (i := 10) (oi := _) (v := ?v10_48) rfl (by kernel_rfl) (by kernel_rfl) (by kernel_rfl) (fun _ _ _ h => h) (Or.inl ⟨by rfl, ?hy10_48⟩) (by assumption) ?rest10_48
          case hy10_48 =>
            intro w hSw
            (try dsimp only at hSw)
            go_simp
            rfl
          case' rest10_48 => try simp only [Act.put, List.setIfInBounds_toArray, List.set_cons_zero, List.set_cons_succ, List.getElem_toArray, List.getElem_cons_zero, List.getElem_cons_succ]
          refine wpAnyH_take (i := 11) (oi := _) (v := ?v11_49) rfl (by kernel_rfl) (by kernel_rfl) (by kernel_rfl) (fun _ _ _ h => h) (Or.inl ⟨by rfl, ?hy11_49⟩) (by assumption) ?rest11_49
          case hy11_49 =>
            intro w hSw
            (try dsimp only at hSw)
            go_simp
            rfl
          case' rest11_49 => try simp only [Act.put, List.setIfInBounds_toArray, List.set_cons_zero, List.set_cons_succ, List.getElem_toArray, List.getElem_cons_zero, List.getElem_cons_succ]
          refine wpAnyH_take (i := 12) (oi := _) (v := ?v12_50) rfl (by kernel_rfl) (by kernel_rfl) (by kernel_rfl) (fun _ _ _ h => h) (Or.inl ⟨by rfl, ?hy12_50⟩) (by assumption) ?rest12_50
          case hy12_50 =>
            intro w hSw
            (try dsimp only at hSw)
            go_simp
            rfl
          case' rest12_50 => try simp only [Act.put, List.setIfInBounds_toArray, List.set_cons_zero, List.set_cons_succ, List.getElem_toArray, List.getElem_cons_zero, List.getElem_cons_succ]
          refine wpAnyH_take (i := 13) (oi := _) (v := ?v13_51) rfl (by kernel_rfl) (by kernel_rfl) (by kernel_rfl) (fun _ _ _ h => h) (Or.inl ⟨by rfl, ?hy13_51⟩) (by assumption) ?rest13_51
          case hy13_51 =>
            intro w hSw
            (try dsimp only at hSw)
            go_simp
            rfl
          case' rest13_51 => try simp only [Act.put, List.setIfInBounds_toArray, List.set_cons_zero, List.set_cons_succ, List.getElem_toArray, List.getElem_cons_zero, List.getElem_cons_succ]
          refine wpAnyH_take (i := 14) (oi := _) (v := ?v14_52) rfl (by kernel_rfl) (by kernel_rfl) (by kernel_rfl) (fun _ _ _ h => h) (Or.inl ⟨by rfl, ?hy14_52⟩) (by assumption) ?rest14_52
          case hy14_52 =>
            intro w hSw
            (try dsimp only at hSw)
            go_simp
            rfl
          case' rest14_52 => try simp only [Act.put, List.setIfInBounds_toArray, List.set_cons_zero, List.set_cons_succ, List.getElem_toArray, List.getElem_cons_zero, List.getElem_cons_succ]
          refine wpAnyH_take (i := 15) (oi := _) (v := ?v15_53) rfl (by kernel_rfl) (by kernel_rfl) (by kernel_rfl) (fun _ _ _ h => h) (Or.inl ⟨by rfl, ?hy15_53⟩) (by assumption) ?rest15_53
          case hy15_53 =>
            intro w hSw
            (try dsimp only at hSw)
            go_simp
            rfl
          case' rest15_53 => try simp only [Act.put, List.setIfInBounds_toArray, List.set_cons_zero, List.set_cons_succ, List.getElem_toArray, List.getElem_cons_zero, List.getElem_cons_succ]
          refine wpAnyH_done (by kernel_rfl) ?_ _
          clear hHeld
          have HN := Lib.hid (HO.out (fun h => g2 h.2))
          go_wp2_with fail
          go_roundw
          case rel => exact ⟨k + 1, ⟨tq, sq, nq, ⟨x1q, m1q, y1q⟩, ⟨x2q, m2q, y2q⟩, ⟨x3q, m3q, y3q⟩, ⟨x4q, m4q, y4q⟩⟩, by omega, by rw [HN.out], by go_num, hbq.out.drew, by rw [HN.out]; exact hsq.out.below (Below.refl _ _).drew, hbr.out.drew⟩
          case measure => simp [intOf]; omega
      · have d1 : decide (i6 ≤ v) = false := decide_eq_false g1
        refine wp_region_held_drew (S := (fun w' => (w'.cell? ⟨b, o + k, none⟩ = some (.int .i64 v) ∧ w'.cell? ⟨w4.heap.size, 5, none⟩ = some (.int .i64 i5) ∧ w'.cell? ⟨w4.heap.size, 6, none⟩ = some (.int .i64 i6)))) (by kernel_rfl) (HKK.out _ HBR.out.drew HLR.out.drew) (fun hHeld => ?_)
        refine wpAnyH_take (i := 0) (oi := _) (v := ?v0_54) rfl (by kernel_rfl) (by kernel_rfl) (by kernel_rfl) (fun _ _ _ h => h) (Or.inl ⟨by rfl, ?hy0_54⟩) (by assumption) ?rest0_54
        case hy0_54 =>
          intro w hSw
          (try dsimp only at hSw)
          go_simp
          rfl
        case' rest0_54 => try simp only [Act.put, List.setIfInBounds_toArray, List.set_cons_zero, List.set_cons_succ, List.getElem_toArray, List.getElem_cons_zero, List.getElem_cons_succ]
        refine wpAnyH_take (i := 1) (oi := _) (v := ?v1_55) rfl (by kernel_rfl) (by kernel_rfl) (by kernel_rfl) (fun _ _ _ h => h) (Or.inl ⟨by rfl, ?hy1_55⟩) (by assumption) ?rest1_55
        case hy1_55 =>
          intro w hSw
          (try dsimp only at hSw)
          go_simp
          rfl
        case' rest1_55 => try simp only [Act.put, List.setIfInBounds_toArray, List.set_cons_zero, List.set_cons_succ, List.getElem_toArray, List.getElem_cons_zero, List.getElem_cons_succ]
        refine wpAnyH_take (i := 2) (oi := _) (v := ?v2_56) rfl (by kernel_rfl) (by kernel_rfl) (by kernel_rfl) (fun _ _ _ h => h) (Or.inl ⟨by rfl, ?hy2_56⟩) (by assumption) ?rest2_56
        case hy2_56 =>
          intro w hSw
          (try dsimp only at hSw)
          go_simp
          rfl
        case' rest2_56 => try simp only [Act.put, List.setIfInBounds_toArray, List.set_cons_zero, List.set_cons_succ, List.getElem_toArray, List.getElem_cons_zero, List.getElem_cons_succ]
        refine wpAnyH_take (i := 3) (oi := _) (v := ?v3_57) rfl (by kernel_rfl) (by kernel_rfl) (by kernel_rfl) (fun _ _ _ h => h) (Or.inl ⟨by rfl, ?hy3_57⟩) (by assumption) ?rest3_57
        case hy3_57 =>
          intro w hSw
          (try dsimp only at hSw)
          go_simp
          rfl
        case' rest3_57 => try simp only [Act.put, List.setIfInBounds_toArray, List.set_cons_zero, List.set_cons_succ, List.getElem_toArray, List.getElem_cons_zero, List.getElem_cons_succ]
        refine wpAnyH_take (i := 4) (oi := _) (v := ?v4_58) rfl (by kernel_rfl) (by kernel_rfl) (by kernel_rfl) (fun _ _ _ h => h) (Or.inl ⟨by rfl, ?hy4_58⟩) (by assumption) ?rest4_58
        case hy4_58 =>
          intro w hSw
          (try dsimp only at hSw)
          go_simp
          rfl
        case' rest4_58 => try simp only [Act.put, List.setIfInBounds_toArray, List.set_cons_zero, List.set_cons_succ, List.getElem_toArray, List.getElem_cons_zero, List.getElem_cons_succ]
        refine wpAnyH_take (i := 5) (oi := _) (v := ?v5_59) rfl (by kernel_rfl) (by kernel_rfl) (by kernel_rfl) (fun _ _ _ h => h) (Or.inl ⟨by rfl, ?hy5_59⟩) (by assumption) ?rest5_59
        case hy5_59 =>
          intro w hSw
          (try dsimp only at hSw)
          go_simp
          rfl
        case' rest5_59 => try simp only [Act.put, List.setIfInBounds_toArray, List.set_cons_zero, List.set_cons_succ, List.getElem_toArray, List.getElem_cons_zero, List.getElem_cons_succ]
        refine wpAnyH_take (i := 6) (oi := _) (v := ?v6_60) rfl (by kernel_rfl) (by kernel_rfl) (by kernel_rfl) (fun _ _ _ h => h) (Or.inl ⟨by rfl, ?hy6_60⟩) (by assumption) ?rest6_60
        case hy6_60 =>
          intro w hSw
          (try dsimp only at hSw)
          go_simp
          rfl
        case' rest6_60 => try simp only [Act.put, List.setIfInBounds_toArray, List.set_cons_zero, List.set_cons_succ, List.getElem_toArray, List.getElem_cons_zero, List.getElem_cons_succ]
        refine wpAnyH_take (i := 7) (oi := _) (v := ?v7_61) rfl (by kernel_rfl) (by kernel_rfl) (by kernel_rfl) (fun _ _ _ h => h) (Or.inl ⟨by rfl, ?hy7_61⟩) (by assumption) ?rest7_61
        case hy7_61 =>
          intro w hSw
          (try dsimp only at hSw)
          go_simp
          rfl
        case' rest7_61 => try simp only [Act.put, List.setIfInBounds_toArray, List.set_cons_zero, List.set_cons_succ, List.getElem_toArray, List.getElem_cons_zero, List.getElem_cons_succ]
        refine wpAnyH_skip 8 (some 53) (by kernel_rfl) (by kernel_rfl) (by kernel_rfl) (by kernel_rfl) (fun _ _ _ h => h) (by rfl) (by assumption) ?r8_62
        try simp only [Act.put, List.setIfInBounds_toArray, List.set_cons_zero, List.set_cons_succ, List.getElem_toArray, List.getElem_cons_zero, List.getElem_cons_succ]
        refine wpAnyH_skip 9 (some 54) (by kernel_rfl) (by kernel_rfl) (by kernel_rfl) (by kernel_rfl) (fun _ _ _ h => h) (by rfl) (by assumption) ?r9_63
        try simp only [Act.put, List.setIfInBounds_toArray, List.set_cons_zero, List.set_cons_succ, List.getElem_toArray, List.getElem_cons_zero, List.getElem_cons_succ]
        refine wpAnyH_skip 10 (some 55) (by kernel_rfl) (by kernel_rfl) (by kernel_rfl) (by kernel_rfl) (fun _ _ _ h => h) (by rfl) (by assumption) ?r10_64
        try simp only [Act.put, List.setIfInBounds_toArray, List.set_cons_zero, List.set_cons_succ, List.getElem_toArray, List.getElem_cons_zero, List.getElem_cons_succ]
        refine wpAnyH_skip 11 (some 56) (by kernel_rfl) (by kernel_rfl) (by kernel_rfl) (by kernel_rfl) (fun _ _ _ h => h) (by rfl) (by assumption) ?r11_65
        try simp only [Act.put, List.setIfInBounds_toArray, List.set_cons_zero, List.set_cons_succ, List.getElem_toArray, List.getElem_cons_zero, List.getElem_cons_succ]
        refine wpAnyH_skip 12 (some 57) (by kernel_rfl) (by kernel_rfl) (by kernel_rfl) (by kernel_rfl) (fun _ _ _ h => h) (by rfl) (by assumption) ?r12_66
        try simp only [Act.put, List.setIfInBounds_toArray, List.set_cons_zero, List.set_cons_succ, List.getElem_toArray, List.getElem_cons_zero, List.getElem_cons_succ]
        refine wpAnyH_skip 13 (some 58) (by kernel_rfl) (by kernel_rfl) (by kernel_rfl) (by kernel_rfl) (fun _ _ _ h => h) (by rfl) (by assumption) ?r13_67
        try simp only [Act.put, List.setIfInBounds_toArray, List.set_cons_zero, List.set_cons_succ, List.getElem_toArray, List.getElem_cons_zero, List.getElem_cons_succ]
        refine wpAnyH_skip 14 (some 59) (by kernel_rfl) (by kernel_rfl) (by kernel_rfl) (by kernel_rfl) (fun _ _ _ h => h) (by rfl) (by assumption) ?r14_68
        try simp only [Act.put, List.setIfInBounds_toArray, List.set_cons_zero, List.set_cons_succ, List.getElem_toArray, List.getElem_cons_zero, List.getElem_cons_succ]
        refine wpAnyH_take (i := 15) (oi := _) (v := ?v15_69) rfl (by kernel_rfl) (by kernel_rfl) (by kernel_rfl) (fun _ _ _ h => h) (Or.inl ⟨by rfl, ?hy15_69⟩) (by assumption) ?rest15_69
        case hy15_69 =>
          intro w hSw
          (try dsimp only at hSw)
          go_simp
          rfl
        case' rest15_69 => try simp only [Act.put, List.setIfInBounds_toArray, List.set_cons_zero, List.set_cons_succ, List.getElem_toArray, List.getElem_cons_zero, List.getElem_cons_succ]
        refine wpAnyH_done (by kernel_rfl) ?_ _
        clear hHeld
        have HN := Lib.hid (HO.out (fun h => g1 h.1))
        go_wp2_with fail
        go_roundw
        case rel => exact ⟨k + 1, ⟨tq, sq, nq, ⟨x1q, m1q, y1q⟩, ⟨x2q, m2q, y2q⟩, ⟨x3q, m3q, y3q⟩, ⟨x4q, m4q, y4q⟩⟩, by omega, by rw [HN.out], by go_num, hbq.out.drew, by rw [HN.out]; exact hsq.out.below (Below.refl _ _).drew, hbr.out.drew⟩
        case measure => simp [intOf]; omega
    · obtain rfl : k = zs.length := by omega
      rw [List.take_length] at hsq
      rw [List.take_length]
      have l2 := HLR.out.cell (j := 2) rfl
      have l3 := HLR.out.cell (j := 3) rfl
      have HRP := Lib.hid (report_new s ⟨term, stamp, next, ⟨a1, n1, c1⟩, ⟨a2, n2, c2⟩, ⟨a3, n3, c3⟩, ⟨a4, n4, c4⟩⟩ 0 i2 i3 le (lateF s ⟨le, i1, i2, i3, i4, i5, i6⟩ zs).1 false wr (HS.out.below HBR.out) (by have := HSZ.out.1; omega) (by have := HSZ.out.2.1; omega) (by have := HSZ.out.2.2.1; omega) (by have := HSZ.out.2.2.2; omega) (findSt_mem HFS.out).1)
      have HTR := Lib.hid hbq.out
      have HSR := Lib.hid hsq.out
      clear HFK hsq hbq
      go_upto_region 15 with (first
        | (have hgq := HB7; clear hgq; refine wpList_store_box laySt rfl (.tmp 12) (.tmp 90) rfl ⟨tp, sp, np, ⟨x1p, m1p, y1p⟩, ⟨x2p, m2p, y2p⟩, ⟨x3p, m3p, y3p⟩, ⟨x4p, m4p, y4p⟩⟩ rfl rfl rfl ?_; intro w8 hw8 ht8 hb8 hs8; have HU8 : Hid (Box w8 w7.heap.size (Raw.cells ⟨tp, sp, np, ⟨x1p, m1p, y1p⟩, ⟨x2p, m2p, y2p⟩, ⟨x3p, m3p, y3p⟩, ⟨x4p, m4p, y4p⟩⟩)) := ⟨hw8, ht8⟩; have HT8 := Lib.hid (HT7.out.next (show 0 < 7 by decide) hb8); have HST8 := Lib.hid (HST7.out.below hb8); have HSR8 := Lib.hid (HSR7.out.below hb8); have HB8 := Lib.hid (below_on HB7.out hb8); clear hw8 ht8 hs8)
        | (go_at_call 22; ((with_reducible refine HRP.out.mono ?_); rw [HE.out.1]; rintro e w7 ⟨⟨tp, sp, np, ⟨x1p, m1p, y1p⟩, ⟨x2p, m2p, y2p⟩, ⟨x3p, m3p, y3p⟩, ⟨x4p, m4p, y4p⟩⟩, rfl, hst7, hb7⟩; have HST7 := Lib.hid (hst7.mono (Nat.zero_le _)); have HT7 := Lib.hid (HTR.out.next (show 0 < 7 by decide) hb7); have HSR7 := Lib.hid (HSR.out.below hb7); have HB7 := Lib.hid (below_on HBR.out hb7); clear hst7))
        | (refine wpList_load_as laySt rfl (.tmp 3) rfl w.heap.size 0 rfl ⟨term, stamp, next, ⟨a1, n1, c1⟩, ⟨a2, n2, c2⟩, ⟨a3, n3, c3⟩, ⟨a4, n4, c4⟩⟩ (.agg #[.int .i64 term, .int .i64 stamp, .int .i64 next, .slice a1 n1 c1, .slice a2 n2 c2, .slice a3 n3 c3, .slice a4 n4 c4]) rfl HXR.out.range ?_))
      have HK : Hid (∀ w', Box w' w5.heap.size (Raw.cells ⟨tq, sq, nq, ⟨x1q, m1q, y1q⟩, ⟨x2q, m2q, y2q⟩, ⟨x3q, m3q, y3q⟩, ⟨x4q, m4q, y4q⟩⟩) → Box w' w7.heap.size (Raw.cells ⟨tp, sp, np, ⟨x1p, m1p, y1p⟩, ⟨x2p, m2p, y2p⟩, ⟨x3p, m3p, y3p⟩, ⟨x4p, m4p, y4p⟩⟩) → (w'.cell? ⟨w5.heap.size, 0, none⟩ = some (.int .i64 tq) ∧ w'.cell? ⟨w5.heap.size, 1, none⟩ = some (.int .i64 sq) ∧ w'.cell? ⟨w5.heap.size, 2, none⟩ = some (.int .i64 nq) ∧ w'.cell? ⟨w5.heap.size, 3, none⟩ = some (.slice x1q m1q y1q) ∧ w'.cell? ⟨w5.heap.size, 4, none⟩ = some (.slice x2q m2q y2q) ∧ w'.cell? ⟨w5.heap.size, 5, none⟩ = some (.slice x3q m3q y3q) ∧ w'.cell? ⟨w5.heap.size, 6, none⟩ = some (.slice x4q m4q y4q) ∧ w'.cell? ⟨w7.heap.size, 0, none⟩ = some (.int .i64 tp) ∧ w'.cell? ⟨w7.heap.size, 1, none⟩ = some (.int .i64 sp) ∧ w'.cell? ⟨w7.heap.size, 2, none⟩ = some (.int .i64 np) ∧ w'.cell? ⟨w7.heap.size, 3, none⟩ = some (.slice x1p m1p y1p) ∧ w'.cell? ⟨w7.heap.size, 4, none⟩ = some (.slice x2p m2p y2p) ∧ w'.cell? ⟨w7.heap.size, 5, none⟩ = some (.slice x3p m3p y3p) ∧ w'.cell? ⟨w7.heap.size, 6, none⟩ = some (.slice x4p m4p y4p))) := fun w' b c => ⟨b.cell (j := 0) rfl, b.cell (j := 1) rfl, b.cell (j := 2) rfl, b.cell (j := 3) rfl, b.cell (j := 4) rfl, b.cell (j := 5) rfl, b.cell (j := 6) rfl, c.cell (j := 0) rfl, c.cell (j := 1) rfl, c.cell (j := 2) rfl, c.cell (j := 3) rfl, c.cell (j := 4) rfl, c.cell (j := 5) rfl, c.cell (j := 6) rfl⟩
      have HFE := Lib.hid (HF.out zs.length)
      have hfe : zs.take zs.length = zs := List.take_length
      have HFE2 : Hid ((lateF s ⟨le, i1, i2, i3, i4, i5, i6⟩ zs).2.tens.length ≤ 60 ∧ (lateF s ⟨le, i1, i2, i3, i4, i5, i6⟩ zs).2.leas.length ≤ 100 ∧ (lateF s ⟨le, i1, i2, i3, i4, i5, i6⟩ zs).2.sess.length ≤ 60 ∧ (lateF s ⟨le, i1, i2, i3, i4, i5, i6⟩ zs).2.dsks.length ≤ 60) := by
        have h1 := HFE.out
        have h2 := HSZ.out
        rw [hfe] at h1
        obtain ⟨-, g1, g2, g3, g4, -, -⟩ := h1
        rw [g3, g4]
        exact ⟨by omega, by omega, h2.2.2.1, h2.2.2.2⟩
      have HCC := Lib.hid (creditS_same (s := (lateF s ⟨le, i1, i2, i3, i4, i5, i6⟩ zs).2) (k := 0) HFE2.out.1)
      have HLS : Hid ((lateS s ⟨le, i1, i2, i3, i4, i5, i6⟩ (lateF s ⟨le, i1, i2, i3, i4, i5, i6⟩ zs).1).tens.length ≤ 60 ∧ (lateS s ⟨le, i1, i2, i3, i4, i5, i6⟩ (lateF s ⟨le, i1, i2, i3, i4, i5, i6⟩ zs).1).leas.length ≤ 100 ∧ (lateS s ⟨le, i1, i2, i3, i4, i5, i6⟩ (lateF s ⟨le, i1, i2, i3, i4, i5, i6⟩ zs).1).sess.length ≤ 60 ∧ (lateS s ⟨le, i1, i2, i3, i4, i5, i6⟩ (lateF s ⟨le, i1, i2, i3, i4, i5, i6⟩ zs).1).dsks.length ≤ 60) := by
        have h2 := HSZ.out
        exact ⟨Nat.le_trans (sweepS_length _ _) h2.1, Nat.le_trans (afterL_length _ _ _) h2.2.1, h2.2.2.1, h2.2.2.2⟩
      clear hfe HFE
      refine wp_region_held_drew (S := (fun w' => (w'.cell? ⟨w5.heap.size, 0, none⟩ = some (.int .i64 tq) ∧ w'.cell? ⟨w5.heap.size, 1, none⟩ = some (.int .i64 sq) ∧ w'.cell? ⟨w5.heap.size, 2, none⟩ = some (.int .i64 nq) ∧ w'.cell? ⟨w5.heap.size, 3, none⟩ = some (.slice x1q m1q y1q) ∧ w'.cell? ⟨w5.heap.size, 4, none⟩ = some (.slice x2q m2q y2q) ∧ w'.cell? ⟨w5.heap.size, 5, none⟩ = some (.slice x3q m3q y3q) ∧ w'.cell? ⟨w5.heap.size, 6, none⟩ = some (.slice x4q m4q y4q) ∧ w'.cell? ⟨w7.heap.size, 0, none⟩ = some (.int .i64 tp) ∧ w'.cell? ⟨w7.heap.size, 1, none⟩ = some (.int .i64 sp) ∧ w'.cell? ⟨w7.heap.size, 2, none⟩ = some (.int .i64 np) ∧ w'.cell? ⟨w7.heap.size, 3, none⟩ = some (.slice x1p m1p y1p) ∧ w'.cell? ⟨w7.heap.size, 4, none⟩ = some (.slice x2p m2p y2p) ∧ w'.cell? ⟨w7.heap.size, 5, none⟩ = some (.slice x3p m3p y3p) ∧ w'.cell? ⟨w7.heap.size, 6, none⟩ = some (.slice x4p m4p y4p)))) (by kernel_rfl) (HK.out _ HT8.out.drew HU8.out.drew) (fun hHeld => ?_)
      refine wpAnyH_take (i := 0) (oi := _) (v := ?v0_29) rfl (by kernel_rfl) (by kernel_rfl) (by kernel_rfl) (fun _ _ _ h => h) (Or.inl ⟨by rfl, ?hy0_29⟩) (by assumption) ?rest0_29
      case hy0_29 =>
        intro w hSw
        (try dsimp only at hSw)
        go_simp
        rfl
      case' rest0_29 => try simp only [Act.put, List.setIfInBounds_toArray, List.set_cons_zero, List.set_cons_succ, List.getElem_toArray, List.getElem_cons_zero, List.getElem_cons_succ]
      refine wpAnyH_take (i := 1) (oi := _) (v := ?v1_30) rfl (by kernel_rfl) (by kernel_rfl) (by kernel_rfl) (fun _ _ _ h => h) (Or.inl ⟨by rfl, ?hy1_30⟩) (by assumption) ?rest1_30
      case hy1_30 =>
        intro w hSw
        (try dsimp only at hSw)
        go_simp
        rfl
      case' rest1_30 => try simp only [Act.put, List.setIfInBounds_toArray, List.set_cons_zero, List.set_cons_succ, List.getElem_toArray, List.getElem_cons_zero, List.getElem_cons_succ]
      refine wpAnyH_take (i := 2) (oi := _) (v := ?v2_31) rfl (by kernel_rfl) (by kernel_rfl) (by kernel_rfl) (fun _ _ _ h => h) (Or.inl ⟨by rfl, ?hy2_31⟩) (by assumption) ?rest2_31
      case hy2_31 =>
        intro w hSw
        (try dsimp only at hSw)
        go_simp
        rfl
      case' rest2_31 => try simp only [Act.put, List.setIfInBounds_toArray, List.set_cons_zero, List.set_cons_succ, List.getElem_toArray, List.getElem_cons_zero, List.getElem_cons_succ]
      refine wpAnyH_take (i := 3) (oi := _) (v := ?v3_32) rfl (by kernel_rfl) (by kernel_rfl) (by kernel_rfl) (fun _ _ _ h => h) (Or.inl ⟨by rfl, ?hy3_32⟩) (by assumption) ?rest3_32
      case hy3_32 =>
        intro w hSw
        (try dsimp only at hSw)
        go_simp
        rfl
      case' rest3_32 => try simp only [Act.put, List.setIfInBounds_toArray, List.set_cons_zero, List.set_cons_succ, List.getElem_toArray, List.getElem_cons_zero, List.getElem_cons_succ]
      refine wpAnyH_take (i := 5) (oi := _) (v := ?v5_33) rfl (by kernel_rfl) (by kernel_rfl) (by kernel_rfl) (fun _ _ _ h => h) (Or.inl ⟨by rfl, ?hy5_33⟩) (by assumption) ?rest5_33
      case hy5_33 =>
        intro w hSw
        (try dsimp only at hSw)
        go_simp
        rfl
      case' rest5_33 => try simp only [Act.put, List.setIfInBounds_toArray, List.set_cons_zero, List.set_cons_succ, List.getElem_toArray, List.getElem_cons_zero, List.getElem_cons_succ]
      refine wpAnyH_ready (rs := [4]) (by kernel_rfl) (by simp) ?_
      refine AllReadyH.cons (o := _) rfl (fun K hK => ?_) AllReadyH.nil
      go_simp
      go_at_call 20
      with_reducible refine (credit_st (lateF s ⟨le, i1, i2, i3, i4, i5, i6⟩ zs).2 ⟨tq, sq, nq, ⟨x1q, m1q, y1q⟩, ⟨x2q, m2q, y2q⟩, ⟨x3q, m3q, y3q⟩, ⟨x4q, m4q, y4q⟩⟩ 0 0 w8.drew (HSR8.out.below (Below.refl _ _).drew) (by have := HFE2.out; omega) (by have := HFE2.out; omega) (by have := HFE2.out; omega) (by have := HFE2.out; omega)).mono ?_
      rintro e w9 ⟨u1, rfl, hu1, hb9a⟩
      have hb9 : Below w8.heap.size w8 w9 := ⟨hb9a.os, hb9a.tape, hb9a.output, hb9a.size, hb9a.block⟩
      clear hb9a
      have HB9 := Lib.hid (below_on HB8.out hb9)
      have HT9 := Lib.hid (HT8.out.next (show 0 < 7 by decide) hb9)
      have HU9 := Lib.hid (HU8.out.next (show 0 < 7 by decide) hb9)
      have HU1 := Lib.hid hu1
      clear hu1
      clear hHeld
      refine hK.out _ _ (HK.out _ HT9.out HU9.out) (fun hHeld => ?_)
      clear hK K
      try simp only [Act.put, List.setIfInBounds_toArray, List.set_cons_zero, List.set_cons_succ, List.getElem_toArray, List.getElem_cons_zero, List.getElem_cons_succ]
      refine wpAnyH_ready (rs := [6]) (by kernel_rfl) (by simp) ?_
      refine AllReadyH.cons (o := _) rfl (fun K hK => ?_) AllReadyH.nil
      go_simp
      go_at_call 20
      with_reducible refine (credit_st (lateS s ⟨le, i1, i2, i3, i4, i5, i6⟩ (lateF s ⟨le, i1, i2, i3, i4, i5, i6⟩ zs).1) ⟨tp, sp, np, ⟨x1p, m1p, y1p⟩, ⟨x2p, m2p, y2p⟩, ⟨x3p, m3p, y3p⟩, ⟨x4p, m4p, y4p⟩⟩ 0 0 w9 (HST8.out.below hb9) (by have := HLS.out; omega) (by have := HLS.out; omega) (by have := HLS.out; omega) (by have := HLS.out; omega)).mono ?_
      rintro e w10 ⟨u2, rfl, hu2, hb10a⟩
      have hb10 : Below w9.heap.size w9 w10 := ⟨hb10a.os, hb10a.tape, hb10a.output, hb10a.size, hb10a.block⟩
      clear hb10a
      have HB10 := Lib.hid (below_on HB9.out hb10)
      have HT10 := Lib.hid (HT9.out.next (show 0 < 7 by decide) hb10)
      have HU10 := Lib.hid (HU9.out.next (show 0 < 7 by decide) hb10)
      have HU2 := Lib.hid hu2
      clear hu2
      have HU1b := Lib.hid (HU1.out.below hb10)
      clear hHeld
      refine hK.out _ _ (HK.out _ HT10.out HU10.out) (fun hHeld => ?_)
      clear hK K
      try simp only [Act.put, List.setIfInBounds_toArray, List.set_cons_zero, List.set_cons_succ, List.getElem_toArray, List.getElem_cons_zero, List.getElem_cons_succ]
      refine wpAnyH_ready (rs := [7]) (by kernel_rfl) (by simp) ?_
      refine AllReadyH.cons (o := _) rfl (fun K hK => ?_) AllReadyH.nil
      go_simp
      go_at_call 13
      with_reducible refine (same_st (creditS (lateF s ⟨le, i1, i2, i3, i4, i5, i6⟩ zs).2 0) u1 u2 0 0 w10 HU1b.out (by rw [HE.out.2]; exact HU2.out) HCC.out.1 (by have h1 := HCC.out.2.1; rw [h1]; have := HFE2.out; omega) (by have h1 := HCC.out.2.2.1; rw [h1]; have := HFE2.out; omega) (by have h1 := HCC.out.2.2.2; rw [h1]; have := HFE2.out; omega)).mono ?_
      rintro e w11 ⟨rfl, hb11a⟩
      have hb11 : Below w10.heap.size w10 w11 := ⟨hb11a.os, hb11a.tape, hb11a.output, hb11a.size, hb11a.block⟩
      clear hb11a
      have HB11 := Lib.hid (below_on HB10.out hb11)
      have HT11 := Lib.hid (HT10.out.next (show 0 < 7 by decide) hb11)
      have HU11 := Lib.hid (HU10.out.next (show 0 < 7 by decide) hb11)
      clear hHeld
      refine hK.out _ _ (HK.out _ HT11.out HU11.out) (fun hHeld => ?_)
      clear hK K
      try simp only [Act.put, List.setIfInBounds_toArray, List.set_cons_zero, List.set_cons_succ, List.getElem_toArray, List.getElem_cons_zero, List.getElem_cons_succ]
      refine wpAnyH_take (i := 8) (oi := _) (v := ?v8_34) rfl (by kernel_rfl) (by kernel_rfl) (by kernel_rfl) (fun _ _ _ h => h) (Or.inl ⟨by rfl, ?hy8_34⟩) (by assumption) ?rest8_34
      case hy8_34 =>
        intro w hSw
        (try dsimp only at hSw)
        go_simp
        rfl
      case' rest8_34 => try simp only [Act.put, List.setIfInBounds_toArray, List.set_cons_zero, List.set_cons_succ, List.getElem_toArray, List.getElem_cons_zero, List.getElem_cons_succ]
      refine wpAnyH_take (i := 9) (oi := _) (v := ?v9_35) rfl (by kernel_rfl) (by kernel_rfl) (by kernel_rfl) (fun _ _ _ h => h) (Or.inl ⟨by rfl, ?hy9_35⟩) (by assumption) ?rest9_35
      case hy9_35 =>
        intro w hSw
        (try dsimp only at hSw)
        go_simp
        rfl
      case' rest9_35 => try simp only [Act.put, List.setIfInBounds_toArray, List.set_cons_zero, List.set_cons_succ, List.getElem_toArray, List.getElem_cons_zero, List.getElem_cons_succ]
      refine wpAnyH_ready (rs := [10]) (by kernel_rfl) (by simp) ?_
      refine AllReadyH.cons (o := _) rfl (fun K hK => ?_) AllReadyH.nil
      go_simp
      go_at_call 10
      with_reducible refine (wakes_true _).mono ?_
      rintro e w12 ⟨rfl, hb12a⟩
      have hb12 : Below w11.heap.size w11 w12 := ⟨hb12a.os, hb12a.tape, hb12a.output, hb12a.size, hb12a.block⟩
      clear hb12a
      have HB12 := Lib.hid (below_on HB11.out hb12)
      have HT12 := Lib.hid (HT11.out.next (show 0 < 7 by decide) hb12)
      have HU12 := Lib.hid (HU11.out.next (show 0 < 7 by decide) hb12)
      clear hHeld
      refine hK.out _ _ (HK.out _ HT12.out HU12.out) (fun hHeld => ?_)
      clear hK K
      try simp only [Act.put, List.setIfInBounds_toArray, List.set_cons_zero, List.set_cons_succ, List.getElem_toArray, List.getElem_cons_zero, List.getElem_cons_succ]
      refine wpAnyH_take (i := 11) (oi := _) (v := ?v11_36) rfl (by kernel_rfl) (by kernel_rfl) (by kernel_rfl) (fun _ _ _ h => h) (Or.inl ⟨by rfl, ?hy11_36⟩) (by assumption) ?rest11_36
      case hy11_36 =>
        intro w hSw
        (try dsimp only at hSw)
        go_simp
        rfl
      case' rest11_36 => try simp only [Act.put, List.setIfInBounds_toArray, List.set_cons_zero, List.set_cons_succ, List.getElem_toArray, List.getElem_cons_zero, List.getElem_cons_succ]
      refine wpAnyH_take (i := 12) (oi := _) (v := ?v12_37) rfl (by kernel_rfl) (by kernel_rfl) (by kernel_rfl) (fun _ _ _ h => h) (Or.inl ⟨by rfl, ?hy12_37⟩) (by assumption) ?rest12_37
      case hy12_37 =>
        intro w hSw
        (try dsimp only at hSw)
        go_simp
        rfl
      case' rest12_37 => try simp only [Act.put, List.setIfInBounds_toArray, List.set_cons_zero, List.set_cons_succ, List.getElem_toArray, List.getElem_cons_zero, List.getElem_cons_succ]
      refine wpAnyH_done (by kernel_rfl) ?_ _
      clear hHeld
      go_wp2_with fail
      go_returns
      exact ⟨rfl, HB12.out⟩
end Go.Proofs.Ytoofmofaimdhpaa

/- LedgerLate: the walk. -/
namespace Go.Proofs.Ytoofmofaimdhpaa
open Go.ChangeShapes Go.WideShapes Go.ChangeAt Go.RowKit
set_option maxRecDepth 100000

theorem law_llate (s : St) (r : Raw) (le : Int) (za : Option Addr) (zs : List Int) (zn zc : Nat) (w : World) (h : StAt w 0 r s) (hzn : zs.length = zn) (hz : Row w za (zs.map (Value.int .i64))) :
    Calls Try.prog 6 #[r.agg, .int .i64 le, .slice za zn zc] w fun e w' => e = .returned (.bool true) ∧ Below w.heap.size w w' := by
  cases hg : greatB s with
  | true => exact llate_great s r le za zs zn zc w h hzn hz hg
  | false =>
    by_cases hl : 30 < zn
    · exact llate_long s r le za zs zn zc w h hzn hz hg hl
    cases hok : stOk s with
    | false => exact llate_bad s r le za zs zn zc w h hzn hz hg (by omega) hok
    | true =>
      rcases hfs : findSt s le with ⟨⟨i0, i1, i2, i3, i4, i5, i6⟩, ok⟩
      cases ok with
      | false => exact llate_none s r le za zs zn zc w h hzn hz hg (by omega) hok i0 i1 i2 i3 i4 i5 i6 hfs
      | true =>
        have he : i0 = le := (findSt_mem hfs).2.2
        subst he
        exact llate_yes s r i0 za zs zn zc w h hzn hz hg (by omega) hok i1 i2 i3 i4 i5 i6 hfs
end Go.Proofs.Ytoofmofaimdhpaa
