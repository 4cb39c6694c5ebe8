import Derived.Test.YtoofmofaimdhpaaRefCheckSt
import Derived.Test.YtoofmofaimdhpaaPackA4
set_option linter.unusedVariables false
set_option linter.unusedSimpArgs false
namespace Go.Proofs.Ytoofmofaimdhpaa
open Go.ChangeShapes Go.WideShapes Go.ChangeAt Go.RowKit
set_option maxRecDepth 100000

set_option maxHeartbeats 4000000 in
theorem reffind_st (s : St) (r : Raw) (B : Nat) (id : Int) (w : World) (h : StAt w B r s) (hl1 : s.tens.length ≤ 900) (hl2 : s.leas.length ≤ 900) :
    Calls Try.prog 15 #[r.agg, .int .i64 id] w (RetLF w (findSt s id)) := by
  have HCK := Lib.hid (fun w' (hb : Below w.heap.size w w') => refcheck_st s r B w' (h.below hb) hl1 hl2)
  have HN := Lib.hid (findSt_no (s := s) (id := id))
  have HB := Lib.hid (findSt_bad (s := s) (id := id))
  have HY := Lib.hid (fun x h1 h2 => findSt_yes (s := s) (id := id) (x := x) h1 h2)
  generalize findSt s id = res at HN HB HY ⊢
  have hr := h.lea.row
  have hn2 : s.leas.length = r.lea.n := h.lea.len
  obtain ⟨term, stamp, next, ⟨a1, n1, c1⟩, ⟨a2, n2, c2⟩, ⟨a3, n3, c3⟩, ⟨a4, n4, c4⟩⟩ := r
  simp only at hn2 hr
  subst hn2
  clear h
  have HBX : Hid (∀ w', Below (w.heap.size + 2) ((w.alloc (.cells #[.int .i64 term, .int .i64 stamp, .int .i64 next, .slice a1 n1 c1, .slice a2 s.leas.length c2, .slice a3 n3 c3, .slice a4 n4 c4] 27)).alloc (.cells #[.int .i64 0, .int .i64 0, .int .i64 0, .int .i64 0, .int .i64 0, .int .i64 0, .int .i64 0] 38)) w' →
      Box w' w.heap.size (Raw.cells ⟨term, stamp, next, ⟨a1, n1, c1⟩, ⟨a2, s.leas.length, c2⟩, ⟨a3, n3, c3⟩, ⟨a4, n4, c4⟩⟩) ∧ Box w' (w.heap.size + 1) (Lease.cells zeroLea)) := fun w' hb0 => by
    have e : ((w.alloc (.cells #[.int .i64 term, .int .i64 stamp, .int .i64 next, .slice a1 n1 c1, .slice a2 s.leas.length c2, .slice a3 n3 c3, .slice a4 n4 c4] 27)).alloc (.cells #[.int .i64 0, .int .i64 0, .int .i64 0, .int .i64 0, .int .i64 0, .int .i64 0, .int .i64 0] 38)).heap.size = w.heap.size + 2 := by simp
    rw [← e] at hb0
    exact ⟨Box.of_alloc (mid_alloc' hb0), Box.of_alloc1 hb0⟩
  have hbw : Below w.heap.size w ((w.alloc (.cells #[.int .i64 term, .int .i64 stamp, .int .i64 next, .slice a1 n1 c1, .slice a2 s.leas.length c2, .slice a3 n3 c3, .slice a4 n4 c4] 27)).alloc (.cells #[.int .i64 0, .int .i64 0, .int .i64 0, .int .i64 0, .int .i64 0, .int .i64 0, .int .i64 0] 38)) := (by repeat' (first | (with_reducible exact Below.refl _ _) | (with_reducible assumption) | (with_reducible refine Below.drew ?_) | (with_reducible refine Below.more ?_ _) | (with_reducible refine Below.put ?_ ?_ _) | (with_reducible refine Below.next ?_ (by with_reducible assumption)) | (with_reducible exact Nat.le_refl _) | (with_reducible refine Below.size' ?_) | omega))
  have BW := Lib.hid hbw
  clear hbw
  go_enter Try.func15, Try.ntmps15
  go_wp2
  go_loopw [6] (fun i wr => ∃ k : Nat, k ≤ s.leas.length ∧ i = .int .i64 k ∧ Hid (∀ j (h : j < s.leas.length), j < k → (s.leas[j].id == id) = false) ∧ Below (w.heap.size + 2) ((w.alloc (.cells #[.int .i64 term, .int .i64 stamp, .int .i64 next, .slice a1 n1 c1, .slice a2 s.leas.length c2, .slice a3 n3 c3, .slice a4 n4 c4] 27)).alloc (.cells #[.int .i64 0, .int .i64 0, .int .i64 0, .int .i64 0, .int .i64 0, .int .i64 0, .int .i64 0] 38)) wr) (fun i _ => s.leas.length - (intOf i).toNat)
  case atStart => exact ⟨0, by omega, rfl, (fun j _ hj => by omega), Below.refl _ _⟩
  case round =>
    obtain ⟨k, hk, rfl, hno, hb0⟩ := hrel
    have hb : Below w.heap.size w wr := BW.out.trans (hb0.mono (by omega))
    have HB0 := Lib.hid hb0
    have hsz := hb0.size
    simp only [World.size_alloc] at hsz
    have HXR := Lib.hid (HBX.out wr hb0)
    have k4 := HXR.out.1.cell (j := 4) rfl
    by_cases hlt : k < s.leas.length
    · obtain ⟨b, o, ha, hcs⟩ := LRow.range hr hlt
      subst ha
      have HRG := Lib.hid (fun w' hb => hcs w' hb)
      have HKL := Lib.hid hlt
      cases hok : stOk s with
      | false =>
        have HOK := Lib.hid hok
        have HO := Lib.hid (HB.out hok)
        clear hok hcs
        go_wp2_with (first
          | (refine wpList_strip (by rfl) ?_; refine wpList_load_as laySt rfl (.tmp 2) rfl w.heap.size 0 rfl ⟨term, stamp, next, ⟨a1, n1, c1⟩, ⟨some ⟨b, o, none⟩, s.leas.length, c2⟩, ⟨a3, n3, c3⟩, ⟨a4, n4, c4⟩⟩ (.agg #[.int .i64 term, .int .i64 stamp, .int .i64 next, .slice a1 n1 c1, .slice (some ⟨b, o, none⟩) s.leas.length c2, .slice a3 n3 c3, .slice a4 n4 c4]) rfl HXR.out.1.range ?_)
          | (go_at_call 16; ((with_reducible refine (HCK.out wr hb).mono ?_); rw [HOK.out]; rintro e w3 ⟨rfl, hb3⟩; have HZ3 := Lib.hid (HXR.out.2.next (by simp) hb3); have q3 := hb3.size))
          | (refine wpList_store_whole layLea rfl (.tmp 4) (.tmp 31) rfl (w.heap.size + 1) zeroLea _ rfl rfl HZ3.out rfl ?_; intro w4 hbx4 hw4; have HX4 := Lib.hid hbx4; have HW4 := Lib.hid hw4; clear hbx4 hw4))
        have b4 : Below w.heap.size w w4 := (hb.trans (hb3.mono (by omega))).trans (HW4.out.below _ (by omega))
        obtain ⟨j0, j1, j2, j3, j4, j5, j6⟩ := cellsLea0 HX4.out.range
        refine bodyPost_ret (v := .tuple #[Lease.agg zeroLea, .bool false]) (by simp [results, Try.results15, go_sem, j0, j1, j2, j3, j4, j5, j6]) rfl ?_
        exact ⟨by rw [HO.out], b4⟩
      | true =>
        have HOK := Lib.hid hok
        have HYY := Lib.hid (fun x h2 => HY.out x hok h2)
        have HFI : Hid ((s.leas[k].id == id) = true → s.leas.find? (fun x => x.id == id) = some s.leas[k]) := fun h => List.find?_eq_some_iff_getElem.2 ⟨h, k, HKL.out, rfl, fun j hj => by rw [hno.out j (by omega) hj]; rfl⟩
        have HNO : Hid ((s.leas[k].id == id) = false → ∀ j (h : j < s.leas.length), j < k + 1 → (s.leas[j].id == id) = false) := fun h1 j h hj => by
          rcases Nat.lt_succ_iff_lt_or_eq.1 hj with h2 | rfl
          · exact hno.out j h h2
          · exact h1
        clear hok hcs
        generalize s.leas[k] = x at HRG HFI HNO
        obtain ⟨v0, v1, v2, v3, v4, v5, v6⟩ := x
        by_cases he : v0 = id
        · have HO := Lib.hid (HYY.out _ (HFI.out (by simpa using he)))
          go_wp2_with (first
            | (refine wpList_strip (by rfl) ?_; refine wpList_load_as laySt rfl (.tmp 2) rfl w.heap.size 0 rfl ⟨term, stamp, next, ⟨a1, n1, c1⟩, ⟨some ⟨b, o, none⟩, s.leas.length, c2⟩, ⟨a3, n3, c3⟩, ⟨a4, n4, c4⟩⟩ (.agg #[.int .i64 term, .int .i64 stamp, .int .i64 next, .slice a1 n1 c1, .slice (some ⟨b, o, none⟩) s.leas.length c2, .slice a3 n3 c3, .slice a4 n4 c4]) rfl HXR.out.1.range ?_)
            | (go_at_call 16; ((with_reducible refine (HCK.out wr hb).mono ?_); rw [HOK.out]; rintro e w3 ⟨rfl, hb3⟩; have HZ3 := Lib.hid (HXR.out.2.next (by simp) hb3); have q3 := hb3.size; have k4' := (HXR.out.1.next (by simp) hb3).cell (j := 4) rfl; have HR3 := Lib.hid (HRG.out w3 (hb.trans (hb3.mono (by omega)))); have hx0 : w3.cell? ⟨b, o + k * 7, none⟩ = some (.int .i64 v0) := (cellsLea HR3.out).1; clear k4))
            | (refine wpList_load_as layLea rfl (.tmp 29) rfl b (o + k * 7) rfl ⟨v0, v1, v2, v3, v4, v5, v6⟩ (.agg #[.int .i64 v0, .int .i64 v1, .int .i64 v2, .int .i64 v3, .int .i64 v4, .int .i64 v5, .int .i64 v6]) rfl HR3.out ?_)
            | (refine wpList_store_whole layLea rfl (.tmp 4) (.tmp 30) rfl (w.heap.size + 1) ⟨v0, v1, v2, v3, v4, v5, v6⟩ _ rfl rfl HZ3.out rfl ?_; intro w4 hbx4 hw4; have HX4 := Lib.hid hbx4; have HW4 := Lib.hid hw4; clear hbx4 hw4))
          have b4 : Below w.heap.size w w4 := (hb.trans (hb3.mono (by omega))).trans (HW4.out.below _ (by omega))
          obtain ⟨j0, j1, j2, j3, j4, j5, j6⟩ := cellsLea0 HX4.out.range
          refine bodyPost_ret (v := .tuple #[Lease.agg ⟨v0, v1, v2, v3, v4, v5, v6⟩, .bool true]) (by simp [results, Try.results15, go_sem, j0, j1, j2, j3, j4, j5, j6]) rfl ?_
          exact ⟨by rw [HO.out], b4⟩
        · have HNN := Lib.hid (HNO.out (by simpa using he))
          go_wp2_with (first
            | (refine wpList_strip (by rfl) ?_; refine wpList_load_as laySt rfl (.tmp 2) rfl w.heap.size 0 rfl ⟨term, stamp, next, ⟨a1, n1, c1⟩, ⟨some ⟨b, o, none⟩, s.leas.length, c2⟩, ⟨a3, n3, c3⟩, ⟨a4, n4, c4⟩⟩ (.agg #[.int .i64 term, .int .i64 stamp, .int .i64 next, .slice a1 n1 c1, .slice (some ⟨b, o, none⟩) s.leas.length c2, .slice a3 n3 c3, .slice a4 n4 c4]) rfl HXR.out.1.range ?_)
            | (go_at_call 16; ((with_reducible refine (HCK.out wr hb).mono ?_); rw [HOK.out]; rintro e w3 ⟨rfl, hb3⟩; have q3 := hb3.size; have k4' := (HXR.out.1.next (by simp) hb3).cell (j := 4) rfl; have HR3 := Lib.hid (HRG.out w3 (hb.trans (hb3.mono (by omega)))); have hx0 : w3.cell? ⟨b, o + k * 7, none⟩ = some (.int .i64 v0) := (cellsLea HR3.out).1; have HB9 := Lib.hid (HB0.out.trans (hb3.mono (by omega))); clear k4)))
          go_roundw
          case rel => exact ⟨k + 1, by omega, by go_num, HNN.out, HB9.out⟩
          case measure => simp [intOf]; omega
    · obtain rfl : k = s.leas.length := by omega
      have HO := Lib.hid (HN.out (List.find?_eq_none.2 fun x hx => by
        obtain ⟨j, hj, rfl⟩ := List.mem_iff_getElem.1 hx
        rw [hno.out j hj hj]; simp))
      go_wp2_with (refine wpList_store_whole layLea rfl (.tmp 4) (.tmp 31) rfl (w.heap.size + 1) zeroLea _ rfl rfl HXR.out.2 rfl ?_; intro w4 hbx4 hw4; have HX4 := Lib.hid hbx4; have HW4 := Lib.hid hw4; clear hbx4 hw4)
      have b4 : Below w.heap.size w w4 := hb.trans (HW4.out.below _ (by omega))
      obtain ⟨j0, j1, j2, j3, j4, j5, j6⟩ := cellsLea0 HX4.out.range
      refine bodyPost_ret (v := .tuple #[Lease.agg zeroLea, .bool false]) (by simp [results, Try.results15, go_sem, j0, j1, j2, j3, j4, j5, j6]) rfl ?_
      exact ⟨by rw [HO.out], b4⟩
end Go.Proofs.Ytoofmofaimdhpaa
