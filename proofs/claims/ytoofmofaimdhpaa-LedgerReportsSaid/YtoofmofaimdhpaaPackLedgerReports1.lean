import Derived.Test.YtoofmofaimdhpaaPackLedgerCap1
import Derived.Test.YtoofmofaimdhpaaRefCheckSt
import Derived.Test.YtoofmofaimdhpaaPackA4
import Derived.Test.YtoofmofaimdhpaaPackA3
import Derived.BigQuiet
import Derived.Test.YtoofmofaimdhpaaPackA1
import Derived.Test.YtoofmofaimdhpaaPackLedgerGrants1
import Derived.StillTailTactics
set_option linter.unusedVariables false
set_option linter.unusedSimpArgs false
/- The document's report: a lease found by its number, then by its owner; a spending put by a walk over the row. Plain mathematics. -/
namespace Go.Proofs.Ytoofmofaimdhpaa

theorem find_le {s : St} (h : stOk s = true) (sh ep le : Int) : s.leas.find? (leaIs sh ep le) = if (findSt s le).2 = true ∧ (findSt s le).1.shaper = sh ∧ (findSt s le).1.epoch = ep then some (findSt s le).1 else none := by
  have hr := leasOk_rising (stOk_parts h).2.1
  have hfs : findSt s le = match findLea s le with | some x => (x, true) | none => (zeroLea, false) := by unfold findSt; rw [if_pos h]; rfl
  cases hf : findLea s le with
  | none =>
    rw [hf] at hfs
    rw [hfs, if_neg (by simp), List.find?_eq_none]
    intro y hy hp
    unfold findLea findK at hf
    have := List.find?_eq_none.1 hf y hy
    unfold leaIs at hp
    simp at this hp
    exact this hp.1
  | some x =>
    obtain ⟨hx, he⟩ := findK_mem hf
    rw [hf] at hfs
    rw [hfs]
    simp only [true_and]
    by_cases hso : x.shaper = sh ∧ x.epoch = ep
    · rw [if_pos hso]
      exact find_unique hx (by unfold leaIs; simp [he, hso]) (fun y hy hp => rising_eq hr hy hx (by unfold leaIs at hp; simp at hp; omega))
    · rw [if_neg hso, List.find?_eq_none]
      intro y hy hp
      unfold leaIs at hp
      simp at hp
      have := rising_eq hr hy hx (by omega)
      subst this
      exact hso hp.2
def spTo (le sp : Int) (l : List Lease) (i : Nat) : List Lease := spendL le sp (l.take i) ++ l.drop i
theorem spTo_zero (le sp : Int) (l : List Lease) : spTo le sp l 0 = l := by simp [spTo, spendL]
theorem spTo_full (le sp : Int) (l : List Lease) : spTo le sp l l.length = spendL le sp l := by simp [spTo]
theorem spTo_length (le sp : Int) (l : List Lease) (i : Nat) : (spTo le sp l i).length = l.length := by
  unfold spTo; rw [List.length_append, spendL_length, ← List.length_append, List.take_append_drop]
theorem spTo_split (le sp : Int) (l : List Lease) {i : Nat} (h : i < l.length) : spTo le sp l i = spendL le sp (l.take i) ++ l[i] :: l.drop (i + 1) := by
  unfold spTo; rw [List.drop_eq_getElem_cons h]
theorem spTo_next (le sp : Int) (l : List Lease) {i : Nat} (h : i < l.length) : spTo le sp l (i + 1) = spendL le sp (l.take i) ++ (if l[i].id = le then { l[i] with spent := sp } else l[i]) :: l.drop (i + 1) := by
  unfold spTo spendL
  rw [List.take_succ_eq_append_getElem h, List.map_append, List.append_assoc]
  rfl
theorem spTo_len' (le sp : Int) (l : List Lease) {i : Nat} (h : i < l.length) : (spendL le sp (l.take i)).length = i := by
  rw [spendL_length, List.length_take, Nat.min_eq_left (Nat.le_of_lt h)]
theorem spTo_get (le sp : Int) (l : List Lease) {i : Nat} (h : i < l.length) (h' : i < (spTo le sp l i).length) : (spTo le sp l i)[i] = l[i] := by
  have e := spTo_split le sp l h
  have hl := spTo_len' le sp l h
  have : (spTo le sp l i)[i]? = some l[i] := by
    rw [e, List.getElem?_append_right (by omega), hl, Nat.sub_self]; rfl
  rw [List.getElem?_eq_getElem h'] at this
  simpa using this
theorem spTo_hit (le sp : Int) (l : List Lease) {i : Nat} (h : i < l.length) (he : l[i].id = le) : spTo le sp l (i + 1) = (spTo le sp l i).set i { l[i] with spent := sp } := by
  have hl := spTo_len' le sp l h
  rw [spTo_next le sp l h, if_pos he, spTo_split le sp l h, List.set_append_right _ _ (by omega), hl, Nat.sub_self]; rfl
theorem spTo_miss (le sp : Int) (l : List Lease) {i : Nat} (h : i < l.length) (he : l[i].id ≠ le) : spTo le sp l (i + 1) = spTo le sp l i := by
  rw [spTo_next le sp l h, if_neg he, spTo_split le sp l h]
end Go.Proofs.Ytoofmofaimdhpaa

namespace Go.Proofs.Ytoofmofaimdhpaa
open Go.ChangeShapes Go.WideShapes Go.ChangeAt Go.RowKit
set_option maxRecDepth 100000

set_option maxHeartbeats 4000000 in
theorem reffind_st (s : St) (r : Raw) (B : Nat) (id : Int) (w : World) (h : StAt w B r s) (hl1 : s.tens.length ≤ 900) (hl2 : s.leas.length ≤ 900) :
    Calls Try.prog 15 #[r.agg, .int .i64 id] w (RetLF w (findSt s id)) := by
  have HCK := Lib.hid (fun w' (hb : Below w.heap.size w w') => refcheck_st s r B w' (h.below hb) hl1 hl2)
  have HN := Lib.hid (findSt_no (s := s) (id := id))
  have HB := Lib.hid (findSt_bad (s := s) (id := id))
  have HY := Lib.hid (fun x h1 h2 => findSt_yes (s := s) (id := id) (x := x) h1 h2)
  generalize findSt s id = res at HN HB HY ⊢
  have hr := h.lea.row
  have hn2 : s.leas.length = r.lea.n := h.lea.len
  obtain ⟨term, stamp, next, ⟨a1, n1, c1⟩, ⟨a2, n2, c2⟩, ⟨a3, n3, c3⟩, ⟨a4, n4, c4⟩⟩ := r
  simp only at hn2 hr
  subst hn2
  clear h
  have HBX : Hid (∀ w', Below (w.heap.size + 2) ((w.alloc (.cells #[.int .i64 term, .int .i64 stamp, .int .i64 next, .slice a1 n1 c1, .slice a2 s.leas.length c2, .slice a3 n3 c3, .slice a4 n4 c4] 27)).alloc (.cells #[.int .i64 0, .int .i64 0, .int .i64 0, .int .i64 0, .int .i64 0, .int .i64 0, .int .i64 0] 38)) w' →
      Box w' w.heap.size (Raw.cells ⟨term, stamp, next, ⟨a1, n1, c1⟩, ⟨a2, s.leas.length, c2⟩, ⟨a3, n3, c3⟩, ⟨a4, n4, c4⟩⟩) ∧ Box w' (w.heap.size + 1) (Lease.cells zeroLea)) := fun w' hb0 => by
    have e : ((w.alloc (.cells #[.int .i64 term, .int .i64 stamp, .int .i64 next, .slice a1 n1 c1, .slice a2 s.leas.length c2, .slice a3 n3 c3, .slice a4 n4 c4] 27)).alloc (.cells #[.int .i64 0, .int .i64 0, .int .i64 0, .int .i64 0, .int .i64 0, .int .i64 0, .int .i64 0] 38)).heap.size = w.heap.size + 2 := by simp
    rw [← e] at hb0
    exact ⟨Box.of_alloc (mid_alloc' hb0), Box.of_alloc1 hb0⟩
  have hbw : Below w.heap.size w ((w.alloc (.cells #[.int .i64 term, .int .i64 stamp, .int .i64 next, .slice a1 n1 c1, .slice a2 s.leas.length c2, .slice a3 n3 c3, .slice a4 n4 c4] 27)).alloc (.cells #[.int .i64 0, .int .i64 0, .int .i64 0, .int .i64 0, .int .i64 0, .int .i64 0, .int .i64 0] 38)) := (by repeat' (first | (with_reducible exact Below.refl _ _) | (with_reducible assumption) | (with_reducible refine Below.drew ?_) | (with_reducible refine Below.more ?_ _) | (with_reducible refine Below.put ?_ ?_ _) | (with_reducible refine Below.next ?_ (by with_reducible assumption)) | (with_reducible exact Nat.le_refl _) | (with_reducible refine Below.size' ?_) | omega))
  have BW := Lib.hid hbw
  clear hbw
  go_enter Try.func15, Try.ntmps15
  go_wp2
  go_loopw [6] (fun i wr => ∃ k : Nat, k ≤ s.leas.length ∧ i = .int .i64 k ∧ Hid (∀ j (h : j < s.leas.length), j < k → (s.leas[j].id == id) = false) ∧ Below (w.heap.size + 2) ((w.alloc (.cells #[.int .i64 term, .int .i64 stamp, .int .i64 next, .slice a1 n1 c1, .slice a2 s.leas.length c2, .slice a3 n3 c3, .slice a4 n4 c4] 27)).alloc (.cells #[.int .i64 0, .int .i64 0, .int .i64 0, .int .i64 0, .int .i64 0, .int .i64 0, .int .i64 0] 38)) wr) (fun i _ => s.leas.length - (intOf i).toNat)
  case atStart => exact ⟨0, by omega, rfl, (fun j _ hj => by omega), Below.refl _ _⟩
  case round =>
    obtain ⟨k, hk, rfl, hno, hb0⟩ := hrel
    have hb : Below w.heap.size w wr := BW.out.trans (hb0.mono (by omega))
    have HB0 := Lib.hid hb0
    have hsz := hb0.size
    simp only [World.size_alloc] at hsz
    have HXR := Lib.hid (HBX.out wr hb0)
    have k4 := HXR.out.1.cell (j := 4) rfl
    by_cases hlt : k < s.leas.length
    · obtain ⟨b, o, ha, hcs⟩ := LRow.range hr hlt
      subst ha
      have HRG := Lib.hid (fun w' hb => hcs w' hb)
      have HKL := Lib.hid hlt
      cases hok : stOk s with
      | false =>
        have HOK := Lib.hid hok
        have HO := Lib.hid (HB.out hok)
        clear hok hcs
        go_wp2_with (first
          | (refine wpList_strip (by rfl) ?_; refine wpList_load_as laySt rfl (.tmp 2) rfl w.heap.size 0 rfl ⟨term, stamp, next, ⟨a1, n1, c1⟩, ⟨some ⟨b, o, none⟩, s.leas.length, c2⟩, ⟨a3, n3, c3⟩, ⟨a4, n4, c4⟩⟩ (.agg #[.int .i64 term, .int .i64 stamp, .int .i64 next, .slice a1 n1 c1, .slice (some ⟨b, o, none⟩) s.leas.length c2, .slice a3 n3 c3, .slice a4 n4 c4]) rfl HXR.out.1.range ?_)
          | (go_at_call 16; ((with_reducible refine (HCK.out wr hb).mono ?_); rw [HOK.out]; rintro e w3 ⟨rfl, hb3⟩; have HZ3 := Lib.hid (HXR.out.2.next (by simp) hb3); have q3 := hb3.size))
          | (refine wpList_store_whole layLea rfl (.tmp 4) (.tmp 31) rfl (w.heap.size + 1) zeroLea _ rfl rfl HZ3.out rfl ?_; intro w4 hbx4 hw4; have HX4 := Lib.hid hbx4; have HW4 := Lib.hid hw4; clear hbx4 hw4))
        have b4 : Below w.heap.size w w4 := (hb.trans (hb3.mono (by omega))).trans (HW4.out.below _ (by omega))
        obtain ⟨j0, j1, j2, j3, j4, j5, j6⟩ := cellsLea0 HX4.out.range
        refine bodyPost_ret (v := .tuple #[Lease.agg zeroLea, .bool false]) (by simp [results, Try.results15, go_sem, j0, j1, j2, j3, j4, j5, j6]) rfl ?_
        exact ⟨by rw [HO.out], b4⟩
      | true =>
        have HOK := Lib.hid hok
        have HYY := Lib.hid (fun x h2 => HY.out x hok h2)
        have HFI : Hid ((s.leas[k].id == id) = true → s.leas.find? (fun x => x.id == id) = some s.leas[k]) := fun h => List.find?_eq_some_iff_getElem.2 ⟨h, k, HKL.out, rfl, fun j hj => by rw [hno.out j (by omega) hj]; rfl⟩
        have HNO : Hid ((s.leas[k].id == id) = false → ∀ j (h : j < s.leas.length), j < k + 1 → (s.leas[j].id == id) = false) := fun h1 j h hj => by
          rcases Nat.lt_succ_iff_lt_or_eq.1 hj with h2 | rfl
          · exact hno.out j h h2
          · exact h1
        clear hok hcs
        generalize s.leas[k] = x at HRG HFI HNO
        obtain ⟨v0, v1, v2, v3, v4, v5, v6⟩ := x
        by_cases he : v0 = id
        · have HO := Lib.hid (HYY.out _ (HFI.out (by simpa using he)))
          go_wp2_with (first
            | (refine wpList_strip (by rfl) ?_; refine wpList_load_as laySt rfl (.tmp 2) rfl w.heap.size 0 rfl ⟨term, stamp, next, ⟨a1, n1, c1⟩, ⟨some ⟨b, o, none⟩, s.leas.length, c2⟩, ⟨a3, n3, c3⟩, ⟨a4, n4, c4⟩⟩ (.agg #[.int .i64 term, .int .i64 stamp, .int .i64 next, .slice a1 n1 c1, .slice (some ⟨b, o, none⟩) s.leas.length c2, .slice a3 n3 c3, .slice a4 n4 c4]) rfl HXR.out.1.range ?_)
            | (go_at_call 16; ((with_reducible refine (HCK.out wr hb).mono ?_); rw [HOK.out]; rintro e w3 ⟨rfl, hb3⟩; have HZ3 := Lib.hid (HXR.out.2.next (by simp) hb3); have q3 := hb3.size; have k4' := (HXR.out.1.next (by simp) hb3).cell (j := 4) rfl; have HR3 := Lib.hid (HRG.out w3 (hb.trans (hb3.mono (by omega)))); have hx0 : w3.cell? ⟨b, o + k * 7, none⟩ = some (.int .i64 v0) := (cellsLea HR3.out).1; clear k4))
            | (refine wpList_load_as layLea rfl (.tmp 29) rfl b (o + k * 7) rfl ⟨v0, v1, v2, v3, v4, v5, v6⟩ (.agg #[.int .i64 v0, .int .i64 v1, .int .i64 v2, .int .i64 v3, .int .i64 v4, .int .i64 v5, .int .i64 v6]) rfl HR3.out ?_)
            | (refine wpList_store_whole layLea rfl (.tmp 4) (.tmp 30) rfl (w.heap.size + 1) ⟨v0, v1, v2, v3, v4, v5, v6⟩ _ rfl rfl HZ3.out rfl ?_; intro w4 hbx4 hw4; have HX4 := Lib.hid hbx4; have HW4 := Lib.hid hw4; clear hbx4 hw4))
          have b4 : Below w.heap.size w w4 := (hb.trans (hb3.mono (by omega))).trans (HW4.out.below _ (by omega))
          obtain ⟨j0, j1, j2, j3, j4, j5, j6⟩ := cellsLea0 HX4.out.range
          refine bodyPost_ret (v := .tuple #[Lease.agg ⟨v0, v1, v2, v3, v4, v5, v6⟩, .bool true]) (by simp [results, Try.results15, go_sem, j0, j1, j2, j3, j4, j5, j6]) rfl ?_
          exact ⟨by rw [HO.out], b4⟩
        · have HNN := Lib.hid (HNO.out (by simpa using he))
          go_wp2_with (first
            | (refine wpList_strip (by rfl) ?_; refine wpList_load_as laySt rfl (.tmp 2) rfl w.heap.size 0 rfl ⟨term, stamp, next, ⟨a1, n1, c1⟩, ⟨some ⟨b, o, none⟩, s.leas.length, c2⟩, ⟨a3, n3, c3⟩, ⟨a4, n4, c4⟩⟩ (.agg #[.int .i64 term, .int .i64 stamp, .int .i64 next, .slice a1 n1 c1, .slice (some ⟨b, o, none⟩) s.leas.length c2, .slice a3 n3 c3, .slice a4 n4 c4]) rfl HXR.out.1.range ?_)
            | (go_at_call 16; ((with_reducible refine (HCK.out wr hb).mono ?_); rw [HOK.out]; rintro e w3 ⟨rfl, hb3⟩; have q3 := hb3.size; have k4' := (HXR.out.1.next (by simp) hb3).cell (j := 4) rfl; have HR3 := Lib.hid (HRG.out w3 (hb.trans (hb3.mono (by omega)))); have hx0 : w3.cell? ⟨b, o + k * 7, none⟩ = some (.int .i64 v0) := (cellsLea HR3.out).1; have HB9 := Lib.hid (HB0.out.trans (hb3.mono (by omega))); clear k4)))
          go_roundw
          case rel => exact ⟨k + 1, by omega, by go_num, HNN.out, HB9.out⟩
          case measure => simp [intOf]; omega
    · obtain rfl : k = s.leas.length := by omega
      have HO := Lib.hid (HN.out (List.find?_eq_none.2 fun x hx => by
        obtain ⟨j, hj, rfl⟩ := List.mem_iff_getElem.1 hx
        rw [hno.out j hj hj]; simp))
      go_wp2_with (refine wpList_store_whole layLea rfl (.tmp 4) (.tmp 31) rfl (w.heap.size + 1) zeroLea _ rfl rfl HXR.out.2 rfl ?_; intro w4 hbx4 hw4; have HX4 := Lib.hid hbx4; have HW4 := Lib.hid hw4; clear hbx4 hw4)
      have b4 : Below w.heap.size w w4 := hb.trans (HW4.out.below _ (by omega))
      obtain ⟨j0, j1, j2, j3, j4, j5, j6⟩ := cellsLea0 HX4.out.range
      refine bodyPost_ret (v := .tuple #[Lease.agg zeroLea, .bool false]) (by simp [results, Try.results15, go_sem, j0, j1, j2, j3, j4, j5, j6]) rfl ?_
      exact ⟨by rw [HO.out], b4⟩
end Go.Proofs.Ytoofmofaimdhpaa

namespace Go.Proofs.Ytoofmofaimdhpaa
open Go.ChangeShapes Go.WideShapes Go.ChangeAt Go.RowKit
set_option maxRecDepth 100000

def woS (s : St) (le : Int) : St := { s with leas := s.leas.filter fun y => !decide (y.id = le) }
/-- Only the leases' row is new. -/
def RetWo (w : World) (B : Nat) (r : Raw) (wo : St) (e : Ending) (w' : World) : Prop := ∃ sl : Sli, e = .returned (Raw.agg ⟨r.term, r.stamp, r.next, r.ten, sl, r.ses, r.dsk⟩) ∧ SliAt layLea w' B sl wo.leas ∧ Near w.heap.size none sl.a ∧ Below w.heap.size w w'
theorem el_leasW : Elem Try.prog 23 38 7 56 := layLea.elem Try.underlying23

set_option maxHeartbeats 4000000 in
theorem refwithout_st (s : St) (r : Raw) (B : Nat) (le : Int) (w : World) (h : StAt w B r s) (hl2 : s.leas.length ≤ 900) (hB : B ≤ w.heap.size) :
    Calls Try.prog 56 #[r.agg, .int .i64 le] w (RetWo w B r (woS s le)) := by
  obtain ⟨term, stamp, next, ⟨a1, n1, c1⟩, ⟨a2, n2, c2⟩, ⟨a3, n3, c3⟩, ⟨a4, n4, c4⟩⟩ := r
  have HS := Lib.hid h
  have hr := h.lea.row
  have hn2 : s.leas.length = n2 := h.lea.len
  subst hn2
  simp only at hr
  have HTK := Lib.hid (fun k (hk : k < s.leas.length) => List.take_succ_eq_append_getElem hk)
  have HEND : Hid ((s.leas.take s.leas.length).filter (fun y => !decide (y.id = le)) = (woS s le).leas) := by show _ = _; rw [List.take_length]; rfl
  have HWO : Hid (∀ l, l = (woS s le).leas → woS s le = { s with leas := l }) := fun l e => by rw [e]; rfl
  generalize woS s le = wo at HEND HWO ⊢
  have HBX : Hid (∀ w', Below (w.heap.size + 2) ((w.alloc (.cells #[.int .i64 term, .int .i64 stamp, .int .i64 next, .slice a1 n1 c1, .slice a2 s.leas.length c2, .slice a3 n3 c3, .slice a4 n4 c4] 27)).alloc (.cells #[.int .i64 0, .int .i64 0, .int .i64 0, .slice none 0 0, .slice none 0 0, .slice none 0 0, .slice none 0 0] 27)) w' →
      Box w' w.heap.size (Raw.cells ⟨term, stamp, next, ⟨a1, n1, c1⟩, ⟨a2, s.leas.length, c2⟩, ⟨a3, n3, c3⟩, ⟨a4, n4, c4⟩⟩) ∧ Box w' (w.heap.size + 1) (Raw.cells ⟨0, 0, 0, ⟨none, 0, 0⟩, ⟨none, 0, 0⟩, ⟨none, 0, 0⟩, ⟨none, 0, 0⟩⟩)) := fun w' hb0 => by
    have e : ((w.alloc (.cells #[.int .i64 term, .int .i64 stamp, .int .i64 next, .slice a1 n1 c1, .slice a2 s.leas.length c2, .slice a3 n3 c3, .slice a4 n4 c4] 27)).alloc (.cells #[.int .i64 0, .int .i64 0, .int .i64 0, .slice none 0 0, .slice none 0 0, .slice none 0 0, .slice none 0 0] 27)).heap.size = w.heap.size + 2 := by simp
    rw [← e] at hb0
    exact ⟨Box.of_alloc (mid_alloc' hb0), Box.of_alloc1 hb0⟩
  have hbw : Below w.heap.size w ((w.alloc (.cells #[.int .i64 term, .int .i64 stamp, .int .i64 next, .slice a1 n1 c1, .slice a2 s.leas.length c2, .slice a3 n3 c3, .slice a4 n4 c4] 27)).alloc (.cells #[.int .i64 0, .int .i64 0, .int .i64 0, .slice none 0 0, .slice none 0 0, .slice none 0 0, .slice none 0 0] 27)) := (by repeat' (first | (with_reducible exact Below.refl _ _) | (with_reducible assumption) | (with_reducible refine Below.drew ?_) | (with_reducible refine Below.more ?_ _) | (with_reducible refine Below.put ?_ ?_ _) | (with_reducible refine Below.next ?_ (by with_reducible assumption)) | (with_reducible exact Nat.le_refl _) | (with_reducible refine Below.size' ?_) | omega))
  have BW := Lib.hid hbw
  clear h hbw
  go_enter Try.func56, Try.ntmps56
  go_wp2
  go_loopw [5, 6] (fun l i wr => ∃ k : Nat, ∃ a c, k ≤ s.leas.length ∧ i = .int .i64 k ∧ l = .slice a ((s.leas.take k).filter (fun y => !decide (y.id = le))).length c ∧ Hid (wr.ownsRow (w.heap.size + 2) 38 7 (.slice a ((s.leas.take k).filter (fun y => !decide (y.id = le))).length c) ((s.leas.take k).filter (fun y => !decide (y.id = le))).length (((s.leas.take k).filter (fun y => !decide (y.id = le))).flatMap layLea.cells)) ∧
      Below (w.heap.size + 2) ((w.alloc (.cells #[.int .i64 term, .int .i64 stamp, .int .i64 next, .slice a1 n1 c1, .slice a2 s.leas.length c2, .slice a3 n3 c3, .slice a4 n4 c4] 27)).alloc (.cells #[.int .i64 0, .int .i64 0, .int .i64 0, .slice none 0 0, .slice none 0 0, .slice none 0 0, .slice none 0 0] 27)) wr) (fun _ i _ => s.leas.length - (intOf i).toNat)
  case atStart => exact ⟨0, none, 0, by omega, rfl, rfl, World.ownsRow_nil _ _ _ _, Below.refl _ _⟩
  case round =>
    obtain ⟨k, a, c, hk, rfl, rfl, hown, hb0⟩ := hrel
    have hb : Below w.heap.size w wr := BW.out.trans (hb0.mono (by omega))
    have HXR := Lib.hid (HBX.out wr hb0)
    have hsz := hb0.size
    simp only [World.size_alloc] at hsz
    have k4 := HXR.out.1.cell (j := 4) rfl
    have HB0 := Lib.hid hb0
    by_cases hlt : k < s.leas.length
    · have HT1 := Lib.hid (HTK.out k hlt)
      obtain ⟨b, o, ha, hcs⟩ := LRow.range hr hlt
      subst ha
      have HRG := Lib.hid (hcs wr hb)
      have hx0 : wr.cell? ⟨b, o + k * 7, none⟩ = some (.int .i64 s.leas[k].id) := (cellsLea (HRG.out)).1
      generalize s.leas[k] = x at hx0 HRG HT1
      obtain ⟨v0, v1, v2, v3, v4, v5, v6⟩ := x
      simp only at hx0
      clear hcs
      have hfl : ((s.leas.take k).filter (fun y => !decide (y.id = le))).length ≤ k := by
        have := List.length_filter_le (fun y : Lease => !decide (y.id = le)) (s.leas.take k)
        rw [List.length_take] at this; omega
      by_cases he : v0 = le
      · have HF : Hid ((s.leas.take (k + 1)).filter (fun y => !decide (y.id = le)) = (s.leas.take k).filter (fun y => !decide (y.id = le))) := by show _ = _; rw [HT1.out, List.filter_append]; simp [he]
        go_wp2
        go_roundw
        case rel => exact ⟨k + 1, a, c, by omega, by go_num, by rw [HF.out], by show World.ownsRow _ _ _ _ _ _ _; rw [HF.out]; exact hown.out, HB0.out⟩
        case measure => simp [intOf]; omega
      · have HF : Hid ((s.leas.take (k + 1)).filter (fun y => !decide (y.id = le)) = (s.leas.take k).filter (fun y => !decide (y.id = le)) ++ [⟨v0, v1, v2, v3, v4, v5, v6⟩]) := by show _ = _; rw [HT1.out, List.filter_append]; simp [he]
        go_wp2_with (first
          | (refine wpList_load_as layLea rfl (.tmp 26) rfl b (o + k * 7) rfl ⟨v0, v1, v2, v3, v4, v5, v6⟩ (.agg #[.int .i64 v0, .int .i64 v1, .int .i64 v2, .int .i64 v3, .int .i64 v4, .int .i64 v5, .int .i64 v6]) rfl HRG.out ?_)
          | (at_builtin; refine wpList_app el_leasW rfl _ _ rfl (w.heap.size + 2) _ ((s.leas.take k).filter (fun y => !decide (y.id = le))).length _ rfl (hown.out.alloc _) (some ⟨wr.heap.size, 0, none⟩) 1 1 [.int .i64 v0, .int .i64 v1, .int .i64 v2, .int .i64 v3, .int .i64 v4, .int .i64 v5, .int .i64 v6] rfl rfl (Row.new _ _ _ _) (layLea.one ⟨v0, v1, v2, v3, v4, v5, v6⟩) (by omega) (by simp; omega) ?_; intro a2' c2' w4 hown4 hg4; have hb4 := Below.app (HB0.out.alloc (by omega) _) (hown.out.alloc _) hg4 (by simp; omega); have HO4 := Lib.hid hown4; have HB4 := Lib.hid hb4; clear hg4 hown4 hb4))
        go_roundw
        case rel => exact ⟨k + 1, a2', c2', by omega, by go_num, by rw [HF.out]; simp, by show World.ownsRow _ _ _ _ _ _ _; rw [HF.out, List.length_append, List.flatMap_append, List.flatMap_cons, List.flatMap_nil, List.append_nil]; exact HO4.out, HB4.out⟩
        case measure => simp [intOf]; omega
    · obtain rfl : k = s.leas.length := by omega
      have hown' := hown.out
      rw [HEND.out] at hown' ⊢
      have HOW := Lib.hid hown'
      have HLEN : Hid (wo.leas.length = wo.leas.length) := rfl
      clear hown hown'
      generalize hll : wo.leas = ll at HOW ⊢
      have HLL := Lib.hid hll
      clear hll
      go_wp2_with (first
        | (refine wpList_store_field rfl (.tmp 31) (.tmp 30) rfl size1_slice.1 w.heap.size 4 _ (.slice a ll.length c) rfl rfl rfl rfl HXR.out.1 (by simp) ?_; intro w6 hbx6 hw6; have HX6 : Hid (Box w6 w.heap.size (Raw.cells ⟨term, stamp, next, ⟨a1, n1, c1⟩, ⟨a, ll.length, c⟩, ⟨a3, n3, c3⟩, ⟨a4, n4, c4⟩⟩)) := hbx6; have HW6 := Lib.hid hw6; have HZ6 := Lib.hid (HXR.out.2.wrote hw6 (by omega)); have q6 := hw6.size; clear hbx6 hw6)
        | (refine wpList_load_as laySt rfl (.tmp 2) rfl w.heap.size 0 rfl ⟨term, stamp, next, ⟨a1, n1, c1⟩, ⟨a, ll.length, c⟩, ⟨a3, n3, c3⟩, ⟨a4, n4, c4⟩⟩ (.agg #[.int .i64 term, .int .i64 stamp, .int .i64 next, .slice a1 n1 c1, .slice a ll.length c, .slice a3 n3 c3, .slice a4 n4 c4]) rfl HX6.out.range ?_)
        | (refine wpList_store_whole laySt rfl (.tmp 4) (.tmp 32) rfl (w.heap.size + 1) ⟨term, stamp, next, ⟨a1, n1, c1⟩, ⟨a, ll.length, c⟩, ⟨a3, n3, c3⟩, ⟨a4, n4, c4⟩⟩ _ rfl rfl HZ6.out rfl ?_; intro w7 hbx7 hw7; have HX7 := Lib.hid hbx7; have HW7 := Lib.hid hw7; clear hbx7 hw7))
      have b7 : Below w.heap.size w w7 := (hb.trans (HW6.out.below _ (Nat.le_refl _))).trans (HW7.out.below _ (by omega))
      obtain ⟨k0, k1, k2, k3, k4, k5, k6⟩ := cellsSt0 HX7.out.range
      refine bodyPost_ret (v := .agg #[.int .i64 term, .int .i64 stamp, .int .i64 next, .slice a1 n1 c1, .slice a ll.length c, .slice a3 n3 c3, .slice a4 n4 c4]) (by simp [results, Try.results56, go_sem, k0, k1, k2, k3, k4, k5, k6]) rfl ?_
      have m67 : Mid (w.heap.size + 2) wr.heap.size wr w7 := ((Mid.refl _ _ _).wrote HW6.out (.inl (by omega))).wrote HW7.out (.inl (by omega))
      have o7 := own_mid HOW.out m67 (Nat.le_refl _) (Nat.le_refl _)
      obtain ⟨_, _, hv, h1, _, h3⟩ := own_slice o7
      simp only [Value.slice.injEq] at hv
      obtain ⟨rfl, _, rfl⟩ := hv
      refine ⟨⟨a, ll.length, c⟩, rfl, ?_, Near.own o7 (by omega), b7⟩
      rw [HLL.out]
      exact ⟨rfl, h1, h3, Near.own o7 (by omega), own_row o7⟩
end Go.Proofs.Ytoofmofaimdhpaa

namespace Go.Proofs.Ytoofmofaimdhpaa
open Go.ChangeShapes Go.WideShapes Go.ChangeAt Go.RowKit
set_option maxRecDepth 100000

theorem credit_ways {b rate burst out ticks T room : Int} (hb : 0 ≤ b) (hb2 : b ≤ 1000000000) (hr : 0 ≤ rate) (hr2 : rate ≤ 1000000) (hT : broughtI ticks 0 1099511627776 = T) (hroom : roomI burst out = room) :
    (room ≤ b → creditI b rate burst out ticks = room) ∧ (b < room → 0 < rate → (room - b) / rate < T → creditI b rate burst out ticks = room) ∧ (b < room → 0 < rate → T ≤ (room - b) / rate → creditI b rate burst out ticks = b + rate * T ∧ rate * T ≤ room - b) ∧ (b < room → rate = 0 → creditI b rate burst out ticks = b) := by
  obtain ⟨h1, h2⟩ := roomI_range burst out
  obtain ⟨h3, h4⟩ := broughtI_range ticks 0 1099511627776 (by omega)
  rw [hT] at h3 h4
  rw [hroom] at h1 h2
  have e1 : broughtI b 0 2305843009213693952 = b := by unfold broughtI; omega
  have e2 : broughtI rate 0 1000000 = rate := by unfold broughtI; omega
  have h5 : 0 ≤ rate * T := Int.mul_nonneg hr h3
  have hc : creditI b rate burst out ticks = min (max (b + rate * T) 0) room := by
    unfold creditI cutI
    rw [e1, e2, hT, hroom]; rfl
  rw [hc]
  refine ⟨fun h => by omega, fun h h0 hq => ?_, fun h h0 hq => ?_, fun h h0 => ?_⟩
  · have h6 : room - b < rate * T := by
      have := Int.lt_mul_of_ediv_lt h0 hq
      rw [Int.mul_comm] at this; exact this
    omega
  · have h6 : rate * T ≤ room - b := by
      have := Int.mul_le_of_le_ediv h0 hq
      rw [Int.mul_comm] at this; exact this
    exact ⟨by omega, h6⟩
  · subst h0; omega

set_option maxHeartbeats 2000000 in
theorem refcredit_any (b rate burst out ticks : Int) (w : World) (hb : 0 ≤ b) (hb2 : b ≤ 1000000000) (hr : 0 ≤ rate) (hr2 : rate ≤ 1000000) :
    Calls Try.prog 51 #[.int .i64 b, .int .i64 rate, .int .i64 burst, .int .i64 out, .int .i64 ticks] w fun e w' => e = .returned (.int .i64 (creditI b rate burst out ticks)) ∧ w = w' := by
  have main : ∀ T room : Int, broughtI ticks 0 1099511627776 = T → roomI burst out = room → (ticks < 0 ∧ T = 0 ∨ 1099511627776 < ticks ∧ T = 1099511627776 ∨ 0 ≤ ticks ∧ ticks ≤ 1099511627776 ∧ T = ticks) →
      Calls Try.prog 51 #[.int .i64 b, .int .i64 rate, .int .i64 burst, .int .i64 out, .int .i64 ticks] w fun e w' => e = .returned (.int .i64 (creditI b rate burst out ticks)) ∧ w = w' := by
    intro T room hT hroom hways
    obtain ⟨c1, c2, c3, c4⟩ := credit_ways hb hb2 hr hr2 hT hroom
    obtain ⟨r1, r2⟩ := roomI_range burst out
    have HR := Lib.hid (refroom_any burst out)
    rw [hroom] at r1 r2 HR
    have C1 := Lib.hid c1
    have C2 := Lib.hid c2
    have C3 := Lib.hid c3
    have C4 := Lib.hid c4
    generalize creditI b rate burst out ticks = res at C1 C2 C3 C4 ⊢
    clear c1 c2 c3 c4 hT hroom
    have hm : (room - b).tdiv rate = (room - b) / rate ∨ room < b := by
      by_cases h : 0 ≤ room - b
      · exact .inl (Int.tdiv_eq_ediv_of_nonneg h)
      · exact .inr (by omega)
    by_cases g1 : room ≤ b
    · have HO := Lib.hid (C1.out g1)
      rcases hways with ⟨a1, rfl⟩ | ⟨a1, rfl⟩ | ⟨a1, a2, rfl⟩
      all_goals
        go_enter Try.func51, Try.ntmps51
        go_wp2_with (go_at_call 89; ((with_reducible refine (HR.out _).mono ?_); rintro e w' ⟨rfl, rfl⟩))
        try (go_returns; exact ⟨ret_int HO.out.symm, rfl⟩)
    · by_cases g2 : rate = 0
      · have HO := Lib.hid (C4.out (by omega) g2)
        subst g2
        rcases hways with ⟨a1, rfl⟩ | ⟨a1, rfl⟩ | ⟨a1, a2, rfl⟩
        all_goals
          go_enter Try.func51, Try.ntmps51
          go_wp2_with (go_at_call 89; ((with_reducible refine (HR.out _).mono ?_); rintro e w' ⟨rfl, rfl⟩))
          try (go_returns; exact ⟨ret_int (by rw [HO.out]; try omega), rfl⟩)
      · have g3 : 0 < rate := by omega
        have hdiv : (room - b).tdiv rate = (room - b) / rate := Int.tdiv_eq_ediv_of_nonneg (by omega)
        have hq0 : 0 ≤ (room - b) / rate := Int.ediv_nonneg (by omega) (by omega)
        have hq1 : (room - b) / rate ≤ room - b := Int.ediv_le_self _ (by omega)
        have C2' := Lib.hid (C2.out (by omega) g3)
        have C3' := Lib.hid (C3.out (by omega) g3)
        generalize hqq : (room - b) / rate = q at hdiv hq0 hq1 C2' C3'
        clear hm hqq C1 C2 C3 C4
        by_cases g4 : q < T
        · have HO := Lib.hid (C2'.out g4)
          rcases hways with ⟨a1, rfl⟩ | ⟨a1, rfl⟩ | ⟨a1, a2, rfl⟩
          all_goals
            go_enter Try.func51, Try.ntmps51
            go_wp2_with (go_at_call 89; ((with_reducible refine (HR.out _).mono ?_); rintro e w' ⟨rfl, rfl⟩))
            try (go_returns; exact ⟨ret_int HO.out.symm, rfl⟩)
        · obtain ⟨h8, h9⟩ := C3'.out (by omega)
          have HO := Lib.hid h8
          have h10 : 0 ≤ rate * T := Int.mul_nonneg hr (by omega)
          clear h8
          rcases hways with ⟨a1, rfl⟩ | ⟨a1, rfl⟩ | ⟨a1, a2, rfl⟩
          all_goals
            go_enter Try.func51, Try.ntmps51
            go_wp2_with (go_at_call 89; ((with_reducible refine (HR.out _).mono ?_); rintro e w' ⟨rfl, rfl⟩))
            try (go_returns; exact ⟨ret_int (by rw [HO.out]; try omega), rfl⟩)
  exact main _ _ rfl rfl (by unfold broughtI; omega)

set_option maxHeartbeats 1000000 in
theorem refback_any (b burst out size : Int) (w : World) (hb : 0 ≤ b) (hb2 : b ≤ 1000000000) (hs : 0 ≤ size) (hs2 : size ≤ 1000000) :
    Calls Try.prog 57 #[.int .i64 b, .int .i64 burst, .int .i64 out, .int .i64 size] w fun e w' => e = .returned (.int .i64 (backI b burst out size)) ∧ w = w' := by
  have HC := Lib.hid (refcut_any (b + 1000 * size) burst out w)
  have HB : Hid (backI b burst out size = cutI (b + 1000 * size) burst out) := by
    show _ = _
    unfold backI
    rw [show broughtI b 0 2305843009213693952 = b from by unfold broughtI; omega, show broughtI size 0 1000000 = size from by unfold broughtI; omega]
  generalize backI b burst out size = res at HB ⊢
  go_enter Try.func57, Try.ntmps57
  go_wp2_with (go_at_call 91; ((with_reducible refine HC.out.mono ?_); rintro e w' ⟨rfl, rfl⟩))
  go_returns
  exact ⟨ret_int HB.out.symm, rfl⟩
end Go.Proofs.Ytoofmofaimdhpaa

namespace Go.Proofs.Ytoofmofaimdhpaa
open Go.ChangeShapes Go.WideShapes Go.ChangeAt Go.RowKit
set_option maxRecDepth 100000

def woN (s : St) (zs : List Int) : St := { s with leas := s.leas.filter fun x => !zs.contains x.id }
theorem woN_nil (s : St) : woN s [] = s := by
  have : s.leas.filter (fun x => !([] : List Int).contains x.id) = s.leas := List.filter_eq_self.2 fun x _ => rfl
  unfold woN; rw [this]
theorem woN_next {s : St} {zs : List Int} {k : Nat} (h : k < zs.length) : woS (woN s (zs.take k)) zs[k] = woN s (zs.take (k + 1)) := by
  rw [List.take_succ_eq_append_getElem h]
  generalize zs.take k = l
  generalize zs[k] = z
  unfold woS woN
  simp only [List.filter_filter]
  congr 1
  refine List.filter_congr fun x _ => ?_
  by_cases e : x.id = z
  · simp [e]
  · simp [e]
theorem stOk_ten' {s : St} (h : stOk s = true) : tensOk 0 s.tens = true ∧ Fits s.leas := by
  unfold stOk at h
  simp only [Bool.and_eq_true] at h
  exact ⟨h.1.1, leasOk_fits h.1.1 h.1.2.1⟩

set_option maxHeartbeats 4000000 in
theorem refexpire_st (s : St) (r : Raw) (B : Nat) (zs : List Int) (za : Option Addr) (zn zc : Nat) (w : World) (h : StAt w B r s) (hl1 : s.tens.length ≤ 900) (hl2 : s.leas.length ≤ 900) (hl3 : s.sess.length ≤ 900) (hl4 : s.dsks.length ≤ 900) (hzn : zs.length = zn) (hzl : zn ≤ 1000) (hz : Row w za (zs.map (Value.int .i64))) :
    Calls Try.prog 25 #[r.agg, .slice za zn zc] w (RetSt w 0 (expireS s zs)) := by
  have HS := Lib.hid h
  have HL := Lib.hid (And.intro hl1 (And.intro hl2 (And.intro hl3 hl4)))
  have HCK := Lib.hid (fun w' (hb : Below w.heap.size w w') => refcheck_st s r B w' (h.below hb) hl1 hl2)
  have HCP := Lib.hid (fun w' (hb : Below w.heap.size w w') => refcopy_st s r B w' (h.below hb) hl1 hl2 hl3 hl4)
  have HZ := Lib.hid hz
  have HE : Hid (expireS s zs = if stOk s = true then sweptS (woN s zs) else s) := rfl
  generalize expireS s zs = res at HE ⊢
  obtain ⟨term, stamp, next, ⟨a1, n1, c1⟩, ⟨a2, n2, c2⟩, ⟨a3, n3, c3⟩, ⟨a4, n4, c4⟩⟩ := r
  have HBX : Hid (∀ w', Below ((w.alloc (.cells #[.int .i64 term, .int .i64 stamp, .int .i64 next, .slice a1 n1 c1, .slice a2 n2 c2, .slice a3 n3 c3, .slice a4 n4 c4] 27)).alloc (.cells #[.int .i64 0, .int .i64 0, .int .i64 0, .slice none 0 0, .slice none 0 0, .slice none 0 0, .slice none 0 0] 27)).heap.size ((w.alloc (.cells #[.int .i64 term, .int .i64 stamp, .int .i64 next, .slice a1 n1 c1, .slice a2 n2 c2, .slice a3 n3 c3, .slice a4 n4 c4] 27)).alloc (.cells #[.int .i64 0, .int .i64 0, .int .i64 0, .slice none 0 0, .slice none 0 0, .slice none 0 0, .slice none 0 0] 27)) w' →
      Box w' w.heap.size (Raw.cells ⟨term, stamp, next, ⟨a1, n1, c1⟩, ⟨a2, n2, c2⟩, ⟨a3, n3, c3⟩, ⟨a4, n4, c4⟩⟩) ∧ Box w' (w.heap.size + 1) (Raw.cells ⟨0, 0, 0, ⟨none, 0, 0⟩, ⟨none, 0, 0⟩, ⟨none, 0, 0⟩, ⟨none, 0, 0⟩⟩) ∧ w.heap.size + 2 ≤ w'.heap.size) :=
    fun w' hb => ⟨Box.of_alloc (mid_alloc' hb), Box.of_alloc1 hb, by have := hb.size; simp at this; omega⟩
  clear h hl1 hl2 hl3 hl4 hz
  cases hok : stOk s with
  | false =>
    have HOK := Lib.hid hok
    have HO : Hid (res = s) := by show _ = _; rw [HE.out, if_neg (by rw [hok]; simp)]
    clear hok HE HCP
    go_enter Try.func25, Try.ntmps25
    go_wp2_with (first
      | (refine wpList_load_as laySt rfl (.tmp 2) rfl w.heap.size 0 rfl ⟨term, stamp, next, ⟨a1, n1, c1⟩, ⟨a2, n2, c2⟩, ⟨a3, n3, c3⟩, ⟨a4, n4, c4⟩⟩ (.agg #[.int .i64 term, .int .i64 stamp, .int .i64 next, .slice a1 n1 c1, .slice a2 n2 c2, .slice a3 n3 c3, .slice a4 n4 c4]) rfl (HBX.out _ (by repeat' (first | (with_reducible exact Below.refl _ _) | (with_reducible assumption) | (with_reducible refine Below.drew ?_) | (with_reducible refine Below.more ?_ _) | (with_reducible refine Below.put ?_ ?_ _) | (with_reducible refine Below.next ?_ (by with_reducible assumption)) | (with_reducible exact Nat.le_refl _) | (with_reducible refine Below.size' ?_) | omega))).1.range ?_)
      | (go_at_call 16; ((with_reducible refine (HCK.out _ (by repeat' (first | (with_reducible exact Below.refl _ _) | (with_reducible assumption) | (with_reducible refine Below.drew ?_) | (with_reducible refine Below.more ?_ _) | (with_reducible refine Below.put ?_ ?_ _) | (with_reducible refine Below.next ?_ (by with_reducible assumption)) | (with_reducible exact Nat.le_refl _) | (with_reducible refine Below.size' ?_) | omega))).mono ?_); rw [HOK.out]; rintro e w3 ⟨rfl, hb3⟩; have HX3 := Lib.hid (HBX.out w3 (by repeat' (first | (with_reducible exact Below.refl _ _) | (with_reducible assumption) | (with_reducible refine Below.drew ?_) | (with_reducible refine Below.more ?_ _) | (with_reducible refine Below.put ?_ ?_ _) | (with_reducible refine Below.next ?_ (by with_reducible assumption)) | (with_reducible exact Nat.le_refl _) | (with_reducible refine Below.size' ?_) | omega)))))
      | (refine wpList_store_whole laySt rfl (.tmp 4) (.tmp 10) rfl (w.heap.size + 1) ⟨term, stamp, next, ⟨a1, n1, c1⟩, ⟨a2, n2, c2⟩, ⟨a3, n3, c3⟩, ⟨a4, n4, c4⟩⟩ _ rfl rfl HX3.out.2.1 rfl ?_; intro w4 hb4 hw4; have HX4 := Lib.hid hb4; have HW4 := Lib.hid hw4; clear hb4 hw4))
    have b3 : Below w.heap.size w w3 := (by repeat' (first | (with_reducible exact Below.refl _ _) | (with_reducible assumption) | (with_reducible refine Below.drew ?_) | (with_reducible refine Below.more ?_ _) | (with_reducible refine Below.put ?_ ?_ _) | (with_reducible refine Below.next ?_ (by with_reducible assumption)) | (with_reducible exact Nat.le_refl _) | (with_reducible refine Below.size' ?_) | omega))
    have b4 : Below w.heap.size w w4 := b3.trans (HW4.out.below _ (by omega))
    obtain ⟨k0, k1, k2, k3, k4, k5, k6⟩ := cellsSt0 HX4.out.range
    refine bodyPost_ret (v := .agg #[.int .i64 term, .int .i64 stamp, .int .i64 next, .slice a1 n1 c1, .slice a2 n2 c2, .slice a3 n3 c3, .slice a4 n4 c4]) (by simp [results, Try.results25, go_sem, k0, k1, k2, k3, k4, k5, k6]) rfl ?_
    refine ⟨⟨term, stamp, next, ⟨a1, n1, c1⟩, ⟨a2, n2, c2⟩, ⟨a3, n3, c3⟩, ⟨a4, n4, c4⟩⟩, rfl, ?_, b4⟩
    rw [HO.out]
    exact (HS.out.below b4).mono (Nat.zero_le _)
  | true =>
    have HOK := Lib.hid hok
    have HO : Hid (res = sweptS (woN s zs)) := by show _ = _; rw [HE.out, if_pos hok]
    have HFIT := Lib.hid (stOk_ten' hok).2
    have HTEN : Hid True := trivial
    have HSW := Lib.hid (fun q B' w' (h' : StAt w' B' q (woN s zs)) (hB' : B' ≤ w'.heap.size) => refswept_st (woN s zs) q B' w' h' (HFIT.out.sub (fun x hx => (List.mem_filter.1 hx).1)) HL.out.1 (Nat.le_trans (List.length_filter_le _ _) HL.out.2.1) hB')
    clear hok HE
    go_enter Try.func25, Try.ntmps25
    go_wp2_with (first
      | (refine wpList_load_as laySt rfl (.tmp 2) rfl w.heap.size 0 rfl ⟨term, stamp, next, ⟨a1, n1, c1⟩, ⟨a2, n2, c2⟩, ⟨a3, n3, c3⟩, ⟨a4, n4, c4⟩⟩ (.agg #[.int .i64 term, .int .i64 stamp, .int .i64 next, .slice a1 n1 c1, .slice a2 n2 c2, .slice a3 n3 c3, .slice a4 n4 c4]) rfl (by first | exact HX3.out.1.range | exact (HBX.out _ (by repeat' (first | (with_reducible exact Below.refl _ _) | (with_reducible assumption) | (with_reducible refine Below.drew ?_) | (with_reducible refine Below.more ?_ _) | (with_reducible refine Below.put ?_ ?_ _) | (with_reducible refine Below.next ?_ (by with_reducible assumption)) | (with_reducible exact Nat.le_refl _) | (with_reducible refine Below.size' ?_) | omega))).1.range) ?_)
      | (go_at_call 16; ((with_reducible refine (HCK.out _ (by repeat' (first | (with_reducible exact Below.refl _ _) | (with_reducible assumption) | (with_reducible refine Below.drew ?_) | (with_reducible refine Below.more ?_ _) | (with_reducible refine Below.put ?_ ?_ _) | (with_reducible refine Below.next ?_ (by with_reducible assumption)) | (with_reducible exact Nat.le_refl _) | (with_reducible refine Below.size' ?_) | omega))).mono ?_); rw [HOK.out]; rintro e w3 ⟨rfl, hb3⟩; have HX3 := Lib.hid (HBX.out w3 (by repeat' (first | (with_reducible exact Below.refl _ _) | (with_reducible assumption) | (with_reducible refine Below.drew ?_) | (with_reducible refine Below.more ?_ _) | (with_reducible refine Below.put ?_ ?_ _) | (with_reducible refine Below.next ?_ (by with_reducible assumption)) | (with_reducible exact Nat.le_refl _) | (with_reducible refine Below.size' ?_) | omega)))))
      | (go_at_call 37; ((with_reducible refine (HCP.out _ (by repeat' (first | (with_reducible exact Below.refl _ _) | (with_reducible assumption) | (with_reducible refine Below.drew ?_) | (with_reducible refine Below.more ?_ _) | (with_reducible refine Below.put ?_ ?_ _) | (with_reducible refine Below.next ?_ (by with_reducible assumption)) | (with_reducible exact Nat.le_refl _) | (with_reducible refine Below.size' ?_) | omega))).mono ?_); rintro e w4 ⟨⟨t4, s4, n4', ⟨x1, m1, y1⟩, ⟨x2, m2, y2⟩, ⟨x3, m3, y3⟩, ⟨x4, m4, y4⟩⟩, rfl, hst4, hb4⟩; have HST4 := Lib.hid hst4; have HX4 := Lib.hid (HBX.out w4 (by repeat' (first | (with_reducible exact Below.refl _ _) | (with_reducible assumption) | (with_reducible refine Below.drew ?_) | (with_reducible refine Below.more ?_ _) | (with_reducible refine Below.put ?_ ?_ _) | (with_reducible refine Below.next ?_ (by with_reducible assumption)) | (with_reducible exact Nat.le_refl _) | (with_reducible refine Below.size' ?_) | omega))); have q3 := HX3.out.2.2; have q4 := hb4.size; clear hst4))
      | (refine wpList_store_box laySt rfl (.tmp 5) (.tmp 12) rfl ⟨t4, s4, n4', ⟨x1, m1, y1⟩, ⟨x2, m2, y2⟩, ⟨x3, m3, y3⟩, ⟨x4, m4, y4⟩⟩ rfl rfl rfl ?_; intro w5 hw5 ht5 hb5 hs5; have HX5 : Hid (Box w5 w4.heap.size (Raw.cells ⟨t4, s4, n4', ⟨x1, m1, y1⟩, ⟨x2, m2, y2⟩, ⟨x3, m3, y3⟩, ⟨x4, m4, y4⟩⟩)) := ⟨hw5, ht5⟩; have HS5 := Lib.hid (HX4.out.1.below hb5 (by omega)); have HZ5 := Lib.hid (HX4.out.2.1.below hb5 (by omega)); have HST5 := Lib.hid (HST4.out.mid (Mid.below hb5 (Nat.le_refl _) : Mid w3.heap.size w4.heap.size w4 w5) (Nat.le_refl _) (Nat.le_refl _)); have hb45 : Below w.heap.size w w5 := Below.trans (show Below w.heap.size w w4 from (by repeat' (first | (with_reducible exact Below.refl _ _) | (with_reducible assumption) | (with_reducible refine Below.drew ?_) | (with_reducible refine Below.more ?_ _) | (with_reducible refine Below.put ?_ ?_ _) | (with_reducible refine Below.next ?_ (by with_reducible assumption)) | (with_reducible exact Nat.le_refl _) | (with_reducible refine Below.size' ?_) | omega))) (hb5.mono (by omega)); clear hw5 ht5))
    have HB5 := Lib.hid hb5
    have i4 := HST4.out.is
    have hn4 : i4.lea = i4.lea := rfl
    have HLT := Lib.hid (fun b o q (e : x2 = some ⟨b, o, q⟩) => Nat.ne_of_lt (HST4.out.lt b o q e))
    have HPART := Lib.hid (fun w' (hb : Below w4.heap.size w4 w') sl l (h : SliAt layLea w' w3.heap.size sl l) => (⟨i4.term, i4.stamp, i4.next, i4.ten.below hb, h, i4.ses.below hb, i4.dsk.below hb⟩ : StAt w' w3.heap.size ⟨t4, s4, n4', ⟨x1, m1, y1⟩, sl, ⟨x3, m3, y3⟩, ⟨x4, m4, y4⟩⟩ { s with leas := l }))
    have HL5 := Lib.hid HST5.out.is.lea
    clear i4 hn4
    go_loopw [6] (fun i wr => ∃ k : Nat, ∃ sl : Sli, k ≤ zs.length ∧ i = .int .i64 k ∧ Hid (Box wr w4.heap.size (Raw.cells ⟨t4, s4, n4', ⟨x1, m1, y1⟩, sl, ⟨x3, m3, y3⟩, ⟨x4, m4, y4⟩⟩)) ∧ Hid (SliAt layLea wr w3.heap.size sl (woN s (zs.take k)).leas) ∧ Hid (∀ b o q, sl.a = some ⟨b, o, q⟩ → b ≠ w4.heap.size) ∧ Below w4.heap.size w4 wr) (fun i _ => zs.length - (intOf i).toNat)
    case atStart => exact ⟨0, ⟨x2, m2, y2⟩, by omega, rfl, HX5.out, by have h := HL5.out; rw [← woN_nil s] at h; exact h, HLT.out, hb5⟩
    case round =>
      obtain ⟨k, ⟨z2, o2, v2⟩, hk, rfl, hbq, hsq, hne, hb4r⟩ := hrel
      have HBR := Lib.hid (Below.trans (show Below w.heap.size w w4 from (by repeat' (first | (with_reducible exact Below.refl _ _) | (with_reducible assumption) | (with_reducible refine Below.drew ?_) | (with_reducible refine Below.more ?_ _) | (with_reducible refine Below.put ?_ ?_ _) | (with_reducible refine Below.next ?_ (by with_reducible assumption)) | (with_reducible exact Nat.le_refl _) | (with_reducible refine Below.size' ?_) | omega))) (hb4r.mono (by omega)))
      have qr := hb4r.size
      have hbx4 := hbq.out.lt (by simp)
      have HSR := Lib.hid (HPART.out wr hb4r _ _ hsq.out)
      have HZR := Lib.hid (HX4.out.2.1.below hb4r (by omega))
      by_cases hlt : k < zs.length
      · obtain ⟨b, o, rfl, hcell⟩ := Row.getBelow HZ.out (k := k) (by rw [List.getElem?_map, List.getElem?_eq_getElem hlt]; rfl)
        have hcl := hcell _ HBR.out
        have HNX := Lib.hid (woN_next (s := s) hlt)
        generalize zs[k] = z at hcl HNX
        clear hcell
        obtain ⟨⟨k0, k1, k2, k3, k4, k5, k6⟩, _, _⟩ := hbq.out.st
        simp only at k0 k1 k2 k3 k4 k5 k6
        have HW := Lib.hid (fun w' (hb : Below wr.heap.size wr w') => refwithout_st (woN s (zs.take k)) _ w3.heap.size z w' (HSR.out.below hb) (Nat.le_trans (List.length_filter_le _ _) HL.out.2.1) (by have := hb.size; omega))
        have hzl' : zs.length ≤ 1000 := by omega
        have hzk : (k : Int) < (zn : Int) := by omega
        go_wp2
        go_still_tail 5, (by kernel_rfl)
        change wpList _ _ _ _ _ wr.drew
        clear k0 k1 k2 k3 k4 k5 k6 hcl
        go_wp2_with (first
          | (go_at_call 56; ((with_reducible refine (HW.out wr.drew (Below.refl _ _).drew).mono ?_); rintro e w6 ⟨⟨d2, e2, f2⟩, rfl, hsl6, hnr6, hb6⟩; have hb6' : Below wr.heap.size wr w6 := ⟨hb6.os, hb6.tape, hb6.output, hb6.size, hb6.block⟩; have HSL6 := Lib.hid hsl6; have HNR6 := Lib.hid hnr6; have HX6 := Lib.hid (hbq.out.below hb6' (by omega)); have q6 := hb6'.size; have HB6 := Lib.hid (hb4r.trans (hb6'.mono (by omega))); clear hsl6 hnr6 hb6))
          | (refine wpList_store_whole laySt rfl (.tmp 5) (.tmp 24) rfl w4.heap.size ⟨t4, s4, n4', ⟨x1, m1, y1⟩, ⟨d2, e2, f2⟩, ⟨x3, m3, y3⟩, ⟨x4, m4, y4⟩⟩ _ rfl rfl HX6.out rfl ?_; intro w7 hbx7 hw7; have HX7 := Lib.hid hbx7; have HW7 := Lib.hid hw7; clear hbx7 hw7))
        have hne6 : ∀ b o q, d2 = some ⟨b, o, q⟩ → b ≠ w4.heap.size := fun b o q e => by
          rcases HNR6.out b o q e with h1 | ⟨_, _, h1⟩
          · have h2 : wr.heap.size ≤ b := h1
            omega
          · cases h1
        have l7 : SliAt layLea w7 w3.heap.size ⟨d2, e2, f2⟩ (woN s (zs.take (k + 1))).leas := by
          have h := HSL6.out
          rw [HNX.out] at h
          exact ⟨h.len, h.le, h.nil, h.near, h.row.keep (g := w4.heap.size) (fun j _ hj => HW7.out.keep j hj) hne6⟩
        exact ⟨⟨k + 1, ⟨d2, e2, f2⟩, by omega, by go_num, HX7.out, l7, hne6, HB6.out.trans (HW7.out.below _ (Nat.le_refl _))⟩, by simp [intOf]; omega⟩
      · obtain rfl : k = zs.length := by omega
        have hsr := HSR.out
        rw [List.take_length] at hsr
        have HSRR : Hid (StAt wr w3.heap.size ⟨t4, s4, n4', ⟨x1, m1, y1⟩, ⟨z2, o2, v2⟩, ⟨x3, m3, y3⟩, ⟨x4, m4, y4⟩⟩ (woN s zs)) := hsr
        clear hsr
        go_wp2_with (first
          | (refine wpList_load_as laySt rfl (.tmp 5) rfl w4.heap.size 0 rfl ⟨t4, s4, n4', ⟨x1, m1, y1⟩, ⟨z2, o2, v2⟩, ⟨x3, m3, y3⟩, ⟨x4, m4, y4⟩⟩ (.agg #[.int .i64 t4, .int .i64 s4, .int .i64 n4', .slice x1 m1 y1, .slice z2 o2 v2, .slice x3 m3 y3, .slice x4 m4 y4]) rfl hbq.out.range ?_)
          | (go_at_call 39; have hsw := HSW.out _ _ wr HSRR.out (by omega); ((with_reducible refine hsw.mono ?_); clear hsw; rintro e w6 ⟨⟨t5, s5, n5', ⟨c1', d1, e1⟩, ⟨c2', d2, e2⟩, ⟨c3', d3, e3⟩, ⟨c4', d4, e4⟩⟩, rfl, hst6, hb6⟩; have HST6 := Lib.hid hst6; have HZ6 := Lib.hid (HZR.out.below hb6 (by omega)); have q6 := hb6.size; clear hst6))
          | (refine wpList_store_whole laySt rfl (.tmp 4) (.tmp 26) rfl (w.heap.size + 1) ⟨t5, s5, n5', ⟨c1', d1, e1⟩, ⟨c2', d2, e2⟩, ⟨c3', d3, e3⟩, ⟨c4', d4, e4⟩⟩ _ rfl rfl HZ6.out rfl ?_; intro w8 hbx8 hw8; have HX8 := Lib.hid hbx8; have HW8 := Lib.hid hw8; clear hbx8 hw8))
        have b8 : Below w.heap.size w w8 := (HBR.out.trans (hb6.mono (by omega))).trans (HW8.out.below _ (by omega))
        obtain ⟨k0, k1, k2, k3, k4, k5, k6⟩ := cellsSt0 HX8.out.range
        refine bodyPost_ret (v := .agg #[.int .i64 t5, .int .i64 s5, .int .i64 n5', .slice c1' d1 e1, .slice c2' d2 e2, .slice c3' d3 e3, .slice c4' d4 e4]) (by simp [results, Try.results25, go_sem, k0, k1, k2, k3, k4, k5, k6]) rfl ?_
        refine ⟨⟨t5, s5, n5', ⟨c1', d1, e1⟩, ⟨c2', d2, e2⟩, ⟨c3', d3, e3⟩, ⟨c4', d4, e4⟩⟩, rfl, ?_, b8⟩
        rw [HO.out]
        exact (HST6.out.mid ((Mid.refl w3.heap.size w6.heap.size w6).wrote HW8.out (.inl (by omega))) (Nat.le_refl _) (Nat.le_refl _)).mono (Nat.zero_le _)
end Go.Proofs.Ytoofmofaimdhpaa
