import Derived.Test.YtnpbajmpenpnbaaRefCheck
namespace Go.Proofs.Ytnpbajmpenpnbaa
open Go.ChangeShapes Go.WideShapes Go.ChangeAt Go.RowKit

theorem findT_bad {ts : List Tenant} {id : Int} (h : tensOk 0 ts = false) : findT ts id = (zeroT, false) := by
  unfold findT; split
  · rw [h]; rfl
  · rfl
theorem findT_none {ts : List Tenant} {id : Int} (h : ∀ j (hj : j < ts.length), (ts[j].id == id) = false) : findT ts id = (zeroT, false) := by
  have : ts.findIdx? (fun x => x.id == id) = none := by
    rw [List.findIdx?_eq_none_iff]
    intro x hx
    obtain ⟨j, hj, rfl⟩ := List.mem_iff_getElem.1 hx
    exact h j hj
  unfold findT; rw [this]
theorem findT_some {ts : List Tenant} {id : Int} {k : Nat} (hk : k < ts.length) (ht : tensOk 0 ts = true) (hno : ∀ j (hj : j < ts.length), j < k → (ts[j].id == id) = false) (h : (ts[k].id == id) = true) : findT ts id = (ts[k], true) := by
  have : ts.findIdx? (fun x => x.id == id) = some k := by
    rw [List.findIdx?_eq_some_iff_getElem]
    exact ⟨hk, h, fun j hj => by rw [hno j (by omega) hj]; simp⟩
  unfold findT; rw [this]
  show (if tensOk 0 ts = true then _ else _) = _
  rw [ht, if_pos rfl, List.getElem?_eq_getElem hk]; rfl

set_option maxHeartbeats 1000000 in
theorem reffind_any (ts : List Tenant) (a : Option Addr) (n c : Nat) (id : Int) (w : World) (hn : ts.length = n) (hl : ts.length ≤ maxLen) (hr : TRow w a ts) :
    Calls Try.prog 20 #[.slice a n c, .int .i64 id] w (RetTF w (findT ts id)) := by
  subst hn
  have hl2 := lt_maxLen hl
  have hr1 : TRow (w.alloc (.cells #[.int .i64 0, .int .i64 0, .int .i64 0, .int .i64 0, .bool false] 38)) a ts := Row.alloc hr _
  cases ht : tensOk 0 ts with
  | false =>
    have HT := Lib.hid ht
    have HW : Hid (findT ts id = (zeroT, false)) := findT_bad ht
    clear ht
    generalize findT ts id = out at HW ⊢
    by_cases h0 : ts.length = 0
    · obtain rfl : ts = [] := List.eq_nil_of_length_eq_zero h0
      clear hl hl2 h0
      go_enter Try.func20, Try.ntmps20
      go_wp2
      refine wp_loop_rounds 1 ?_
      rw [rounds_succ]
      go_wp2
      (try simp only [Exit.inBlock, Exit.then])
      refine bodyPost_ret (v := .tuple #[zeroT.agg, .bool false]) (by simp [results, Try.results20, go_sem, zeroT]) rfl ?_
      exact ⟨by rw [HW.out], by go_grown⟩
    · have hp : 0 < ts.length := by omega
      clear h0
      go_enter Try.func20, Try.ntmps20
      go_wp2
      refine wp_loop_rounds 1 ?_
      rw [rounds_succ]
      go_wp2_with (go_at_call 13; ((with_reducible refine (refcheck_any ts _ _ _ _ rfl hl hr1).mono ?_); rw [HT.out]; rintro e w3 ⟨rfl, hb3⟩; have hcl := own_cells hb3; have hfz := own_frozen hb3))
      (try simp only [Exit.inBlock, Exit.then])
      refine bodyPost_ret (v := .tuple #[zeroT.agg, .bool false]) (by simp [results, Try.results20, go_sem, hcl, zeroT]) rfl ?_
      have hb5 := ((Below.refl w.heap.size w).alloc (Nat.le_refl _) _).trans (hb3.mono (by simp))
      exact ⟨by rw [HW.out], set5 hb5 (Nat.le_refl _) _ _ _ _ _⟩
  | true =>
    have HT := Lib.hid ht
    clear ht
    go_enter Try.func20, Try.ntmps20
    go_wp2
    go_loopw [6] (fun i wr => ∃ k : Nat, k ≤ ts.length ∧ i = .int .i64 k ∧ (∀ j (h : j < ts.length), j < k → (ts[j].id == id) = false) ∧
      Below (w.alloc (.cells #[.int .i64 0, .int .i64 0, .int .i64 0, .int .i64 0, .bool false] 38)).heap.size (w.alloc (.cells #[.int .i64 0, .int .i64 0, .int .i64 0, .int .i64 0, .bool false] 38)) wr) (fun i _ => ts.length - (intOf i).toNat)
    case atStart => exact ⟨0, by omega, rfl, by omega, Below.refl _ _⟩
    case round =>
      obtain ⟨k, hk, rfl, hno, hb⟩ := hrel
      have HNO := Lib.hid hno
      clear hno
      by_cases hlt : k < ts.length
      · obtain ⟨b, o, rfl, hcs⟩ := hr1.at hlt
        have HCS := Lib.hid hcs
        clear hcs
        cases hid : ts[k].id == id with
        | true =>
          have HID := Lib.hid hid
          go_wp2_with (go_at_call 13; ((with_reducible refine (refcheck_any ts _ _ _ _ rfl hl (hr1.below hb)).mono ?_); rw [HT.out]; rintro e w3 ⟨rfl, hb3⟩; have hb4 := hb.trans (hb3.mono hb.size); have hcl := own_cells hb4; have hfz := own_frozen hb4; obtain ⟨h0, h1, h2, h3, h4⟩ := HCS.out _ hb4))
          (try simp only [Exit.inBlock, Exit.then])
          refine bodyPost_ret (v := .tuple #[ts[k].agg, .bool true]) (by simp [results, Try.results20, go_sem, hcl]) rfl ?_
          have hb5 := ((Below.refl w.heap.size w).alloc (Nat.le_refl _) _).trans (hb4.mono (by simp))
          exact ⟨by rw [findT_some hlt HT.out HNO.out HID.out], set5 hb5 (Nat.le_refl _) _ _ _ _ _⟩
        | false =>
          have HID := Lib.hid hid
          go_wp2_with (go_at_call 13; ((with_reducible refine (refcheck_any ts _ _ _ _ rfl hl (hr1.below hb)).mono ?_); rw [HT.out]; rintro e w3 ⟨rfl, hb3⟩; have hb4 := hb.trans (hb3.mono hb.size); have hcl := own_cells hb4; have hfz := own_frozen hb4; obtain ⟨h0, h1, h2, h3, h4⟩ := HCS.out _ hb4))
          go_roundw
          case rel => exact ⟨k + 1, by omega, by go_num, fun j h hj => by rcases Nat.lt_succ_iff_lt_or_eq.1 hj with h1 | rfl; exact HNO.out j h h1; exact HID.out, hb4⟩
          case measure => simp [intOf]; omega
      · have hcl := own_cells hb
        have hfz := own_frozen hb
        have HW : Hid (findT ts id = (zeroT, false)) := findT_none (fun j hj => HNO.out j hj (by omega))
        go_wp2
        (try simp only [Exit.inBlock, Exit.then])
        refine bodyPost_ret (v := .tuple #[zeroT.agg, .bool false]) (by simp [results, Try.results20, go_sem, hcl, zeroT]) rfl ?_
        have hb5 := ((Below.refl w.heap.size w).alloc (Nat.le_refl _) _).trans (hb.mono (by simp))
        exact ⟨by rw [HW.out], set5 hb5 (Nat.le_refl _) _ _ _ _ _⟩

/-! Without, with: the document's. -/
def filterL (id : Int) (ts : List Tenant) : List Tenant := ts.filter (fun x => x.id != id)

set_option maxHeartbeats 1000000 in
theorem refwithout_any (ts : List Tenant) (a : Option Addr) (n c : Nat) (id : Int) (w : World) (hn : ts.length = n) (hl : ts.length ≤ 1000) (hr : TRow w a ts) :
    Calls Try.prog 39 #[.slice a n c, .int .i64 id] w (RetT w none (filterL id ts)) := by
  subst hn
  go_enter Try.func39, Try.ntmps39
  go_wp2
  go_loopw [5, 6] (fun out i wr => ∃ k : Nat, ∃ a' c', k ≤ ts.length ∧ i = .int .i64 k ∧ out = .slice a' (filterL id (ts.take k)).length c' ∧ wr.ownsRow w.heap.size 38 5 (.slice a' (filterL id (ts.take k)).length c') (filterL id (ts.take k)).length ((filterL id (ts.take k)).flatMap Tenant.cells) ∧ Below w.heap.size w wr) (fun _ i _ => ts.length - (intOf i).toNat)
  case atStart => exact ⟨0, none, 0, by omega, rfl, rfl, World.ownsRow_nil _ _ _ _, Below.refl _ _⟩
  case round =>
    obtain ⟨k, a', c', hk, rfl, rfl, hown, hb⟩ := hrel
    by_cases hlt : k < ts.length
    · obtain ⟨b, o, rfl, hcs⟩ := hr.at hlt
      obtain ⟨h0, h1, h2, h3, h4⟩ := hcs _ hb
      clear hcs
      have HTK : Hid (ts.take (k + 1) = ts.take k ++ [ts[k]]) := List.take_succ_eq_append_getElem hlt
      have hfl : (filterL id (ts.take k)).length ≤ k := by
        have := List.length_filter_le (fun x : Tenant => x.id != id) (ts.take k)
        unfold filterL; rw [List.length_take] at this; omega
      cases hid : ts[k].id != id with
      | false =>
        have HF : Hid (filterL id (ts.take (k + 1)) = filterL id (ts.take k)) := by
          show filterL _ _ = _
          rw [HTK.out]; unfold filterL; rw [List.filter_append]; simp [hid]
        go_wp2
        go_roundw
        case rel => exact ⟨k + 1, a', c', by omega, by go_num, by rw [HF.out], by rw [HF.out]; exact hown, hb⟩
        case measure => simp [intOf]; omega
      | true =>
        have HF : Hid (filterL id (ts.take (k + 1)) = filterL id (ts.take k) ++ [ts[k]]) := by
          show filterL _ _ = _
          rw [HTK.out]; unfold filterL; rw [List.filter_append]; simp [hid]
        go_wp2_with (at_builtin; refine wpList_app el_tenants rfl _ _ rfl w.heap.size _ (filterL id (ts.take k)).length _ rfl (hown.alloc _) (some ⟨wr.heap.size, 0, none⟩) 1 1 ts[k].cells rfl rfl (Row.new _ _ _ _) (by intro u hu; simp at hu; rcases hu with rfl | rfl | rfl | rfl | rfl <;> rfl) (by omega) (by have := hb.size; simp; omega) ?_; intro a2 c2 w2 hown2 hg2; have hb2 := Below.app (hb.alloc hb.size _) (hown.alloc _) hg2 (by have := hb.size; simp; omega); clear hg2 h0 h1 h2 h3 h4)
        go_roundw
        case rel => exact ⟨k + 1, a2, c2, by omega, by go_num, by rw [HF.out]; simp, by rw [HF.out, List.length_append, List.flatMap_append]; simpa using hown2, hb2⟩
        case measure => simp [intOf]; omega
    · have HT : Hid (filterL id (ts.take k) = filterL id ts) := by show filterL _ _ = _; rw [List.take_of_length_le (by omega)]
      go_wp2
      go_returns
      obtain ⟨_, _, hv, hle, _, hnone⟩ := own_slice hown
      simp only [Value.slice.injEq] at hv
      obtain ⟨rfl, _, rfl⟩ := hv
      exact ⟨a', c', by rw [← HT.out]; rfl, by rw [← HT.out]; exact hle, hnone, Near.own hown (Nat.le_refl _), by rw [← HT.out]; exact own_row hown, hb⟩
end Go.Proofs.Ytnpbajmpenpnbaa
