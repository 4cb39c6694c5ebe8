import Derived.Test.YtoofmofaimdhpaaRefCheck
import Derived.Test.YtoofmofaimdhpaaDeleteFuncTen
import Derived.Test.YtoofmofaimdhpaaPackA1
import Derived.WalkArith
import Derived.Defers
import Derived.Recover
import Derived.Deep.RegionHeld3
import Derived.Deep.RegionLaw
set_option linter.unusedVariables false
set_option linter.unusedSimpArgs false
namespace Go.Proofs.Ytoofmofaimdhpaa
open Go.ChangeShapes Go.WideShapes Go.ChangeAt Go.RowKit
set_option maxRecDepth 100000

theorem findT_bad {ts : List Tenant} {id : Int} (h : tensOk 0 ts = false) : findT ts id = (zeroT, false) := by
  unfold findT; split
  · rw [h]; rfl
  · rfl
theorem findT_none {ts : List Tenant} {id : Int} (h : ∀ j (hj : j < ts.length), (ts[j].id == id) = false) : findT ts id = (zeroT, false) := by
  have : ts.findIdx? (fun x => x.id == id) = none := by
    rw [List.findIdx?_eq_none_iff]
    intro x hx
    obtain ⟨j, hj, rfl⟩ := List.mem_iff_getElem.1 hx
    exact h j hj
  unfold findT; rw [this]
theorem findT_some {ts : List Tenant} {id : Int} {k : Nat} (hk : k < ts.length) (ht : tensOk 0 ts = true) (hno : ∀ j (hj : j < ts.length), j < k → (ts[j].id == id) = false) (h : (ts[k].id == id) = true) : findT ts id = (ts[k], true) := by
  have : ts.findIdx? (fun x => x.id == id) = some k := by
    rw [List.findIdx?_eq_some_iff_getElem]
    exact ⟨hk, h, fun j hj => by rw [hno j (by omega) hj]; simp⟩
  unfold findT; rw [this]
  show (if tensOk 0 ts = true then _ else _) = _
  rw [ht, if_pos rfl, List.getElem?_eq_getElem hk]; rfl

set_option maxHeartbeats 1000000 in
theorem reffind_any (ts : List Tenant) (a : Option Addr) (n c : Nat) (id : Int) (w : World) (hn : ts.length = n) (hl : ts.length ≤ maxLen) (hr : TRow w a ts) :
    Calls Try.prog 26 #[.slice a n c, .int .i64 id] w (RetTF w (findT ts id)) := by
  subst hn
  have hl2 := lt_maxLen hl
  have hr1 : TRow (w.alloc (.cells #[.int .i64 0, .int .i64 0, .int .i64 0, .int .i64 0, .bool false] 55)) a ts := Row.alloc hr _
  cases ht : tensOk 0 ts with
  | false =>
    have HT := Lib.hid ht
    have HW : Hid (findT ts id = (zeroT, false)) := findT_bad ht
    clear ht
    generalize findT ts id = out at HW ⊢
    by_cases h0 : ts.length = 0
    · obtain rfl : ts = [] := List.eq_nil_of_length_eq_zero h0
      clear hl hl2 h0
      go_enter Try.func26, Try.ntmps26
      go_wp2
      refine wp_loop_rounds 1 ?_
      rw [rounds_succ]
      go_wp2
      (try simp only [Exit.inBlock, Exit.then])
      refine bodyPost_ret (v := .tuple #[zeroT.agg, .bool false]) (by simp [results, Try.results26, go_sem, zeroT]) rfl ?_
      exact ⟨by rw [HW.out], by go_grown⟩
    · have hp : 0 < ts.length := by omega
      clear h0
      go_enter Try.func26, Try.ntmps26
      go_wp2
      refine wp_loop_rounds 1 ?_
      rw [rounds_succ]
      go_wp2_with (go_at_call 43; ((with_reducible refine (refcheck_any ts _ _ _ _ rfl hl hr1).mono ?_); rw [HT.out]; rintro e w3 ⟨rfl, hb3⟩; have hcl := own_cells hb3; have hfz := own_frozen hb3))
      (try simp only [Exit.inBlock, Exit.then])
      refine bodyPost_ret (v := .tuple #[zeroT.agg, .bool false]) (by simp [results, Try.results26, go_sem, hcl, zeroT]) rfl ?_
      have hb5 := ((Below.refl w.heap.size w).alloc (Nat.le_refl _) _).trans (hb3.mono (by simp))
      exact ⟨by rw [HW.out], set5 hb5 (Nat.le_refl _) _ _ _ _ _⟩
  | true =>
    have HT := Lib.hid ht
    clear ht
    go_enter Try.func26, Try.ntmps26
    go_wp2
    go_loopw [6] (fun i wr => ∃ k : Nat, k ≤ ts.length ∧ i = .int .i64 k ∧ (∀ j (h : j < ts.length), j < k → (ts[j].id == id) = false) ∧
      Below (w.alloc (.cells #[.int .i64 0, .int .i64 0, .int .i64 0, .int .i64 0, .bool false] 55)).heap.size (w.alloc (.cells #[.int .i64 0, .int .i64 0, .int .i64 0, .int .i64 0, .bool false] 55)) wr) (fun i _ => ts.length - (intOf i).toNat)
    case atStart => exact ⟨0, by omega, rfl, by omega, Below.refl _ _⟩
    case round =>
      obtain ⟨k, hk, rfl, hno, hb⟩ := hrel
      have HNO := Lib.hid hno
      clear hno
      by_cases hlt : k < ts.length
      · obtain ⟨b, o, rfl, hcs⟩ := hr1.at hlt
        have HCS := Lib.hid hcs
        clear hcs
        cases hid : ts[k].id == id with
        | true =>
          have HID := Lib.hid hid
          go_wp2_with (go_at_call 43; ((with_reducible refine (refcheck_any ts _ _ _ _ rfl hl (hr1.below hb)).mono ?_); rw [HT.out]; rintro e w3 ⟨rfl, hb3⟩; have hb4 := hb.trans (hb3.mono hb.size); have hcl := own_cells hb4; have hfz := own_frozen hb4; obtain ⟨h0, h1, h2, h3, h4⟩ := HCS.out _ hb4))
          (try simp only [Exit.inBlock, Exit.then])
          refine bodyPost_ret (v := .tuple #[ts[k].agg, .bool true]) (by simp [results, Try.results26, go_sem, hcl]) rfl ?_
          have hb5 := ((Below.refl w.heap.size w).alloc (Nat.le_refl _) _).trans (hb4.mono (by simp))
          exact ⟨by rw [findT_some hlt HT.out HNO.out HID.out], set5 hb5 (Nat.le_refl _) _ _ _ _ _⟩
        | false =>
          have HID := Lib.hid hid
          go_wp2_with (go_at_call 43; ((with_reducible refine (refcheck_any ts _ _ _ _ rfl hl (hr1.below hb)).mono ?_); rw [HT.out]; rintro e w3 ⟨rfl, hb3⟩; have hb4 := hb.trans (hb3.mono hb.size); have hcl := own_cells hb4; have hfz := own_frozen hb4; obtain ⟨h0, h1, h2, h3, h4⟩ := HCS.out _ hb4))
          go_roundw
          case rel => exact ⟨k + 1, by omega, by go_num, fun j h hj => by rcases Nat.lt_succ_iff_lt_or_eq.1 hj with h1 | rfl; exact HNO.out j h h1; exact HID.out, hb4⟩
          case measure => simp [intOf]; omega
      · have hcl := own_cells hb
        have hfz := own_frozen hb
        have HW : Hid (findT ts id = (zeroT, false)) := findT_none (fun j hj => HNO.out j hj (by omega))
        go_wp2
        (try simp only [Exit.inBlock, Exit.then])
        refine bodyPost_ret (v := .tuple #[zeroT.agg, .bool false]) (by simp [results, Try.results26, go_sem, hcl, zeroT]) rfl ?_
        have hb5 := ((Below.refl w.heap.size w).alloc (Nat.le_refl _) _).trans (hb.mono (by simp))
        exact ⟨by rw [HW.out], set5 hb5 (Nat.le_refl _) _ _ _ _ _⟩

/-! Without, with: the document's. -/
def filterL (id : Int) (ts : List Tenant) : List Tenant := ts.filter (fun x => x.id != id)
end Go.Proofs.Ytoofmofaimdhpaa

namespace Go.Proofs.Ytoofmofaimdhpaa
open Go.ChangeShapes Go.WideShapes Go.ChangeAt Go.RowKit
set_option maxRecDepth 100000

def withStep (x : Tenant) (acc : List Tenant × Bool) (y : Tenant) : List Tenant × Bool :=
  if y.id = x.id then acc else if x.id < y.id ∧ acc.2 = false then (acc.1 ++ [x] ++ [y], true) else (acc.1 ++ [y], acc.2)
def withFold (x : Tenant) (ts : List Tenant) : List Tenant × Bool := ts.foldl (withStep x) ([], false)
def refWithL (x : Tenant) (ts : List Tenant) : List Tenant := if (withFold x ts).2 then (withFold x ts).1 else (withFold x ts).1 ++ [x]
theorem withFold_take {x : Tenant} {ts : List Tenant} {k : Nat} (h : k < ts.length) : withFold x (ts.take (k + 1)) = withStep x (withFold x (ts.take k)) ts[k] := by
  unfold withFold; rw [List.take_succ_eq_append_getElem h, List.foldl_append]; rfl
theorem withFold_len (x : Tenant) : ∀ (ts : List Tenant) (acc : List Tenant × Bool), (ts.foldl (withStep x) acc).1.length ≤ acc.1.length + ts.length * 2
  | [], acc => by simp
  | y :: ts, acc => by
    have := withFold_len x ts (withStep x acc y)
    have h2 : (withStep x acc y).1.length ≤ acc.1.length + 2 := by
      unfold withStep; split
      · omega
      · split <;> simp
    simp only [List.foldl_cons, List.length_cons]
    omega
theorem tcells1 (x : Tenant) : ∀ u ∈ x.cells, u.oneCell' = true := by
  intro u hu; simp at hu; rcases hu with rfl | rfl | rfl | rfl | rfl <;> rfl

set_option maxHeartbeats 2000000 in
theorem refwith_any (ts : List Tenant) (a : Option Addr) (n c : Nat) (x : Tenant) (w : World) (hn : ts.length = n) (hl : ts.length ≤ 1000) (hr : TRow w a ts) :
    Calls Try.prog 71 #[.slice a n c, x.agg] w (RetT w none (refWithL x ts)) := by
  subst hn
  have hx := xcells_at (w := w) (x := x)
  have HX := Lib.hid hx
  clear hx
  have hr1 : TRow (w.alloc (.cells #[.int .i64 x.id, .int .i64 x.rate, .int .i64 x.burst, .int .i64 x.bucket, .bool x.gone] 55)) a ts := Row.alloc hr _
  go_enter Try.func71, Try.ntmps71
  go_wp2
  go_loopw [5, 6, 7] (fun out d i wr => ∃ k : Nat, ∃ a' c' n' l' d', k ≤ ts.length ∧ i = .int .i64 k ∧ withFold x (ts.take k) = (l', d') ∧ l'.length = n' ∧ n' ≤ 2 * k ∧ out = .slice a' n' c' ∧ d = .bool d' ∧ wr.ownsRow (w.alloc (.cells #[.int .i64 x.id, .int .i64 x.rate, .int .i64 x.burst, .int .i64 x.bucket, .bool x.gone] 55)).heap.size 55 5 (.slice a' n' c') n' (l'.flatMap Tenant.cells) ∧
      Below (w.alloc (.cells #[.int .i64 x.id, .int .i64 x.rate, .int .i64 x.burst, .int .i64 x.bucket, .bool x.gone] 55)).heap.size (w.alloc (.cells #[.int .i64 x.id, .int .i64 x.rate, .int .i64 x.burst, .int .i64 x.bucket, .bool x.gone] 55)) wr) (fun _ _ i _ => ts.length - (intOf i).toNat)
  case atStart => exact ⟨0, none, 0, 0, [], false, by omega, rfl, rfl, rfl, by omega, rfl, rfl, World.ownsRow_nil _ _ _ _, Below.refl _ _⟩
  case round =>
    obtain ⟨k, a', c', n', l', d', hk, rfl, hfold, hln, hn2, rfl, rfl, hown, hb⟩ := hrel
    have HFO := Lib.hid hfold
    have HLN := Lib.hid hln
    clear hfold hln
    obtain ⟨x0, x1, x2, x3, x4⟩ := HX.out _ hb
    by_cases hlt : k < ts.length
    · obtain ⟨b, o, rfl, hcs⟩ := hr1.at hlt
      have HCS := Lib.hid hcs
      obtain ⟨h0, h1, h2, h3, h4⟩ := hcs _ hb
      clear hcs
      have HST : Hid (withFold x (ts.take (k + 1)) = withStep x (l', d') ts[k]) := by show _ = _; rw [withFold_take hlt, HFO.out]
      by_cases heq : ts[k].id = x.id
      · have HF : Hid (withFold x (ts.take (k + 1)) = (l', d')) := by show _ = _; rw [HST.out]; unfold withStep; rw [if_pos heq]
        have he : (ts[k].id == x.id) = true := by simpa using heq
        clear heq
        go_wp2
        go_quiet (fail)
        go_wp2
        go_roundw
        case rel => exact ⟨k + 1, a', c', n', l', d', by omega, by go_num, HF.out, HLN.out, by omega, rfl, rfl, hown, below_drewN hb _⟩
        case measure => simp [intOf]; omega
      · have he : (ts[k].id == x.id) = false := by simpa using heq
        have HNE := Lib.hid heq
        clear heq
        by_cases hgt : x.id < ts[k].id
        · cases d' with
          | true =>
            have HF : Hid (withFold x (ts.take (k + 1)) = (l' ++ [ts[k]], true)) := by show _ = _; rw [HST.out]; unfold withStep; rw [if_neg HNE.out, if_neg (by simp)]
            go_wp2
            go_quiet (fail)
            have hown1 : (wr.drewN nq).ownsRow (w.alloc (.cells #[.int .i64 x.id, .int .i64 x.rate, .int .i64 x.burst, .int .i64 x.bucket, .bool x.gone] 55)).heap.size 55 5 (.slice a' n' c') n' (l'.flatMap Tenant.cells) := hown
            have hb1 := below_drewN hb nq
            generalize wr.drewN nq = w1 at hown1 hb1 ⊢
            clear x0 x1 x2 x3 x4 h0 h1 h2 h3 h4 hown hb
            obtain ⟨x0, x1, x2, x3, x4⟩ := HX.out _ hb1
            obtain ⟨h0, h1, h2, h3, h4⟩ := HCS.out _ hb1
            go_wp2
            go_quiet (fail)
            have hown2 : (w1.drewN nq).ownsRow (w.alloc (.cells #[.int .i64 x.id, .int .i64 x.rate, .int .i64 x.burst, .int .i64 x.bucket, .bool x.gone] 55)).heap.size 55 5 (.slice a' n' c') n' (l'.flatMap Tenant.cells) := hown1
            have hb2 := below_drewN hb1 nq
            generalize w1.drewN nq = w2 at hown2 hb2 ⊢
            clear x0 x1 x2 x3 x4 h0 h1 h2 h3 h4 hown1 hb1
            obtain ⟨x0, x1, x2, x3, x4⟩ := HX.out _ hb2
            obtain ⟨h0, h1, h2, h3, h4⟩ := HCS.out _ hb2
            go_wp2_with (at_builtin; (refine wpList_app el_tenants rfl (.tmp 38) (.tmp 43) rfl (w.alloc (.cells #[.int .i64 x.id, .int .i64 x.rate, .int .i64 x.burst, .int .i64 x.bucket, .bool x.gone] 55)).heap.size _ n' _ rfl (hown2.alloc _) (some ⟨w2.heap.size, 0, none⟩) 1 1 ts[k].cells rfl rfl (Row.new _ _ _ _) (tcells1 ts[k]) (by omega) (Nat.le_trans hb2.size (by simp)) ?_; intro a3 c3 w3 hown3 hg3; have hb3 := Below.app (hb2.alloc hb2.size _) (hown2.alloc _) hg3 (Nat.le_trans hb2.size (by simp))); clear hg3)
            go_roundw
            case rel => exact ⟨k + 1, a3, c3, n' + 1, l' ++ [ts[k]], true, by omega, by go_num, HF.out, by rw [List.length_append, HLN.out]; rfl, by omega, rfl, rfl, by rw [List.flatMap_append]; simpa using hown3, hb3⟩
            case measure => simp [intOf]; omega
          | false =>
            have HF : Hid (withFold x (ts.take (k + 1)) = (l' ++ [x] ++ [ts[k]], true)) := by show _ = _; rw [HST.out]; unfold withStep; rw [if_neg HNE.out, if_pos ⟨hgt, rfl⟩]
            go_wp2
            go_quiet (fail)
            have hown1 : (wr.drewN nq).ownsRow (w.alloc (.cells #[.int .i64 x.id, .int .i64 x.rate, .int .i64 x.burst, .int .i64 x.bucket, .bool x.gone] 55)).heap.size 55 5 (.slice a' n' c') n' (l'.flatMap Tenant.cells) := hown
            have hb1 := below_drewN hb nq
            generalize wr.drewN nq = w1 at hown1 hb1 ⊢
            clear x0 x1 x2 x3 x4 h0 h1 h2 h3 h4 hown hb
            obtain ⟨x0, x1, x2, x3, x4⟩ := HX.out _ hb1
            obtain ⟨h0, h1, h2, h3, h4⟩ := HCS.out _ hb1
            go_wp2
            go_quiet (fail)
            have hown2 : (w1.drewN nq).ownsRow (w.alloc (.cells #[.int .i64 x.id, .int .i64 x.rate, .int .i64 x.burst, .int .i64 x.bucket, .bool x.gone] 55)).heap.size 55 5 (.slice a' n' c') n' (l'.flatMap Tenant.cells) := hown1
            have hb2 := below_drewN hb1 nq
            generalize w1.drewN nq = w2 at hown2 hb2 ⊢
            clear x0 x1 x2 x3 x4 h0 h1 h2 h3 h4 hown1 hb1
            obtain ⟨x0, x1, x2, x3, x4⟩ := HX.out _ hb2
            obtain ⟨h0, h1, h2, h3, h4⟩ := HCS.out _ hb2
            go_wp2_with (first
              | (at_builtin; (refine wpList_app el_tenants rfl (.tmp 34) (.tmp 36) rfl (w.alloc (.cells #[.int .i64 x.id, .int .i64 x.rate, .int .i64 x.burst, .int .i64 x.bucket, .bool x.gone] 55)).heap.size _ n' _ rfl (hown2.alloc _) (some ⟨w2.heap.size, 0, none⟩) 1 1 x.cells rfl rfl (Row.new _ _ _ _) (tcells1 x) (by omega) (Nat.le_trans hb2.size (by simp)) ?_; intro a3 c3 w3 hown3 hg3; have hb3 := Below.app (hb2.alloc hb2.size _) (hown2.alloc _) hg3 (Nat.le_trans hb2.size (by simp))); clear hg3; obtain ⟨y0, y1, y2, y3, y4⟩ := HCS.out _ hb3)
              | (at_builtin; (refine wpList_app el_tenants rfl (.tmp 38) (.tmp 43) rfl (w.alloc (.cells #[.int .i64 x.id, .int .i64 x.rate, .int .i64 x.burst, .int .i64 x.bucket, .bool x.gone] 55)).heap.size _ (n' + 1) _ rfl (hown3.alloc _) (some ⟨w3.heap.size, 0, none⟩) 1 1 ts[k].cells rfl rfl (Row.new _ _ _ _) (tcells1 ts[k]) (by omega) (Nat.le_trans hb3.size (by simp)) ?_; intro a4 c4 w4 hown4 hg4; have hb4 := Below.app (hb3.alloc hb3.size _) (hown3.alloc _) hg4 (Nat.le_trans hb3.size (by simp))); clear hg4))
            go_roundw
            case rel => exact ⟨k + 1, a4, c4, n' + 1 + 1, l' ++ [x] ++ [ts[k]], true, by omega, by go_num, HF.out, by rw [List.length_append, List.length_append, HLN.out]; rfl, by omega, rfl, rfl, by rw [List.flatMap_append, List.flatMap_append]; simpa using hown4, hb4⟩
            case measure => simp [intOf]; omega
        · have HF : Hid (withFold x (ts.take (k + 1)) = (l' ++ [ts[k]], d')) := by show _ = _; rw [HST.out]; unfold withStep; rw [if_neg HNE.out, if_neg (fun h => hgt h.1)]
          have hd : decide (x.id < ts[k].id) = false := by simpa using hgt
          go_wp2
          go_quiet (fail)
          have hown1 : (wr.drewN nq).ownsRow (w.alloc (.cells #[.int .i64 x.id, .int .i64 x.rate, .int .i64 x.burst, .int .i64 x.bucket, .bool x.gone] 55)).heap.size 55 5 (.slice a' n' c') n' (l'.flatMap Tenant.cells) := hown
          have hb1 := below_drewN hb nq
          generalize wr.drewN nq = w1 at hown1 hb1 ⊢
          clear x0 x1 x2 x3 x4 h0 h1 h2 h3 h4 hown hb
          obtain ⟨x0, x1, x2, x3, x4⟩ := HX.out _ hb1
          obtain ⟨h0, h1, h2, h3, h4⟩ := HCS.out _ hb1
          go_wp2
          go_quiet (fail)
          have hown2 : (w1.drewN nq).ownsRow (w.alloc (.cells #[.int .i64 x.id, .int .i64 x.rate, .int .i64 x.burst, .int .i64 x.bucket, .bool x.gone] 55)).heap.size 55 5 (.slice a' n' c') n' (l'.flatMap Tenant.cells) := hown1
          have hb2 := below_drewN hb1 nq
          generalize w1.drewN nq = w2 at hown2 hb2 ⊢
          clear x0 x1 x2 x3 x4 h0 h1 h2 h3 h4 hown1 hb1
          obtain ⟨x0, x1, x2, x3, x4⟩ := HX.out _ hb2
          obtain ⟨h0, h1, h2, h3, h4⟩ := HCS.out _ hb2
          go_wp2_with (at_builtin; (refine wpList_app el_tenants rfl (.tmp 38) (.tmp 43) rfl (w.alloc (.cells #[.int .i64 x.id, .int .i64 x.rate, .int .i64 x.burst, .int .i64 x.bucket, .bool x.gone] 55)).heap.size _ n' _ rfl (hown2.alloc _) (some ⟨w2.heap.size, 0, none⟩) 1 1 ts[k].cells rfl rfl (Row.new _ _ _ _) (tcells1 ts[k]) (by omega) (Nat.le_trans hb2.size (by simp)) ?_; intro a3 c3 w3 hown3 hg3; have hb3 := Below.app (hb2.alloc hb2.size _) (hown2.alloc _) hg3 (Nat.le_trans hb2.size (by simp))); clear hg3)
          go_roundw
          case rel => exact ⟨k + 1, a3, c3, n' + 1, l' ++ [ts[k]], d', by omega, by go_num, HF.out, by rw [List.length_append, HLN.out]; rfl, by omega, rfl, rfl, by rw [List.flatMap_append]; simpa using hown3, hb3⟩
          case measure => simp [intOf]; omega
    · have HA : Hid (withFold x ts = (l', d')) := by show _ = _; rw [← HFO.out, List.take_of_length_le (by omega)]
      cases d' with
      | true =>
        have HR : Hid (refWithL x ts = l') := by show _ = _; unfold refWithL; rw [HA.out]; rfl
        go_wp2
        go_returns
        obtain ⟨_, _, hv, hle, _, hnone⟩ := own_slice hown
        simp only [Value.slice.injEq] at hv
        obtain ⟨rfl, _, rfl⟩ := hv
        exact ⟨a', c', by rw [HR.out, HLN.out]; rfl, by rw [HR.out, HLN.out]; exact hle, hnone, Near.own hown (by simp), by rw [HR.out]; exact own_row hown, ((Below.refl _ _).alloc (Nat.le_refl _) _).trans (hb.mono (by simp))⟩
      | false =>
        have HR : Hid (refWithL x ts = l' ++ [x]) := by show _ = _; unfold refWithL; rw [HA.out]; rfl
        go_wp2_with (at_builtin; (refine wpList_app el_tenants rfl (.tmp 47) (.tmp 49) rfl (w.alloc (.cells #[.int .i64 x.id, .int .i64 x.rate, .int .i64 x.burst, .int .i64 x.bucket, .bool x.gone] 55)).heap.size _ n' _ rfl (hown.alloc _) (some ⟨wr.heap.size, 0, none⟩) 1 1 x.cells rfl rfl (Row.new _ _ _ _) (tcells1 x) (by omega) (Nat.le_trans hb.size (by simp)) ?_; intro a5 c5 w5 hown5 hg5; have hb5 := Below.app (hb.alloc hb.size _) (hown.alloc _) hg5 (Nat.le_trans hb.size (by simp))); clear hg5)
        go_returns
        obtain ⟨_, _, hv, hle, _, hnone⟩ := own_slice hown5
        simp only [Value.slice.injEq] at hv
        obtain ⟨rfl, _, rfl⟩ := hv
        exact ⟨a5, c5, by rw [HR.out, List.length_append, HLN.out]; rfl, by rw [HR.out, List.length_append, HLN.out]; exact hle, hnone, Near.own hown5 (by simp), by rw [HR.out]; have := own_row hown5; unfold TRow; rw [List.flatMap_append]; simpa using this, ((Below.refl _ _).alloc (Nat.le_refl _) _).trans (hb5.mono (by simp))⟩
end Go.Proofs.Ytoofmofaimdhpaa

/- Where tenants may be, the program's and the document's ways to take one out and put one in give the same. Plain mathematics. -/
namespace Go.Proofs.Ytoofmofaimdhpaa

theorem tenOk_lt {a : Int} {x : Tenant} (h : tenOk a x = true) : a < x.id := by
  unfold tenOk ask1 at h
  simp only [Bool.and_eq_true, decide_eq_true_eq] at h
  exact h.1.1.1.1
theorem tensOk_all : ∀ {ts : List Tenant} {a : Int}, tensOk a ts = true → ∀ x ∈ ts, a < x.id
  | y :: ts, a, h, x, hx => by
    rw [tensOk, Bool.and_eq_true] at h
    have h1 := tenOk_lt h.1
    rcases List.mem_cons.1 hx with rfl | hx
    · exact h1
    · have := tensOk_all h.2 x hx; omega
theorem filterL_cons_eq {id : Int} {y : Tenant} {ts : List Tenant} (h : y.id = id) : filterL id (y :: ts) = filterL id ts := by
  unfold filterL; rw [List.filter_cons, if_neg (by simp [h])]
theorem filterL_cons_ne {id : Int} {y : Tenant} {ts : List Tenant} (h : y.id ≠ id) : filterL id (y :: ts) = y :: filterL id ts := by
  unfold filterL; rw [List.filter_cons, if_pos (by simp [h])]
theorem filterL_all {id : Int} {ts : List Tenant} (h : ∀ x ∈ ts, x.id ≠ id) : filterL id ts = ts := by
  unfold filterL; rw [List.filter_eq_self]; intro x hx; simpa using h x hx
theorem withoutL_cons_eq {id : Int} {y : Tenant} {ts : List Tenant} (h : y.id = id) : withoutL id (y :: ts) = ts := by
  unfold withoutL; rw [List.findIdx?_cons, if_pos (by simpa using h)]; rfl
theorem withoutL_cons_ne {id : Int} {y : Tenant} {ts : List Tenant} (h : y.id ≠ id) : withoutL id (y :: ts) = y :: withoutL id ts := by
  unfold withoutL; rw [List.findIdx?_cons, if_neg (by simpa using h)]
  cases hf : ts.findIdx? (fun x => x.id == id) with
  | none => rfl
  | some k => rfl
theorem filter_without : ∀ {ts : List Tenant} {a : Int} (id : Int), tensOk a ts = true → filterL id ts = withoutL id ts
  | [], _, _, _ => rfl
  | y :: ts, a, id, h => by
    rw [tensOk, Bool.and_eq_true] at h
    by_cases hy : y.id = id
    · rw [filterL_cons_eq hy, withoutL_cons_eq hy]
      exact filterL_all fun x hx => by have := tensOk_all h.2 x hx; omega
    · rw [filterL_cons_ne hy, withoutL_cons_ne hy, filter_without id h.2]

def insR (x : Tenant) : List Tenant → List Tenant
  | [] => [x]
  | y :: l => if x.id < y.id then x :: y :: l else y :: insR x l
theorem insR_eq (x : Tenant) : ∀ l : List Tenant, insR x l = l.take (putAt x l) ++ x :: l.drop (putAt x l)
  | [] => rfl
  | y :: l => by
    have ih := insR_eq x l
    unfold insR
    by_cases h : x.id < y.id
    · have : putAt x (y :: l) = 0 := by unfold putAt; rw [List.findIdx?_cons, if_pos (by simpa using h)]
      rw [if_pos h, this]; rfl
    · have : putAt x (y :: l) = putAt x l + 1 := by
        unfold putAt; rw [List.findIdx?_cons, if_neg (by simpa using h)]
        cases l.findIdx? (fun y => decide (x.id < y.id)) <;> rfl
      rw [if_neg h, this, ih]; rfl
def hR (x : Tenant) : Bool → List Tenant → List Tenant
  | d, [] => if d then [] else [x]
  | d, y :: l => if y.id = x.id then hR x d l else if x.id < y.id ∧ d = false then x :: y :: hR x true l else y :: hR x d l
theorem fold_hR (x : Tenant) : ∀ (l pre : List Tenant) (d : Bool), (if (l.foldl (withStep x) (pre, d)).2 then (l.foldl (withStep x) (pre, d)).1 else (l.foldl (withStep x) (pre, d)).1 ++ [x]) = pre ++ hR x d l
  | [], pre, d => by cases d <;> simp [hR]
  | y :: l, pre, d => by
    rw [List.foldl_cons]
    unfold withStep hR
    by_cases h1 : y.id = x.id
    · rw [if_pos h1, if_pos h1]; exact fold_hR x l pre d
    · rw [if_neg h1, if_neg h1]
      by_cases h2 : x.id < y.id ∧ d = false
      · rw [if_pos h2, if_pos h2]
        have := fold_hR x l (pre ++ [x] ++ [y]) true
        unfold withStep at this
        rw [this]; simp
      · rw [if_neg h2, if_neg h2]
        have := fold_hR x l (pre ++ [y]) d
        unfold withStep at this
        rw [this]; simp
theorem hR_true (x : Tenant) : ∀ l : List Tenant, hR x true l = filterL x.id l
  | [] => rfl
  | y :: l => by
    unfold hR
    by_cases h1 : y.id = x.id
    · rw [if_pos h1, filterL_cons_eq h1]; exact hR_true x l
    · rw [if_neg h1, if_neg (by simp), filterL_cons_ne h1, hR_true x l]
theorem hR_false (x : Tenant) : ∀ l : List Tenant, hR x false l = insR x (filterL x.id l)
  | [] => rfl
  | y :: l => by
    unfold hR
    by_cases h1 : y.id = x.id
    · rw [if_pos h1, filterL_cons_eq h1]; exact hR_false x l
    · rw [if_neg h1, filterL_cons_ne h1]
      by_cases h2 : x.id < y.id
      · rw [if_pos ⟨h2, rfl⟩, insR, if_pos h2, hR_true]
      · rw [if_neg (fun h => h2 h.1), insR, if_neg h2, hR_false x l]
theorem refWith_eq {ts : List Tenant} (x : Tenant) (h : tensOk 0 ts = true) : refWithL x ts = withL x ts := by
  have h1 := fold_hR x ts [] false
  rw [List.nil_append] at h1
  have h2 : refWithL x ts = hR x false ts := h1
  rw [h2, hR_false, insR_eq, filter_without x.id h]
  rfl
end Go.Proofs.Ytoofmofaimdhpaa

/- What a policy put, or deleted, does to tenants that may be. Plain mathematics. -/
namespace Go.Proofs.Ytoofmofaimdhpaa

def okT (x : Tenant) : Bool := decide (x.id ≤ 16) && ask2 x && ask3 x && ask4 x
theorem tenOk_iff {a : Int} {x : Tenant} : tenOk a x = true ↔ a < x.id ∧ okT x = true := by
  unfold tenOk ask1 okT
  simp only [Bool.and_eq_true, decide_eq_true_eq]
  constructor
  · rintro ⟨⟨⟨⟨h1, h2⟩, h3⟩, h4⟩, h5⟩; exact ⟨h1, ⟨⟨h2, h3⟩, h4⟩, h5⟩
  · rintro ⟨h1, ⟨⟨h2, h3⟩, h4⟩, h5⟩; exact ⟨⟨⟨⟨h1, h2⟩, h3⟩, h4⟩, h5⟩
theorem tensOk_iff : ∀ {ts : List Tenant} {a : Int}, tensOk a ts = true ↔ (∀ x ∈ ts, a < x.id ∧ okT x = true) ∧ ts.Pairwise (fun x y => x.id < y.id)
  | [], a => by simp [tensOk]
  | y :: ts, a => by
    rw [tensOk, Bool.and_eq_true, tenOk_iff, tensOk_iff, List.pairwise_cons]
    constructor
    · rintro ⟨⟨h1, h2⟩, h3, h4⟩
      refine ⟨fun x hx => ?_, fun x hx => (h3 x hx).1, h4⟩
      rcases List.mem_cons.1 hx with rfl | hx
      · exact ⟨h1, h2⟩
      · have := h3 x hx; exact ⟨by omega, this.2⟩
    · rintro ⟨h1, h2, h3⟩
      exact ⟨h1 y (List.mem_cons_self ..), fun x hx => ⟨h2 x hx, (h1 x (List.mem_cons_of_mem _ hx)).2⟩, h3⟩
def findO (ts : List Tenant) (id : Int) : Option Tenant := ts.find? (fun x => x.id == id)
def bucketL (ts : List Tenant) (id : Int) : Int := match findO ts id with | some x => x.bucket | none => 0
theorem findO_mem {ts : List Tenant} {id : Int} {x : Tenant} (h : findO ts id = some x) : x ∈ ts ∧ x.id = id :=
  ⟨List.mem_of_find?_eq_some h, by simpa using List.find?_some h⟩
theorem findIdx_find : ∀ (ts : List Tenant) (id : Int), ((ts.findIdx? (fun x => x.id == id)).bind fun k => ts[k]?) = findO ts id
  | [], _ => rfl
  | y :: ts, id => by
    unfold findO
    rw [List.findIdx?_cons, List.find?_cons]
    by_cases h : (y.id == id) = true
    · rw [if_pos h, h]; rfl
    · rw [if_neg h]
      rw [Bool.not_eq_true] at h
      rw [h]
      have := findIdx_find ts id
      unfold findO at this
      simp only
      rw [← this]
      cases ts.findIdx? (fun x => x.id == id) <;> rfl
theorem findT_eq {ts : List Tenant} (id : Int) (h : tensOk 0 ts = true) : findT ts id = match findO ts id with | some x => (x, true) | none => (zeroT, false) := by
  have h1 := findIdx_find ts id
  unfold findT
  cases hf : ts.findIdx? (fun x => x.id == id) with
  | none => rw [hf] at h1; rw [← h1]; rfl
  | some k =>
    rw [hf] at h1
    have hk : k < ts.length := (List.findIdx?_eq_some_iff_getElem.1 hf).1
    simp only [Option.bind_some] at h1
    rw [← h1, List.getElem?_eq_getElem hk]
    simp [h, List.getElem?_eq_getElem hk]
theorem getS_eq {ts : List Tenant} (id : Int) (h : tensOk 0 ts = true) : getS ts id = match findO ts id with | some x => if x.gone = true then Ans.err 161 else ⟨0, x.rate, x.burst, 0, 0⟩ | none => Ans.err 161 := by
  unfold getS
  rw [if_neg (by rw [h]; simp), findT_eq id h]
  cases findO ts id with
  | none => rw [if_pos (.inl rfl)]
  | some x =>
    simp only
    by_cases hg : x.gone = true
    · rw [if_pos (.inr hg), if_pos hg]
    · rw [if_neg (by simp [hg]), if_neg hg]
theorem findT_bucket {ts : List Tenant} (id : Int) (h : tensOk 0 ts = true) : (findT ts id).1.bucket = bucketL ts id := by
  rw [findT_eq id h]; unfold bucketL
  cases findO ts id <;> rfl
theorem bucketL_range {ts : List Tenant} (id : Int) (h : tensOk 0 ts = true) : 0 ≤ bucketL ts id := by
  unfold bucketL
  cases hf : findO ts id with
  | none => exact Int.le_refl _
  | some x =>
    have := ((tensOk_iff.1 h).1 x (findO_mem hf).1).2
    unfold okT ask3 at this
    simp only [Bool.and_eq_true, decide_eq_true_eq] at this
    exact this.1.2.1
/-! Put in, taken out. -/
theorem withL_eq {ts : List Tenant} (x : Tenant) (h : tensOk 0 ts = true) : withL x ts = insR x (filterL x.id ts) := by
  rw [insR_eq, filter_without x.id h]; rfl
theorem mem_insR {x y : Tenant} : ∀ {l : List Tenant}, y ∈ insR x l ↔ y = x ∨ y ∈ l
  | [] => by simp [insR]
  | z :: l => by
    unfold insR
    split
    · simp
    · rw [List.mem_cons, mem_insR, List.mem_cons]
      constructor
      · rintro (h | h | h) <;> simp [h]
      · rintro (h | h | h) <;> simp [h]
theorem insR_sorted {x : Tenant} : ∀ {l : List Tenant}, l.Pairwise (fun x y => x.id < y.id) → (∀ y ∈ l, y.id ≠ x.id) → (insR x l).Pairwise (fun x y => x.id < y.id)
  | [], _, _ => by simp [insR]
  | z :: l, h, hn => by
    rw [List.pairwise_cons] at h
    unfold insR
    split
    · rename_i hlt
      rw [List.pairwise_cons, List.pairwise_cons]
      refine ⟨fun y hy => ?_, h⟩
      rcases List.mem_cons.1 hy with rfl | hy
      · exact hlt
      · have := h.1 y hy; omega
    · rename_i hlt
      rw [List.pairwise_cons]
      refine ⟨fun y hy => ?_, insR_sorted h.2 fun y hy => hn y (List.mem_cons_of_mem _ hy)⟩
      rcases mem_insR.1 hy with rfl | hy
      · have := hn z (List.mem_cons_self ..); omega
      · exact h.1 y hy
theorem find_insR_self {x : Tenant} : ∀ {l : List Tenant}, (∀ y ∈ l, y.id ≠ x.id) → findO (insR x l) x.id = some x
  | [], _ => by simp [insR, findO]
  | z :: l, hn => by
    have hz := hn z (List.mem_cons_self ..)
    unfold insR
    split
    · simp [findO]
    · have := find_insR_self (l := l) fun y hy => hn y (List.mem_cons_of_mem _ hy)
      unfold findO at this ⊢
      rw [List.find?_cons_of_neg (by simpa using hz)]
      exact this
theorem find_insR_other {x : Tenant} {id : Int} (h : x.id ≠ id) : ∀ l : List Tenant, findO (insR x l) id = findO l id
  | [] => by simp [insR, findO, h]
  | z :: l => by
    have ih := find_insR_other h l
    unfold insR
    split
    · unfold findO; rw [List.find?_cons_of_neg (by simpa using h)]
    · unfold findO at ih ⊢
      rw [List.find?_cons, List.find?_cons, ih]
theorem find_filter_self (id : Int) (l : List Tenant) : findO (filterL id l) id = none := by
  unfold findO filterL
  rw [List.find?_eq_none]
  intro x hx
  simpa using (List.mem_filter.1 hx).2
theorem find_filter_other {id other : Int} (h : id ≠ other) : ∀ l : List Tenant, findO (filterL id l) other = findO l other
  | [] => rfl
  | z :: l => by
    have ih := find_filter_other h l
    by_cases hz : z.id = id
    · rw [filterL_cons_eq hz, ih]; unfold findO; rw [List.find?_cons_of_neg (by simp; omega)]
    · rw [filterL_cons_ne hz]; unfold findO at ih ⊢; rw [List.find?_cons, List.find?_cons, ih]
theorem tensOk_filter {l : List Tenant} (id : Int) (h : tensOk 0 l = true) : tensOk 0 (filterL id l) = true := by
  obtain ⟨h1, h2⟩ := tensOk_iff.1 h
  exact tensOk_iff.2 ⟨fun x hx => h1 x (List.mem_filter.1 hx).1, h2.sublist List.filter_sublist⟩
theorem tensOk_insR {l : List Tenant} {x : Tenant} (h : tensOk 0 l = true) (hx : 0 < x.id) (ho : okT x = true) (hn : ∀ y ∈ l, y.id ≠ x.id) : tensOk 0 (insR x l) = true := by
  obtain ⟨h1, h2⟩ := tensOk_iff.1 h
  refine tensOk_iff.2 ⟨fun y hy => ?_, insR_sorted h2 hn⟩
  rcases mem_insR.1 hy with rfl | hy
  · exact ⟨hx, ho⟩
  · exact h1 y hy
theorem filterL_ne (id : Int) (l : List Tenant) : ∀ y ∈ filterL id l, y.id ≠ id := fun y hy => by simpa using (List.mem_filter.1 hy).2
/-- With a tenant that may be. -/
theorem withL_facts {ts : List Tenant} {x : Tenant} (h : tensOk 0 ts = true) (hx : 0 < x.id) (ho : okT x = true) :
    tensOk 0 (withL x ts) = true ∧ findO (withL x ts) x.id = some x ∧ ∀ other, other ≠ x.id → findO (withL x ts) other = findO ts other := by
  rw [withL_eq x h]
  refine ⟨tensOk_insR (tensOk_filter _ h) hx ho (filterL_ne _ _), find_insR_self (filterL_ne _ _), fun other hne => ?_⟩
  rw [find_insR_other hne.symm, find_filter_other hne.symm]
theorem withoutL_facts {ts : List Tenant} (id : Int) (h : tensOk 0 ts = true) :
    tensOk 0 (withoutL id ts) = true ∧ findO (withoutL id ts) id = none ∧ ∀ other, other ≠ id → findO (withoutL id ts) other = findO ts other := by
  rw [← filter_without id h]
  exact ⟨tensOk_filter _ h, find_filter_self _ _, fun other hne => find_filter_other hne.symm _⟩
theorem cutI_le (b burst out : Int) (h : 0 ≤ b) : cutI b burst out ≤ b := by
  have := (roomI_range burst out).1
  unfold cutI broughtI
  omega
/-- A policy put that is not refused. -/
theorem putS_facts {ts : List Tenant} {id rate burst out : Int} (h : tensOk 0 ts = true) (he : (putS ts id rate burst out).2.e = 0) :
    (putS ts id rate burst out).2 = ⟨0, rate, burst, 0, 0⟩ ∧ tensOk 0 (putS ts id rate burst out).1 = true ∧ bucketL (putS ts id rate burst out).1 id ≤ bucketL ts id ∧
    (∀ other, other ≠ id → findO (putS ts id rate burst out).1 other = findO ts other) ∧ getS (putS ts id rate burst out).1 id = ⟨0, rate, burst, 0, 0⟩ := by
  unfold putS at he ⊢
  rw [if_neg (by rw [h]; simp)] at he ⊢
  by_cases h1 : id < 1 ∨ 16 < id
  · rw [if_pos h1] at he; cases he
  · rw [if_neg h1] at he ⊢
    cases hm : mayB rate burst with
    | false => rw [if_pos hm] at he; cases he
    | true =>
      rw [if_neg (by simp)]
      have hc := cutI_range (findT ts id).1.bucket burst (max out 0)
      have hr := roomI_range burst (max out 0)
      have hb := findT_bucket id h
      have hb2 := bucketL_range id h
      obtain ⟨f1, f2, f3⟩ := withL_facts (x := ⟨id, rate, burst, cutI (findT ts id).1.bucket burst (max out 0), false⟩) h (show 0 < id by omega)
        (by unfold okT ask2 ask3 ask4; simp only [hm, Bool.and_eq_true, decide_eq_true_eq]; exact ⟨⟨⟨by omega, trivial⟩, by omega⟩, rfl⟩)
      refine ⟨rfl, f1, ?_, f3, ?_⟩
      · simp only at f2
        unfold bucketL
        rw [f2]
        have := cutI_le (findT ts id).1.bucket burst (max out 0) (by omega)
        unfold bucketL at hb
        simp only
        omega
      · rw [getS_eq id f1]; simp only at f2; rw [f2]; rfl
theorem putS_refused {ts : List Tenant} {id rate burst out : Int} (he : (putS ts id rate burst out).2.e ≠ 0) : (putS ts id rate burst out).1 = ts := by
  unfold putS at he ⊢
  split at he <;> rename_i h1
  · rw [if_pos h1]
  · rw [if_neg h1]
    split at he <;> rename_i h2
    · rw [if_pos h2]
    · rw [if_neg h2]
      split at he <;> rename_i h3
      · rw [if_pos h3]
      · exact absurd rfl he
theorem deleteS_facts {ts : List Tenant} {id out : Int} (h : tensOk 0 ts = true) :
    tensOk 0 (deleteS ts id out).1 = true ∧ (∀ other, other ≠ id → findO (deleteS ts id out).1 other = findO ts other) ∧
    ((getS ts id).e = 0 → bucketL (deleteS ts id out).1 id = 0 ∧ (getS (deleteS ts id out).1 id).e = 161) ∧ ((getS ts id).e ≠ 0 → (deleteS ts id out).1 = ts) := by
  unfold deleteS
  by_cases he : (getS ts id).e = 0
  · rw [if_neg (by simpa using he)]
    by_cases ho : 0 < out
    · rw [if_pos ho]
      have hid : 0 < id ∧ id ≤ 16 := by
        rw [getS_eq id h] at he
        cases hf : findO ts id with
        | none => rw [hf] at he; cases he
        | some x =>
          obtain ⟨h1, h2⟩ := findO_mem hf
          have := (tensOk_iff.1 h).1 x h1
          have h3 := this.2
          unfold okT at h3
          simp only [Bool.and_eq_true, decide_eq_true_eq] at h3
          have h4 := h3.1.1.1
          omega
      obtain ⟨f1, f2, f3⟩ := withL_facts (x := ⟨id, 0, 0, 0, true⟩) h hid.1 (by unfold okT ask2 ask3 ask4; simp only [Bool.and_eq_true, decide_eq_true_eq]; exact ⟨⟨⟨hid.2, rfl⟩, by omega⟩, rfl⟩)
      simp only at f2
      exact ⟨f1, f3, fun _ => ⟨by unfold bucketL; rw [f2], by rw [getS_eq id f1, f2]; rfl⟩, fun h => absurd he h⟩
    · rw [if_neg ho]
      obtain ⟨f1, f2, f3⟩ := withoutL_facts id h
      exact ⟨f1, f3, fun _ => ⟨by unfold bucketL; rw [f2], by rw [getS_eq id f1, f2]; rfl⟩, fun h => absurd he h⟩
  · rw [if_pos he]
    exact ⟨h, fun _ _ => rfl, fun h => absurd h he, fun _ => rfl⟩
theorem getS_other {ts us : List Tenant} {id : Int} (h : tensOk 0 ts = true) (h2 : tensOk 0 us = true) (hf : findO us id = findO ts id) : getS us id = getS ts id := by
  rw [getS_eq id h, getS_eq id h2, hf]
theorem bucketL_other {ts us : List Tenant} {id : Int} (hf : findO us id = findO ts id) : bucketL us id = bucketL ts id := by
  unfold bucketL; rw [hf]
theorem bucketL_take {ts : List Tenant} {id : Int} {k : Nat} (hk : k < ts.length) (hno : ∀ j (h : j < ts.length), j < k → (ts[j].id == id) = false) (h : (ts[k].id == id) = true) : bucketL ts id = ts[k].bucket := by
  have : findO ts id = some ts[k] := by
    unfold findO
    rw [List.find?_eq_some_iff_getElem]
    exact ⟨h, k, hk, rfl, fun j hj => by rw [hno j (by omega) hj]; rfl⟩
  unfold bucketL; rw [this]
theorem bucketL_none {ts : List Tenant} {id : Int} (hno : ∀ j (h : j < ts.length), (ts[j].id == id) = false) : bucketL ts id = 0 := by
  have : findO ts id = none := by
    unfold findO
    rw [List.find?_eq_none]
    intro x hx
    obtain ⟨j, hj, rfl⟩ := List.mem_iff_getElem.1 hx
    rw [hno j hj]; simp
  unfold bucketL; rw [this]
theorem withoutL_length (id : Int) (ts : List Tenant) : (withoutL id ts).length ≤ ts.length := by
  unfold withoutL
  split
  · simp; omega
  · exact Nat.le_refl _
theorem withL_length (x : Tenant) (ts : List Tenant) : (withL x ts).length ≤ ts.length + 1 := by
  have h := withoutL_length x.id ts
  unfold withL
  simp
  omega
end Go.Proofs.Ytoofmofaimdhpaa

namespace Go.Proofs.Ytoofmofaimdhpaa
open Go.ChangeShapes Go.WideShapes Go.ChangeAt Go.RowKit
set_option maxRecDepth 100000

def setS (ts : List Tenant) (x : Tenant) : List Tenant × Int := if tensOk 0 ts = true ∧ tensOk 0 (withL x ts) = true then (withL x ts, 0) else (ts, 2)
def RetTE (w : World) (src : Option Addr) (r : List Tenant × Int) (e : Ending) (w' : World) : Prop :=
  ∃ a c, e = .returned (.tuple #[.slice a r.1.length c, .int .i64 r.2]) ∧ r.1.length ≤ c ∧ (a = none → c = 0) ∧ Near w.heap.size src a ∧ TRow w' a r.1 ∧ Below w.heap.size w w'
theorem row_tenant {w : World} (x : Tenant) : (w.alloc (.cells #[.int .i64 x.id, .int .i64 x.rate, .int .i64 x.burst, .int .i64 x.bucket, .bool x.gone] 55)).cell? ⟨w.heap.size, 0, none⟩ = some (.int .i64 x.id) := World.cell?_alloc_at _ _ _ 0 rfl

set_option maxHeartbeats 1000000 in
theorem set_any (ts : List Tenant) (a : Option Addr) (n c : Nat) (x : Tenant) (w : World) (hn : ts.length = n) (hl : ts.length ≤ 900) (hc : a = none → c = 0) (hnc : n ≤ c) (hr : TRow w a ts) :
    Calls Try.prog 34 #[.slice a n c, x.agg] w (RetTE w a (setS ts x)) := by
  subst hn
  have hlw := withL_length x ts
  have hmax : ts.length ≤ maxLen := le_maxLen (by omega)
  have hmaw : (withL x ts).length ≤ maxLen := le_maxLen (by omega)
  have HS : Hid (setS ts x = if tensOk 0 ts = true ∧ tensOk 0 (withL x ts) = true then (withL x ts, 0) else (ts, 2)) := rfl
  generalize setS ts x = res at HS ⊢
  have HW : Hid (withL x ts = withL x ts) := rfl
  generalize hwl : withL x ts = wl at HS hlw hmaw HW
  have HWL := Lib.hid hwl
  clear hwl HW
  cases h1 : tensOk 0 ts with
  | false =>
    have H1 := Lib.hid h1
    have HO : Hid (res = (ts, 2)) := by rw [HS.out, if_neg (fun h => by rw [h1] at h; cases h.1)]; exact rfl
    clear h1 HS
    go_enter Try.func34, Try.ntmps34
    go_wp2_with (first
      | (go_at_call 69; ((with_reducible refine (with_any ts _ _ _ x _ rfl (by omega) hc hnc (hr.below (by repeat' (first | (with_reducible exact Below.refl _ _) | (with_reducible assumption) | (with_reducible refine Below.drew ?_) | (with_reducible refine Below.more ?_ _) | (with_reducible refine Below.put ?_ ?_ _) | (with_reducible refine Below.next ?_ (by with_reducible assumption)) | (with_reducible exact Nat.le_refl _) | (with_reducible refine Below.size' ?_) | omega)))).mono ?_); rw [HWL.out]; rintro e w2 ⟨a2, c2, rfl, hc2, hn2, hnear2, hr2, hb2⟩))
      | (go_at_call 46; ((with_reducible refine (check_any ts a _ _ _ rfl hmax (hr.below (by repeat' (first | (with_reducible exact Below.refl _ _) | (with_reducible assumption) | (with_reducible refine Below.drew ?_) | (with_reducible refine Below.more ?_ _) | (with_reducible refine Below.put ?_ ?_ _) | (with_reducible refine Below.next ?_ (by with_reducible assumption)) | (with_reducible exact Nat.le_refl _) | (with_reducible refine Below.size' ?_) | omega)))).mono ?_); rw [H1.out]; rintro e w3 ⟨rfl, hb3⟩)))
    go_returns
    exact ⟨a, c, by rw [HO.out]; rfl, by rw [HO.out]; exact hnc, hc, Near.self _ _, by rw [HO.out]; exact hr.below (by repeat' (first | (with_reducible exact Below.refl _ _) | (with_reducible assumption) | (with_reducible refine Below.drew ?_) | (with_reducible refine Below.more ?_ _) | (with_reducible refine Below.put ?_ ?_ _) | (with_reducible refine Below.next ?_ (by with_reducible assumption)) | (with_reducible exact Nat.le_refl _) | (with_reducible refine Below.size' ?_) | omega)), (by repeat' (first | (with_reducible exact Below.refl _ _) | (with_reducible assumption) | (with_reducible refine Below.drew ?_) | (with_reducible refine Below.more ?_ _) | (with_reducible refine Below.put ?_ ?_ _) | (with_reducible refine Below.next ?_ (by with_reducible assumption)) | (with_reducible exact Nat.le_refl _) | (with_reducible refine Below.size' ?_) | omega))⟩
  | true =>
    have H1 := Lib.hid h1
    cases h2 : tensOk 0 wl with
    | false =>
      have H2 := Lib.hid h2
      have HO : Hid (res = (ts, 2)) := by rw [HS.out, if_neg (fun h => by rw [h2] at h; cases h.2)]; exact rfl
      clear h1 h2 HS
      go_enter Try.func34, Try.ntmps34
      go_wp2_with (first
        | (go_at_call 69; ((with_reducible refine (with_any ts _ _ _ x _ rfl (by omega) hc hnc (hr.below (by repeat' (first | (with_reducible exact Below.refl _ _) | (with_reducible assumption) | (with_reducible refine Below.drew ?_) | (with_reducible refine Below.more ?_ _) | (with_reducible refine Below.put ?_ ?_ _) | (with_reducible refine Below.next ?_ (by with_reducible assumption)) | (with_reducible exact Nat.le_refl _) | (with_reducible refine Below.size' ?_) | omega)))).mono ?_); rw [HWL.out]; rintro e w2 ⟨a2, c2, rfl, hc2, hn2, hnear2, hr2, hb2⟩))
        | (go_at_call 46; ((with_reducible refine (check_any ts a _ _ _ rfl hmax (hr.below (by repeat' (first | (with_reducible exact Below.refl _ _) | (with_reducible assumption) | (with_reducible refine Below.drew ?_) | (with_reducible refine Below.more ?_ _) | (with_reducible refine Below.put ?_ ?_ _) | (with_reducible refine Below.next ?_ (by with_reducible assumption)) | (with_reducible exact Nat.le_refl _) | (with_reducible refine Below.size' ?_) | omega)))).mono ?_); rw [H1.out]; rintro e w3 ⟨rfl, hb3⟩))
        | (go_at_call 46; ((with_reducible refine (check_any wl a2 _ _ _ rfl hmaw (hr2.below (by repeat' (first | (with_reducible exact Below.refl _ _) | (with_reducible assumption) | (with_reducible refine Below.drew ?_) | (with_reducible refine Below.more ?_ _) | (with_reducible refine Below.put ?_ ?_ _) | (with_reducible refine Below.next ?_ (by with_reducible assumption)) | (with_reducible exact Nat.le_refl _) | (with_reducible refine Below.size' ?_) | omega)))).mono ?_); rw [H2.out]; rintro e w4 ⟨rfl, hb4⟩)))
      go_returns
      exact ⟨a, c, by rw [HO.out]; rfl, by rw [HO.out]; exact hnc, hc, Near.self _ _, by rw [HO.out]; exact hr.below (by repeat' (first | (with_reducible exact Below.refl _ _) | (with_reducible assumption) | (with_reducible refine Below.drew ?_) | (with_reducible refine Below.more ?_ _) | (with_reducible refine Below.put ?_ ?_ _) | (with_reducible refine Below.next ?_ (by with_reducible assumption)) | (with_reducible exact Nat.le_refl _) | (with_reducible refine Below.size' ?_) | omega)), (by repeat' (first | (with_reducible exact Below.refl _ _) | (with_reducible assumption) | (with_reducible refine Below.drew ?_) | (with_reducible refine Below.more ?_ _) | (with_reducible refine Below.put ?_ ?_ _) | (with_reducible refine Below.next ?_ (by with_reducible assumption)) | (with_reducible exact Nat.le_refl _) | (with_reducible refine Below.size' ?_) | omega))⟩
    | true =>
      have H2 := Lib.hid h2
      have HO : Hid (res = (wl, 0)) := by rw [HS.out, if_pos ⟨h1, h2⟩]; exact rfl
      clear h1 h2 HS
      go_enter Try.func34, Try.ntmps34
      go_wp2_with (first
        | (go_at_call 69; ((with_reducible refine (with_any ts _ _ _ x _ rfl (by omega) hc hnc (hr.below (by repeat' (first | (with_reducible exact Below.refl _ _) | (with_reducible assumption) | (with_reducible refine Below.drew ?_) | (with_reducible refine Below.more ?_ _) | (with_reducible refine Below.put ?_ ?_ _) | (with_reducible refine Below.next ?_ (by with_reducible assumption)) | (with_reducible exact Nat.le_refl _) | (with_reducible refine Below.size' ?_) | omega)))).mono ?_); rw [HWL.out]; rintro e w2 ⟨a2, c2, rfl, hc2, hn2, hnear2, hr2, hb2⟩))
        | (go_at_call 46; ((with_reducible refine (check_any ts a _ _ _ rfl hmax (hr.below (by repeat' (first | (with_reducible exact Below.refl _ _) | (with_reducible assumption) | (with_reducible refine Below.drew ?_) | (with_reducible refine Below.more ?_ _) | (with_reducible refine Below.put ?_ ?_ _) | (with_reducible refine Below.next ?_ (by with_reducible assumption)) | (with_reducible exact Nat.le_refl _) | (with_reducible refine Below.size' ?_) | omega)))).mono ?_); rw [H1.out]; rintro e w3 ⟨rfl, hb3⟩))
        | (go_at_call 46; ((with_reducible refine (check_any wl a2 _ _ _ rfl hmaw (hr2.below (by repeat' (first | (with_reducible exact Below.refl _ _) | (with_reducible assumption) | (with_reducible refine Below.drew ?_) | (with_reducible refine Below.more ?_ _) | (with_reducible refine Below.put ?_ ?_ _) | (with_reducible refine Below.next ?_ (by with_reducible assumption)) | (with_reducible exact Nat.le_refl _) | (with_reducible refine Below.size' ?_) | omega)))).mono ?_); rw [H2.out]; rintro e w4 ⟨rfl, hb4⟩)))
      go_returns
      exact ⟨a2, c2, by rw [HO.out]; rfl, by rw [HO.out]; exact hc2, hn2, (hnear2.mono (by simp)).trans' _, by rw [HO.out]; exact hr2.below (by repeat' (first | (with_reducible exact Below.refl _ _) | (with_reducible assumption) | (with_reducible refine Below.drew ?_) | (with_reducible refine Below.more ?_ _) | (with_reducible refine Below.put ?_ ?_ _) | (with_reducible refine Below.next ?_ (by with_reducible assumption)) | (with_reducible exact Nat.le_refl _) | (with_reducible refine Below.size' ?_) | omega)), (by repeat' (first | (with_reducible exact Below.refl _ _) | (with_reducible assumption) | (with_reducible refine Below.drew ?_) | (with_reducible refine Below.more ?_ _) | (with_reducible refine Below.put ?_ ?_ _) | (with_reducible refine Below.next ?_ (by with_reducible assumption)) | (with_reducible exact Nat.le_refl _) | (with_reducible refine Below.size' ?_) | omega))⟩

set_option maxHeartbeats 1000000 in
theorem refset_any (ts : List Tenant) (a : Option Addr) (n c : Nat) (x : Tenant) (w : World) (hn : ts.length = n) (hl : ts.length ≤ 900) (hc : a = none → c = 0) (hnc : n ≤ c) (hr : TRow w a ts) :
    Calls Try.prog 38 #[.slice a n c, x.agg] w (RetTE w a (setS ts x)) := by
  subst hn
  have hlw := withL_length x ts
  have hmax : ts.length ≤ maxLen := le_maxLen (by omega)
  have hmaw : (withL x ts).length ≤ maxLen := le_maxLen (by omega)
  have HS : Hid (setS ts x = if tensOk 0 ts = true ∧ tensOk 0 (withL x ts) = true then (withL x ts, 0) else (ts, 2)) := rfl
  generalize setS ts x = res at HS ⊢
  have HRE := Lib.hid (refWith_eq (ts := ts) x)
  generalize hwl : withL x ts = wl at HS hlw hmaw HRE
  have HWL := Lib.hid hwl
  clear hwl
  cases h1 : tensOk 0 ts with
  | false =>
    have H1 := Lib.hid h1
    have HO : Hid (res = (ts, 2)) := by rw [HS.out, if_neg (fun h => by rw [h1] at h; cases h.1)]; exact rfl
    clear h1 HS
    go_enter Try.func38, Try.ntmps38
    go_wp2_with (first
      | (go_at_call 43; ((with_reducible refine (refcheck_any ts a _ _ _ rfl hmax (hr.below (by repeat' (first | (with_reducible exact Below.refl _ _) | (with_reducible assumption) | (with_reducible refine Below.drew ?_) | (with_reducible refine Below.more ?_ _) | (with_reducible refine Below.put ?_ ?_ _) | (with_reducible refine Below.next ?_ (by with_reducible assumption)) | (with_reducible exact Nat.le_refl _) | (with_reducible refine Below.size' ?_) | omega)))).mono ?_); rw [H1.out]; rintro e w3 ⟨rfl, hb3⟩)))
    go_returns
    exact ⟨a, c, by rw [HO.out]; rfl, by rw [HO.out]; exact hnc, hc, Near.self _ _, by rw [HO.out]; exact hr.below (by repeat' (first | (with_reducible exact Below.refl _ _) | (with_reducible assumption) | (with_reducible refine Below.drew ?_) | (with_reducible refine Below.more ?_ _) | (with_reducible refine Below.put ?_ ?_ _) | (with_reducible refine Below.next ?_ (by with_reducible assumption)) | (with_reducible exact Nat.le_refl _) | (with_reducible refine Below.size' ?_) | omega)), (by repeat' (first | (with_reducible exact Below.refl _ _) | (with_reducible assumption) | (with_reducible refine Below.drew ?_) | (with_reducible refine Below.more ?_ _) | (with_reducible refine Below.put ?_ ?_ _) | (with_reducible refine Below.next ?_ (by with_reducible assumption)) | (with_reducible exact Nat.le_refl _) | (with_reducible refine Below.size' ?_) | omega))⟩
  | true =>
    have H1 := Lib.hid h1
    have HRW := Lib.hid (HRE.out h1)
    cases h2 : tensOk 0 wl with
    | false =>
      have H2 := Lib.hid h2
      have HO : Hid (res = (ts, 2)) := by rw [HS.out, if_neg (fun h => by rw [h2] at h; cases h.2)]; exact rfl
      clear h1 h2 HS
      go_enter Try.func38, Try.ntmps38
      go_wp2_with (first
        | (go_at_call 43; ((with_reducible refine (refcheck_any ts a _ _ _ rfl hmax (hr.below (by repeat' (first | (with_reducible exact Below.refl _ _) | (with_reducible assumption) | (with_reducible refine Below.drew ?_) | (with_reducible refine Below.more ?_ _) | (with_reducible refine Below.put ?_ ?_ _) | (with_reducible refine Below.next ?_ (by with_reducible assumption)) | (with_reducible exact Nat.le_refl _) | (with_reducible refine Below.size' ?_) | omega)))).mono ?_); rw [H1.out]; rintro e w3 ⟨rfl, hb3⟩; have hx3 := own_cells hb3; have hz3 := own_frozen hb3))
        | (go_at_call 71; ((with_reducible refine (refwith_any ts _ _ _ x _ rfl (by omega) (hr.below (by repeat' (first | (with_reducible exact Below.refl _ _) | (with_reducible assumption) | (with_reducible refine Below.drew ?_) | (with_reducible refine Below.more ?_ _) | (with_reducible refine Below.put ?_ ?_ _) | (with_reducible refine Below.next ?_ (by with_reducible assumption)) | (with_reducible exact Nat.le_refl _) | (with_reducible refine Below.size' ?_) | omega)))).mono ?_); rw [HRW.out]; rintro e w2 ⟨a2, c2, rfl, hc2, hn2, hnear2, hr2, hb2⟩))
        | (go_at_call 43; ((with_reducible refine (refcheck_any wl a2 _ _ _ rfl hmaw (hr2.below (by repeat' (first | (with_reducible exact Below.refl _ _) | (with_reducible assumption) | (with_reducible refine Below.drew ?_) | (with_reducible refine Below.more ?_ _) | (with_reducible refine Below.put ?_ ?_ _) | (with_reducible refine Below.next ?_ (by with_reducible assumption)) | (with_reducible exact Nat.le_refl _) | (with_reducible refine Below.size' ?_) | omega)))).mono ?_); rw [H2.out]; rintro e w4 ⟨rfl, hb4⟩)))
      go_returns
      exact ⟨a, c, by rw [HO.out]; rfl, by rw [HO.out]; exact hnc, hc, Near.self _ _, by rw [HO.out]; exact hr.below (by repeat' (first | (with_reducible exact Below.refl _ _) | (with_reducible assumption) | (with_reducible refine Below.drew ?_) | (with_reducible refine Below.more ?_ _) | (with_reducible refine Below.put ?_ ?_ _) | (with_reducible refine Below.next ?_ (by with_reducible assumption)) | (with_reducible exact Nat.le_refl _) | (with_reducible refine Below.size' ?_) | omega)), (by repeat' (first | (with_reducible exact Below.refl _ _) | (with_reducible assumption) | (with_reducible refine Below.drew ?_) | (with_reducible refine Below.more ?_ _) | (with_reducible refine Below.put ?_ ?_ _) | (with_reducible refine Below.next ?_ (by with_reducible assumption)) | (with_reducible exact Nat.le_refl _) | (with_reducible refine Below.size' ?_) | omega))⟩
    | true =>
      have H2 := Lib.hid h2
      have HO : Hid (res = (wl, 0)) := by rw [HS.out, if_pos ⟨h1, h2⟩]; exact rfl
      clear h1 h2 HS
      go_enter Try.func38, Try.ntmps38
      go_wp2_with (first
        | (go_at_call 43; ((with_reducible refine (refcheck_any ts a _ _ _ rfl hmax (hr.below (by repeat' (first | (with_reducible exact Below.refl _ _) | (with_reducible assumption) | (with_reducible refine Below.drew ?_) | (with_reducible refine Below.more ?_ _) | (with_reducible refine Below.put ?_ ?_ _) | (with_reducible refine Below.next ?_ (by with_reducible assumption)) | (with_reducible exact Nat.le_refl _) | (with_reducible refine Below.size' ?_) | omega)))).mono ?_); rw [H1.out]; rintro e w3 ⟨rfl, hb3⟩; have hx3 := own_cells hb3; have hz3 := own_frozen hb3))
        | (go_at_call 71; ((with_reducible refine (refwith_any ts _ _ _ x _ rfl (by omega) (hr.below (by repeat' (first | (with_reducible exact Below.refl _ _) | (with_reducible assumption) | (with_reducible refine Below.drew ?_) | (with_reducible refine Below.more ?_ _) | (with_reducible refine Below.put ?_ ?_ _) | (with_reducible refine Below.next ?_ (by with_reducible assumption)) | (with_reducible exact Nat.le_refl _) | (with_reducible refine Below.size' ?_) | omega)))).mono ?_); rw [HRW.out]; rintro e w2 ⟨a2, c2, rfl, hc2, hn2, hnear2, hr2, hb2⟩))
        | (go_at_call 43; ((with_reducible refine (refcheck_any wl a2 _ _ _ rfl hmaw (hr2.below (by repeat' (first | (with_reducible exact Below.refl _ _) | (with_reducible assumption) | (with_reducible refine Below.drew ?_) | (with_reducible refine Below.more ?_ _) | (with_reducible refine Below.put ?_ ?_ _) | (with_reducible refine Below.next ?_ (by with_reducible assumption)) | (with_reducible exact Nat.le_refl _) | (with_reducible refine Below.size' ?_) | omega)))).mono ?_); rw [H2.out]; rintro e w4 ⟨rfl, hb4⟩)))
      go_returns
      exact ⟨a2, c2, by rw [HO.out]; rfl, by rw [HO.out]; exact hc2, hn2, (hnear2.mono (by (with_reducible refine Below.size' ?_); repeat' (first | (with_reducible exact Below.refl _ _) | (with_reducible assumption) | (with_reducible refine Below.drew ?_) | (with_reducible refine Below.more ?_ _) | (with_reducible refine Below.put ?_ ?_ _) | (with_reducible refine Below.next ?_ (by with_reducible assumption)) | (with_reducible exact Nat.le_refl _) | omega))).trans' _, by rw [HO.out]; exact hr2.below (by repeat' (first | (with_reducible exact Below.refl _ _) | (with_reducible assumption) | (with_reducible refine Below.drew ?_) | (with_reducible refine Below.more ?_ _) | (with_reducible refine Below.put ?_ ?_ _) | (with_reducible refine Below.next ?_ (by with_reducible assumption)) | (with_reducible exact Nat.le_refl _) | (with_reducible refine Below.size' ?_) | omega)), (by repeat' (first | (with_reducible exact Below.refl _ _) | (with_reducible assumption) | (with_reducible refine Below.drew ?_) | (with_reducible refine Below.more ?_ _) | (with_reducible refine Below.put ?_ ?_ _) | (with_reducible refine Below.next ?_ (by with_reducible assumption)) | (with_reducible exact Nat.le_refl _) | (with_reducible refine Below.size' ?_) | omega))⟩
end Go.Proofs.Ytoofmofaimdhpaa

namespace Go.Proofs.Ytoofmofaimdhpaa
open Go.ChangeShapes Go.WideShapes Go.ChangeAt Go.RowKit
set_option maxRecDepth 100000

/-- What is out of a tenant, by the row of outs. -/
def outOf (outs : List Int) (id : Int) : Int := outs.getD (id - 1).toNat 0
def goneP (outs : List Int) (x : Tenant) : Bool := x.gone && decide (outOf outs x.id ≤ 0)
def sweepS (ts : List Tenant) (outs : List Int) : List Tenant := if tensOk 0 ts = true then ts.filter (fun x => !goneP outs x) else ts
theorem outOf_far {outs : List Int} {id : Int} (h : (outs.length : Int) < id) : outOf outs id = 0 := by
  unfold outOf; rw [List.getD_eq_getElem?_getD, List.getElem?_eq_none (by omega)]; rfl
theorem outOf_at {outs : List Int} {id : Int} (h1 : 1 ≤ id) (h : id ≤ (outs.length : Int)) : ∃ k : Nat, k < outs.length ∧ id - 1 = k ∧ outs[k]? = some (outOf outs id) := by
  refine ⟨(id - 1).toNat, by omega, by omega, ?_⟩
  unfold outOf
  rw [List.getD_eq_getElem?_getD, List.getElem?_eq_getElem (by omega)]; rfl
theorem sweepS_length (ts : List Tenant) (outs : List Int) : (sweepS ts outs).length ≤ ts.length := by
  unfold sweepS; split
  · exact List.length_filter_le _ _
  · exact Nat.le_refl _

set_option maxHeartbeats 1000000 in
theorem sweep1_any (x : Tenant) (outs : List Int) (bl : Nat) (a : Option Addr) (n c : Nat) (w : World) (hn : outs.length = n) (hl : n ≤ 1000) (h1 : 1 ≤ x.id) (hc : w.cell? ⟨bl, 0, none⟩ = some (.slice a n c)) (hr : Row w a (outs.map (Value.int .i64))) :
    Calls Try.prog 94 #[x.agg, .pointer (some ⟨bl, 0, none⟩)] w fun e w' => e = .returned (.bool (goneP outs x)) ∧ Below w.heap.size w w' := by
  subst hn
  obtain ⟨id, rate, burst, bucket, gone⟩ := x
  simp only at h1
  have hlt := World.block_lt_of_cell? w _ hc
  simp only at hlt
  cases gone
  · go_enter Try.func94, Try.ntmps94
    go_wp2
    go_returns
    exact ⟨ret_bool (by simp [goneP]), by go_grown⟩
  · by_cases hfar : (outs.length : Int) < id
    · have HF := Lib.hid (outOf_far hfar)
      go_enter Try.func94, Try.ntmps94
      go_wp2
      go_returns
      exact ⟨ret_bool (by unfold goneP; simp only; rw [HF.out]; rfl), by go_grown⟩
    · obtain ⟨k, hk, hk2, hk3⟩ := outOf_at (outs := outs) h1 (by omega)
      obtain ⟨b, o, rfl, hcell⟩ := Row.getBelow hr (k := k) (by rw [List.getElem?_map, hk3]; rfl)
      have hcl := hcell _ ((Below.refl w.heap.size w).alloc (Nat.le_refl _) (.cells #[.int .i64 id, .int .i64 rate, .int .i64 burst, .int .i64 bucket, .bool true] 55))
      obtain rfl : id = k + 1 := by omega
      generalize hov : outOf outs (k + 1) = ov at hcl
      have HOV := Lib.hid hov
      clear hcell hk3 hov hk2 h1
      go_enter Try.func94, Try.ntmps94
      go_wp2
      go_returns
      exact ⟨ret_bool (by unfold goneP; simp only; rw [HOV.out]; simp), by go_grown⟩
theorem enter_sweep1 (args : Array Value) (w : World) : (callFunc 94 args).run Try.prog w = .ok (.enter 94 args) w := by kernel_rfl

set_option maxHeartbeats 1000000 in
theorem sweep_any (ts : List Tenant) (outs : List Int) (a b : Option Addr) (n c m d : Nat) (w : World) (hn : ts.length = n) (hm : outs.length = m) (hl : ts.length ≤ 900) (hlo : m ≤ 1000) (hc : a = none → c = 0) (hnc : n ≤ c) (hr : TRow w a ts) (hro : Row w b (outs.map (Value.int .i64))) :
    Calls Try.prog 62 #[.slice a n c, .slice b m d] w (RetT w a (sweepS ts outs)) := by
  subst hn
  have hmax : ts.length ≤ maxLen := le_maxLen (by omega)
  have HS : Hid (sweepS ts outs = if tensOk 0 ts = true then ts.filter (fun x => !goneP outs x) else ts) := rfl
  generalize sweepS ts outs = res at HS ⊢
  have hbx : (w.alloc (.cells #[.slice b m d] 45)).cell? ⟨w.heap.size, 0, none⟩ = some (.slice b m d) := World.cell?_alloc_at _ _ _ 0 rfl
  cases h1 : tensOk 0 ts with
  | false =>
    have H1 := Lib.hid h1
    have HO : Hid (res = ts) := by rw [HS.out, if_neg (by rw [h1]; simp)]; exact rfl
    clear h1 HS hbx
    go_enter Try.func62, Try.ntmps62
    go_wp2_with (first
      | (go_at_call 46; ((with_reducible refine (check_any ts a _ _ _ rfl hmax (hr.below (by repeat' (first | (with_reducible exact Below.refl _ _) | (with_reducible assumption) | (with_reducible refine Below.drew ?_) | (with_reducible refine Below.more ?_ _) | (with_reducible refine Below.put ?_ ?_ _) | (with_reducible refine Below.next ?_ (by with_reducible assumption)) | (with_reducible exact Nat.le_refl _) | (with_reducible refine Below.size' ?_) | omega)))).mono ?_); rw [H1.out]; rintro e w3 ⟨rfl, hb3⟩)))
    go_returns
    exact ⟨a, c, by rw [HO.out]; rfl, by rw [HO.out]; exact hnc, hc, Near.self _ _, by rw [HO.out]; exact hr.below (by repeat' (first | (with_reducible exact Below.refl _ _) | (with_reducible assumption) | (with_reducible refine Below.drew ?_) | (with_reducible refine Below.more ?_ _) | (with_reducible refine Below.put ?_ ?_ _) | (with_reducible refine Below.next ?_ (by with_reducible assumption)) | (with_reducible exact Nat.le_refl _) | (with_reducible refine Below.size' ?_) | omega)), (by repeat' (first | (with_reducible exact Below.refl _ _) | (with_reducible assumption) | (with_reducible refine Below.drew ?_) | (with_reducible refine Below.more ?_ _) | (with_reducible refine Below.put ?_ ?_ _) | (with_reducible refine Below.next ?_ (by with_reducible assumption)) | (with_reducible exact Nat.le_refl _) | (with_reducible refine Below.size' ?_) | omega))⟩
  | true =>
    have H1 := Lib.hid h1
    have HID : Hid (∀ x ∈ ts, 1 ≤ x.id) := fun x hx => by have := tensOk_all h1 x hx; omega
    have HO : Hid (res = ts.filter (fun x => !goneP outs x)) := by rw [HS.out, if_pos h1]; exact rfl
    have HBX := Lib.hid hbx
    clear h1 HS hbx
    have hcf := enter_sweep1
    by_cases h0 : ts = []
    · subst h0
      go_enter Try.func62, Try.ntmps62
      go_wp2_with (first
        | (go_at_call 46; ((with_reducible refine (check_any [] a 0 _ _ rfl (Nat.zero_le _) (Row.nil _ _)).mono ?_); rw [H1.out]; rintro e w3 ⟨rfl, hb3⟩))
        | (go_at_call 63; ((with_reducible refine (clone_any [] a 0 _ _ rfl (by simp) hc (Nat.zero_le _) (Row.nil _ _)).mono ?_); rintro e w4 ⟨a4, c4, rfl, hnear4, hcan4, _, hb4⟩))
        | (go_at_call 93; ((with_reducible refine (deleteFuncNilTen a4 c4 _ _ _ hcf).mono ?_); rintro e w5 ⟨rfl, hb5⟩)))
      go_returns
      exact ⟨a4, c4, by rw [HO.out]; rfl, by rw [HO.out]; exact hcan4.le, hcan4.none (by decide), (hnear4.mono (by (with_reducible refine Below.size' ?_); repeat' (first | (with_reducible exact Below.refl _ _) | (with_reducible assumption) | (with_reducible refine Below.drew ?_) | (with_reducible refine Below.more ?_ _) | (with_reducible refine Below.put ?_ ?_ _) | (with_reducible refine Below.next ?_ (by with_reducible assumption)) | (with_reducible exact Nat.le_refl _) | omega))).trans' _, by rw [HO.out]; exact .inl rfl, (by repeat' (first | (with_reducible exact Below.refl _ _) | (with_reducible assumption) | (with_reducible refine Below.drew ?_) | (with_reducible refine Below.more ?_ _) | (with_reducible refine Below.put ?_ ?_ _) | (with_reducible refine Below.next ?_ (by with_reducible assumption)) | (with_reducible exact Nat.le_refl _) | (with_reducible refine Below.size' ?_) | omega))⟩
    · go_enter Try.func62, Try.ntmps62
      go_wp2_with (first
        | (go_at_call 46; ((with_reducible refine (check_any ts a _ _ _ rfl hmax (hr.below (by repeat' (first | (with_reducible exact Below.refl _ _) | (with_reducible assumption) | (with_reducible refine Below.drew ?_) | (with_reducible refine Below.more ?_ _) | (with_reducible refine Below.put ?_ ?_ _) | (with_reducible refine Below.next ?_ (by with_reducible assumption)) | (with_reducible exact Nat.le_refl _) | (with_reducible refine Below.size' ?_) | omega)))).mono ?_); rw [H1.out]; rintro e w3 ⟨rfl, hb3⟩))
        | (go_at_call 63; ((with_reducible refine (clone_any ts a _ _ _ rfl (by omega) hc hnc (hr.below (by repeat' (first | (with_reducible exact Below.refl _ _) | (with_reducible assumption) | (with_reducible refine Below.drew ?_) | (with_reducible refine Below.more ?_ _) | (with_reducible refine Below.put ?_ ?_ _) | (with_reducible refine Below.next ?_ (by with_reducible assumption)) | (with_reducible exact Nat.le_refl _) | (with_reducible refine Below.size' ?_) | omega)))).mono ?_); rintro e w4 ⟨a4, c4, rfl, hnear4, hcan4, hown4, hb4⟩; obtain ⟨g4, rfl, hB4, hcm4⟩ := own_head (hown4 h0) (by cases ts with | nil => exact absurd rfl h0 | cons => simp); have hm4 := Lib.hid (Mine.of_own (L := layTen) (hown4 h0)); have hs3 := hb3.size))
        | (go_at_call 93; ((with_reducible refine (deleteFuncTen ts w3.heap.size g4 _ c4 _ _ (goneP outs) _ rfl hcan4.le hcm4 hm4.out hb4.size hcf (fun x hx w' hb' => sweep1_any x outs _ b _ d w' hm hlo (HID.out x hx) (((hb4.trans hb').cell (p := ⟨w.heap.size, 0, none⟩) (by simp at hs3; show w.heap.size < _; omega)).trans ((hb3.cell (p := ⟨w.heap.size, 0, none⟩) (by simp)).trans HBX.out)) ((Row.below (Row.below (Row.alloc hro _) hb3) (hb4.trans hb')))) ).mono ?_); rintro e w5 ⟨rfl, hr5, hb5⟩; have hb45 := hb4.trans hb5)))
      go_returns
      have hle := List.length_filter_le (fun x => !goneP outs x) ts
      have hle4 := hcan4.le
      exact ⟨some ⟨g4, 0, none⟩, c4, by rw [HO.out]; rfl, by rw [HO.out]; omega, (fun h => by cases h), (fun b' o' s' h' => by simp at h'; left; obtain ⟨rfl, rfl, rfl⟩ := h'; simp at hs3; omega), by rw [HO.out]; exact hr5, (by repeat' (first | (with_reducible exact Below.refl _ _) | (with_reducible assumption) | (with_reducible refine Below.drew ?_) | (with_reducible refine Below.more ?_ _) | (with_reducible refine Below.put ?_ ?_ _) | (with_reducible refine Below.next ?_ (by with_reducible assumption)) | (with_reducible exact Nat.le_refl _) | (with_reducible refine Below.size' ?_) | omega))⟩
end Go.Proofs.Ytoofmofaimdhpaa

/- Leases and what is out of tenants, as plain functions: no program in sight. -/
namespace Go.Proofs.Ytoofmofaimdhpaa

structure St where
  term : Int
  stamp : Int
  next : Int
  tens : List Tenant
  leas : List Lease
  sess : List Session
  dsks : List Desk
  deriving DecidableEq

/-- What is out of a tenant. -/
def outL : List Lease → Int → Int
  | [], _ => 0
  | x :: l, id => (if x.tenant = id then x.size - x.spent else 0) + outL l id
theorem outL_append (l m : List Lease) (id : Int) : outL (l ++ m) id = outL l id + outL m id := by
  induction l with
  | nil => simp [outL]
  | cons x l ih => rw [List.cons_append, outL, outL, ih]; omega
theorem outL_take {l : List Lease} {k : Nat} (h : k < l.length) (id : Int) : outL (l.take (k + 1)) id = outL (l.take k) id + (if l[k].tenant = id then l[k].size - l[k].spent else 0) := by
  rw [List.take_succ_eq_append_getElem h, outL_append]; simp [outL]
/-- No lease's rest is negative, none is great. -/
def Fits (l : List Lease) : Prop := ∀ x ∈ l, 1 ≤ x.tenant ∧ x.tenant ≤ 16 ∧ 1 ≤ x.size ∧ x.size ≤ 1000000 ∧ 0 ≤ x.spent ∧ x.spent ≤ x.size
theorem Fits.sub {l m : List Lease} (h : Fits l) (hs : ∀ x ∈ m, x ∈ l) : Fits m := fun x hx => h x (hs x hx)
theorem outL_range : ∀ {l : List Lease} (id : Int), Fits l → 0 ≤ outL l id ∧ outL l id ≤ 1000000 * l.length
  | [], _, _ => by simp [outL]
  | x :: l, id, h => by
    have h1 := h x (List.mem_cons_self ..)
    have h2 := outL_range id (fun y hy => h y (List.mem_cons_of_mem _ hy) : Fits l)
    rw [outL, List.length_cons]
    split <;> omega
theorem outL_mem : ∀ {l : List Lease} {x : Lease}, Fits l → x ∈ l → x.size - x.spent ≤ outL l x.tenant
  | y :: l, x, h, hx => by
    have hl : Fits l := fun y hy => h y (List.mem_cons_of_mem _ hy)
    have h2 := outL_range x.tenant hl
    rw [outL]
    rcases List.mem_cons.1 hx with rfl | hx
    · simp; omega
    · have h3 := outL_mem hl hx
      have h1 := h y (List.mem_cons_self ..)
      split <;> omega
def leaGood (ts : List Tenant) (next : Int) (x : Lease) : Bool :=
  (findT ts x.tenant).2 && decide (x.id < next ∧ 1 ≤ x.shaper ∧ x.shaper ≤ 8 ∧ 1 ≤ x.epoch ∧ 1 ≤ x.number ∧ 1 ≤ x.size ∧ x.size ≤ 1000000 ∧ 0 ≤ x.spent ∧ x.spent < x.size)
def leasOk (ts : List Tenant) (next : Int) (ls : List Lease) : Bool := chainOk Lease.id (leaGood ts next) 0 ls
def tenRoom (ls : List Lease) (t : Tenant) : Bool := decide (0 < t.bucket → t.bucket + 1000 * outL ls t.id ≤ 1000 * t.burst)
def stOk (s : St) : Bool := tensOk 0 s.tens && (leasOk s.tens s.next s.leas && decide (s.leas.length ≤ 64 ∧ 1 ≤ s.next ∧ s.next ≤ 1099511627776)) && s.tens.all (tenRoom s.leas)
theorem findT_range {ts : List Tenant} {id : Int} (ht : tensOk 0 ts = true) (h : (findT ts id).2 = true) : 1 ≤ id ∧ id ≤ 16 := by
  rw [findT_eq id ht] at h
  cases hf : findO ts id with
  | none => rw [hf] at h; cases h
  | some x =>
    obtain ⟨h1, h2⟩ := findO_mem hf
    have h3 := (tensOk_iff.1 ht).1 x h1
    have h4 := h3.2
    unfold okT at h4
    simp only [Bool.and_eq_true, decide_eq_true_eq] at h4
    omega
theorem leasOk_fits {ts : List Tenant} {next : Int} {ls : List Lease} (ht : tensOk 0 ts = true) (h : leasOk ts next ls = true) : Fits ls := fun x hx => by
  have := ((chainOk_iff.1 h).1 x hx).2
  unfold leaGood at this
  simp only [Bool.and_eq_true, decide_eq_true_eq] at this
  have h2 := findT_range ht this.1
  omega
def outsL (ls : List Lease) : List Int := (List.range 16).map fun i : Nat => outL ls ((i : Int) + 1)
theorem outsL_length (ls : List Lease) : (outsL ls).length = 16 := by simp [outsL]
def sweptS (s : St) : St := { s with tens := sweepS s.tens (outsL s.leas) }
def creditI (b rate burst out ticks : Int) : Int := cutI (broughtI b 0 2305843009213693952 + broughtI rate 0 1000000 * broughtI ticks 0 1099511627776) burst out
def backI (b burst out size : Int) : Int := cutI (broughtI b 0 2305843009213693952 + 1000 * broughtI size 0 1000000) burst out
def takeI (b size : Int) : Int × Int := if size < 0 ∨ max b 0 / 1000 < size then (0, 170) else (b - 1000 * size, 0)
def findLea (s : St) (id : Int) : Option Lease := findK Lease.id s.leas id
def zeroLea : Lease := ⟨0, 0, 0, 0, 0, 0, 0⟩
def findSt (s : St) (id : Int) : Lease × Bool := if stOk s = true then (match findLea s id with | some x => (x, true) | none => (zeroLea, false)) else (zeroLea, false)
def credT (ls : List Lease) (ticks : Int) (t : Tenant) : Tenant := if t.gone = true then t else { t with bucket := creditI t.bucket t.rate t.burst (outL ls t.id) ticks }
def creditS (s : St) (ticks : Int) : St := if stOk s = true then sweptS { s with tens := s.tens.map (credT s.leas ticks) } else s
def argsBad (sh ep nu sz : Int) : Prop := sh < 1 ∨ 8 < sh ∨ ep < 1 ∨ nu < 1 ∨ sz < 1 ∨ 1000000 < sz
instance (sh ep nu sz : Int) : Decidable (argsBad sh ep nu sz) := by unfold argsBad; infer_instance
def grantS (s : St) (sh ep nu te sz : Int) : St × Ans :=
  if stOk s = false then (s, Ans.err 2)
  else if argsBad sh ep nu sz then (sweptS s, Ans.err 2)
  else if (findT s.tens te).2 = false ∨ (findT s.tens te).1.gone = true then (sweptS s, Ans.err 161)
  else if 64 ≤ s.leas.length ∨ 1099511627776 ≤ s.next then (sweptS s, Ans.err 100)
  else if (takeI (findT s.tens te).1.bucket sz).2 ≠ 0 then (sweptS s, Ans.err (takeI (findT s.tens te).1.bucket sz).2)
  else (sweptS { s with tens := (setS s.tens { (findT s.tens te).1 with bucket := (takeI (findT s.tens te).1.bucket sz).1 }).1, leas := s.leas ++ [⟨s.next, te, sh, ep, nu, sz, 0⟩], next := s.next + 1 },
    ⟨0, (findT s.tens te).1.rate, (findT s.tens te).1.burst, s.next, sz⟩)
def leaIs (sh ep le : Int) (x : Lease) : Bool := decide (x.id = le ∧ x.shaper = sh ∧ x.epoch = ep)
def dropL (le : Int) (ls : List Lease) : List Lease := ls.filter fun y => !decide (y.id = le)
def spendL (le sp : Int) (ls : List Lease) : List Lease := ls.map fun y => if y.id = le then { y with spent := sp } else y
def backT (s : St) (x : Lease) (sp : Int) : Tenant := { (findT s.tens x.tenant).1 with bucket := backI (findT s.tens x.tenant).1.bucket (findT s.tens x.tenant).1.burst (outL (dropL x.id s.leas) x.tenant) (x.size - sp) }
def reportS (s : St) (sh ep le sp : Int) (cl : Bool) : St × Int :=
  if stOk s = false then (s, 2)
  else match s.leas.find? (leaIs sh ep le) with
    | none => (sweptS s, 180)
    | some x =>
      if sp < x.spent ∨ x.size < sp then (sweptS s, 2)
      else if cl = false ∧ sp < x.size then (sweptS { s with leas := spendL le sp s.leas }, 0)
      else (sweptS { s with leas := dropL le s.leas, tens := if cl = true ∧ (findT s.tens x.tenant).1.gone = false then (setS s.tens (backT s x sp)).1 else s.tens }, 0)
def expireS (s : St) (l : List Int) : St := if stOk s = true then sweptS { s with leas := s.leas.filter fun x => !l.contains x.id } else s
end Go.Proofs.Ytoofmofaimdhpaa

/- A state in memory: its seven cells, its four rows. -/
namespace Go.Proofs.Ytoofmofaimdhpaa
open Go.ChangeShapes Go.WideShapes Go.ChangeAt Go.RowKit
set_option maxRecDepth 100000

structure Sli where
  a : Option Addr
  n : Nat
  c : Nat
structure Raw where
  term : Int
  stamp : Int
  next : Int
  ten : Sli
  lea : Sli
  ses : Sli
  dsk : Sli
abbrev Raw.cells (r : Raw) : List Value := [.int .i64 r.term, .int .i64 r.stamp, .int .i64 r.next, .slice r.ten.a r.ten.n r.ten.c, .slice r.lea.a r.lea.n r.lea.c, .slice r.ses.a r.ses.n r.ses.c, .slice r.dsk.a r.dsk.n r.dsk.c]
abbrev Raw.agg (r : Raw) : Value := .agg #[.int .i64 r.term, .int .i64 r.stamp, .int .i64 r.next, .slice r.ten.a r.ten.n r.ten.c, .slice r.lea.a r.lea.n r.lea.c, .slice r.ses.a r.ses.n r.ses.c, .slice r.dsk.a r.dsk.n r.dsk.c]
def laySt : Lay Try.prog 27 Raw := Lay.struct Raw.cells 7 120 (fun _ => rfl) (by decide) (by decide) (fun x u hu => by simp at hu; rcases hu with h | h | h | h | h | h | h <;> subst h <;> rfl) (by kernel_rfl) _ Try.underlying27 rfl
theorem cellsSt {w : World} {b o : Nat} {t : Raw} (h : w.rangeAt b o t.cells) : w.cell? ⟨b, o, none⟩ = some (.int .i64 t.term) ∧ w.cell? ⟨b, o + 1, none⟩ = some (.int .i64 t.stamp) ∧ w.cell? ⟨b, o + 2, none⟩ = some (.int .i64 t.next) ∧
    w.cell? ⟨b, o + 3, none⟩ = some (.slice t.ten.a t.ten.n t.ten.c) ∧ w.cell? ⟨b, o + 4, none⟩ = some (.slice t.lea.a t.lea.n t.lea.c) ∧ w.cell? ⟨b, o + 5, none⟩ = some (.slice t.ses.a t.ses.n t.ses.c) ∧ w.cell? ⟨b, o + 6, none⟩ = some (.slice t.dsk.a t.dsk.n t.dsk.c) :=
  ⟨h 0 _ rfl, h 1 _ rfl, h 2 _ rfl, h 3 _ rfl, h 4 _ rfl, h 5 _ rfl, h 6 _ rfl⟩
theorem cellsSt0 {w : World} {b : Nat} {t : Raw} (h : w.rangeAt b 0 t.cells) : w.cell? ⟨b, 0, none⟩ = some (.int .i64 t.term) ∧ w.cell? ⟨b, 1, none⟩ = some (.int .i64 t.stamp) ∧ w.cell? ⟨b, 2, none⟩ = some (.int .i64 t.next) ∧
    w.cell? ⟨b, 3, none⟩ = some (.slice t.ten.a t.ten.n t.ten.c) ∧ w.cell? ⟨b, 4, none⟩ = some (.slice t.lea.a t.lea.n t.lea.c) ∧ w.cell? ⟨b, 5, none⟩ = some (.slice t.ses.a t.ses.n t.ses.c) ∧ w.cell? ⟨b, 6, none⟩ = some (.slice t.dsk.a t.dsk.n t.dsk.c) := by
  have := cellsSt h
  simp only [Nat.zero_add] at this
  exact this

/-- A slice whose row reads as the list; its block lies from B on. -/
structure SliAt {P : Program} {e : TypeId} {α : Type} (L : Lay P e α) (w : World) (B : Nat) (s : Sli) (xs : List α) : Prop where
  len : xs.length = s.n
  le : s.n ≤ s.c
  nil : s.a = none → s.c = 0
  near : Near B none s.a
  row : LRow L w s.a xs
structure StAt (w : World) (B : Nat) (r : Raw) (s : St) : Prop where
  term : r.term = s.term
  stamp : r.stamp = s.stamp
  next : r.next = s.next
  ten : SliAt layTen w B r.ten s.tens
  lea : SliAt layLea w B r.lea s.leas
  ses : SliAt laySes w B r.ses s.sess
  dsk : SliAt layDsk w B r.dsk s.dsks
section
variable {P : Program} {e : TypeId} {α : Type} {L : Lay P e α}
theorem SliAt.below {w w' : World} {B : Nat} {s : Sli} {xs : List α} (h : SliAt L w B s xs) (hb : Below w.heap.size w w') : SliAt L w' B s xs := ⟨h.len, h.le, h.nil, h.near, h.row.below hb⟩
theorem SliAt.mono {w : World} {B B' : Nat} {s : Sli} {xs : List α} (h : SliAt L w B s xs) (hB : B' ≤ B) : SliAt L w B' s xs := ⟨h.len, h.le, h.nil, h.near.mono hB, h.row⟩
theorem LRow.keep {w w' : World} {a : Option Addr} {xs : List α} {g : Nat} (h : LRow L w a xs) (hk : ∀ k, k < w.heap.size → k ≠ g → w'.heap[k]? = w.heap[k]?) (hn : ∀ b o s, a = some ⟨b, o, s⟩ → b ≠ g) : LRow L w' a xs := by
  by_cases h0 : xs.flatMap L.cells = []
  · exact .inl h0
  · rcases h with h | ⟨b, o, rfl, hc⟩
    · exact absurd h h0
    · have hlt := Row.lt (.inr ⟨b, o, rfl, hc⟩) h0
      exact .inr ⟨b, o, rfl, fun i hi => by rw [World.cell?_of_block (w := w) (hk b hlt (hn b o _ rfl))]; exact hc i hi⟩
/-- What lies in other blocks stays where one block alone has turned. -/
theorem SliAt.keep {w w' : World} {B : Nat} {s : Sli} {xs : List α} {g : Nat} (h : SliAt L w B s xs) (hk : ∀ k, k < w.heap.size → k ≠ g → w'.heap[k]? = w.heap[k]?) (hg : g < B) : SliAt L w' B s xs :=
  ⟨h.len, h.le, h.nil, h.near, h.row.keep hk (fun b o s hs => by rcases h.near b o s hs with h1 | ⟨_, _, h1⟩; omega; cases h1)⟩
end
theorem StAt.below {w w' : World} {B : Nat} {r : Raw} {s : St} (h : StAt w B r s) (hb : Below w.heap.size w w') : StAt w' B r s := ⟨h.term, h.stamp, h.next, h.ten.below hb, h.lea.below hb, h.ses.below hb, h.dsk.below hb⟩
theorem StAt.mono {w : World} {B B' : Nat} {r : Raw} {s : St} (h : StAt w B r s) (hB : B' ≤ B) : StAt w B' r s := ⟨h.term, h.stamp, h.next, h.ten.mono hB, h.lea.mono hB, h.ses.mono hB, h.dsk.mono hB⟩
theorem StAt.keep {w w' : World} {B : Nat} {r : Raw} {s : St} {g : Nat} (h : StAt w B r s) (hk : ∀ k, k < w.heap.size → k ≠ g → w'.heap[k]? = w.heap[k]?) (hg : g < B) : StAt w' B r s :=
  ⟨h.term, h.stamp, h.next, h.ten.keep hk hg, h.lea.keep hk hg, h.ses.keep hk hg, h.dsk.keep hk hg⟩
theorem StAt.trow {w : World} {B : Nat} {r : Raw} {s : St} (h : StAt w B r s) : TRow w r.ten.a s.tens := h.ten.row
theorem setCells_keep (g : Nat) : ∀ (vs : List Value) (o : Nat) (w : World) (k : Nat), k ≠ g → (w.setCells g o vs).heap[k]? = w.heap[k]?
  | [], _, _, _, _ => rfl
  | v :: vs, o, w, k, h => by
    rw [World.setCells, setCells_keep g vs (o + 1) _ k h]
    exact Below.heap_setCell _ _ _ _ (fun e => h e)
theorem wf_sm {n : Int} (h1 : -1000000000000 ≤ n) (h2 : n ≤ 1000000000000) : (Lit.int .i64 n).wf = true := Go.WalkArith.wf_i64 ⟨by omega, by omega⟩
theorem mid_alloc' {w w' : World} {o : Obj} (hb : Below (w.alloc o).heap.size (w.alloc o) w') : Below w.heap.size w w' := ((Below.refl w.heap.size w).alloc (Nat.le_refl _) o).trans (hb.mono (by simp))
/-- An operation whose guard lets it be done. -/
theorem wpList_strip {P : Program} {ops : Array Oper} {Q : Exit → Act → World → Prop} {a : Act} {w : World} {rest : List Oper} {o : Oper}
    (hw : Region.wanted o (yielded ops a.tmps) = true) (h : wpList P ops Q ({ o with guard := none } :: rest) a w) : wpList P ops Q (o :: rest) a w := by
  unfold wpList at h ⊢
  rw [if_pos hw]
  rw [if_pos (by rfl)] at h
  exact h
/-- A state handed back. -/
def RetSt (w : World) (B : Nat) (s : St) (e : Ending) (w' : World) : Prop := ∃ r, e = .returned (Raw.agg r) ∧ StAt w' B r s ∧ Below w.heap.size w w'
end Go.Proofs.Ytoofmofaimdhpaa

namespace Go.Proofs.Ytoofmofaimdhpaa
open Go.ChangeShapes Go.WideShapes Go.ChangeAt Go.RowKit Go.Maps
set_option maxRecDepth 100000

def keyI : KeyKind Try.prog 3 Int where
  keyed := Maps.int_keyed Try.underlying3
  enc n := .int .i64 n
  kl n := .int .i64 n
  good n := (Lit.int .i64 n).wf = true
  key _ h := keyOf_int_mk Try.underlying3 h
  inj _ _ h := by simpa using h
theorem zero_i (w : World) : (zeroValue 3).run Try.prog w = .ok (.int .i64 0) w := by rfl
/-- The map tells what is out of each tenant. -/
structure OutMap (w : World) (B b n : Nat) (f : Int → Option Int) (ls : List Lease) : Prop where
  map : MapI keyI 3 w b n f
  out : ∀ id, (f id).getD 0 = outL ls id
  base : B ≤ b
  small : n ≤ 1000
theorem OutMap.below {w w' : World} {B b n : Nat} {f : Int → Option Int} {ls : List Lease} (h : OutMap w B b n f ls) (hb : Below w.heap.size w w') : OutMap w' B b n f ls := ⟨h.map.below hb h.map.lt, h.out, h.base, h.small⟩
def RetOuts (w : World) (ls : List Lease) (e : Ending) (w' : World) : Prop := ∃ b n f, e = .returned (.map (some b)) ∧ OutMap w' w.heap.size b n f ls ∧ Below w.heap.size w w'

set_option maxHeartbeats 4000000 in
theorem outs_any (ls : List Lease) (r : Raw) (w : World) (hl : ls.length = r.lea.n) (h64 : ls.length ≤ 1000) (hf : Fits ls) (hr : LRow layLea w r.lea.a ls) :
    Calls Try.prog 45 #[r.agg] w (RetOuts w ls) := by
  obtain ⟨term, stamp, next, ⟨a1, n1, c1⟩, ⟨a, n, c⟩, ⟨a3, n3, c3⟩, ⟨a4, n4, c4⟩⟩ := r
  simp only at hl hr
  subst hl
  have hmax : ls.length < maxLen := by unfold maxLen; omega
  have hmm := @run_makeMap Try.prog
  have HF := Lib.hid hf
  have HRG := Lib.hid (fun id (k : Nat) (hk : k ≤ ls.length) => outL_range id (hf.sub (m := ls.take k) (fun x hx => List.mem_of_mem_take hx)))
  clear hf
  go_enter Try.func45, Try.ntmps45
  go_wp2
  go_loopw [10] (fun i wr => ∃ k : Nat, ∃ f, k ≤ ls.length ∧ i = .int .i64 k ∧ Hid (∀ id, (f id).getD 0 = outL (ls.take k) id) ∧ Hid (MapI keyI 3 wr (w.heap.size + 1) k f) ∧ Below w.heap.size w wr) (fun i _ => ls.length - (intOf i).toNat)
  case atStart => exact ⟨0, fun _ => none, by omega, rfl, fun _ => rfl, by
    have h := MapI.made (K := keyI) (e := 3) (w.alloc (.cells #[.int .i64 term, .int .i64 stamp, .int .i64 next, .slice a1 n1 c1, .slice a ls.length c, .slice a3 n3 c3, .slice a4 n4 c4] 27))
    rw [World.size_alloc] at h
    exact h, (by repeat' (first | (with_reducible exact Below.refl _ _) | (with_reducible assumption) | (with_reducible refine Below.drew ?_) | (with_reducible refine Below.more ?_ _) | (with_reducible refine Below.put ?_ ?_ _) | (with_reducible refine Below.next ?_ (by with_reducible assumption)) | (with_reducible exact Nat.le_refl _) | (with_reducible refine Below.size' ?_) | omega))⟩
  case round =>
    obtain ⟨k, f, hk, rfl, hp, hm, hb⟩ := hrel
    by_cases hlt : k < ls.length
    · obtain ⟨b, o, rfl, hcs⟩ := atLea hr hlt
      have hx := hcs _ hb
      have HT := Lib.hid (fun id => outL_take hlt id)
      have HX := Lib.hid (HF.out ls[k] (List.getElem_mem hlt))
      have HW := Lib.hid (show (Lit.int .i64 ls[k].tenant).wf = true from wf_sm (by have := HX.out; omega) (by have := HX.out; omega))
      have HR1 := Lib.hid (HRG.out ls[k].tenant k hk)
      have hlen : (ls.take k).length = k := by simp; omega
      rw [hlen] at HR1
      generalize ls[k] = x at hx HT HW HX HR1
      have hmb := hm.out.lt
      clear hcs
      have hv : ∃ z : Int, outL (ls.take k) x.tenant = z := ⟨_, rfl⟩
      obtain ⟨z, hz⟩ := hv
      have HZ := Lib.hid hz
      have hz1 : 0 ≤ z := by rw [← hz]; exact HR1.out.1
      have hz2 : z ≤ 1000000000 := by have := HR1.out.2; omega
      obtain ⟨_, _, hs1, hs2, hs3, hs4⟩ := HX.out
      have HFZ : Hid ((f x.tenant).getD 0 = z) := by show _ = _; rw [hp.out]; exact hz
      clear hz
      go_wp2_with (first
        | (refine wpList_getI keyI Try.underlying77 Try.underlying3 zero_i rfl (.tmp 14) (.tmp 16) rfl (w.heap.size + 1) k f rfl (hm.out.alloc _) x.tenant HW.out rfl ?_; rw [HFZ.out])
        | (refine wpList_putI keyI Try.underlying77 Try.underlying3 rfl (.tmp 14) (.tmp 16) (.tmp 23) rfl (w.heap.size + 1) k f rfl (hm.out.alloc _) (by omega) x.tenant HW.out rfl (z + (x.size - x.spent)) (by go_num) (wf_sm (by omega) (by omega)) ?_; intro w3 hm3 hg3))
      refine ⟨⟨k + 1, _, by omega, by go_num, fun id => ?_, hm3, (hb.alloc hb.size _).grown hg3 (by have := hb.size; simp; omega) (fun _ h => by cases h; exact Nat.le_succ _)⟩, by simp [intOf]; omega⟩
      rw [HT.out]
      unfold upd
      by_cases e : id = x.tenant
      · subst e; rw [if_pos rfl, if_pos rfl, HZ.out]; rfl
      · rw [if_neg e, if_neg (fun h => e h.symm), hp.out]; omega
    · obtain rfl : k = ls.length := by omega
      have HT : Hid (∀ id, (f id).getD 0 = outL ls id) := fun id => by rw [hp.out, List.take_length]
      go_wp2
      go_returns
      exact ⟨w.heap.size + 1, ls.length, f, rfl, ⟨hm.out, HT.out, Nat.le_succ _, h64⟩, hb⟩
end Go.Proofs.Ytoofmofaimdhpaa

/- Rows that are the call's own, carried over whatever turns other blocks alone. -/
namespace Go.Proofs.Ytoofmofaimdhpaa
open Go.ChangeShapes Go.WideShapes Go.ChangeAt Go.RowKit
set_option maxRecDepth 100000

/-- The blocks from B on, below E, stand as they stood. -/
structure Mid (B E : Nat) (w w' : World) : Prop where
  size : w.heap.size ≤ w'.heap.size
  keep : ∀ k, B ≤ k → k < E → w'.heap[k]? = w.heap[k]?
theorem Mid.refl (B E : Nat) (w : World) : Mid B E w w := ⟨Nat.le_refl _, fun _ _ _ => rfl⟩
theorem Mid.trans {B E : Nat} {w w' w'' : World} (h : Mid B E w w') (h2 : Mid B E w' w'') : Mid B E w w'' := ⟨Nat.le_trans h.size h2.size, fun k h1 h3 => (h2.keep k h1 h3).trans (h.keep k h1 h3)⟩
theorem Mid.below {B E E' : Nat} {w w' : World} (h : Below E' w w') (hE : E ≤ E') : Mid B E w w' := ⟨h.size, fun k _ h1 => h.block k (by omega)⟩
theorem Mid.next {B E E' : Nat} {w w' w'' : World} (h : Mid B E w w') (h2 : Below E' w' w'') (hE : E ≤ E') : Mid B E w w'' := h.trans (.below h2 hE)
theorem Mid.setCell {B E : Nat} {w w' : World} (h : Mid B E w w') (p : Addr) (v : Value) (hp : p.block < B ∨ E ≤ p.block) : Mid B E w (w'.setCell p v) :=
  h.trans ⟨by simp, fun k h1 h2 => Below.heap_setCell _ _ _ _ (by omega)⟩
theorem Mid.other {B E : Nat} {w w' w'' : World} {g : Nat} (h : Mid B E w w') (hk : ∀ k, k ≠ g → w''.heap[k]? = w'.heap[k]?) (hs : w''.heap.size = w'.heap.size) (hg : g < B ∨ E ≤ g) : Mid B E w w'' :=
  h.trans ⟨by omega, fun k h1 h2 => hk k (by omega)⟩
theorem Mid.drew {B E : Nat} {w w' : World} (h : Mid B E w w') : Mid B E w w'.drew := ⟨h.size, h.keep⟩
theorem Mid.alloc {B E : Nat} {w w' : World} (h : Mid B E w w') (hE : E ≤ w'.heap.size) (o : Obj) : Mid B E w (w'.alloc o) := h.trans (.below ((Below.refl _ _).alloc (Nat.le_refl _) o) hE)
theorem Mid.up {B B' E : Nat} {w w' : World} (h : Mid B E w w') (hB : B ≤ B') : Mid B' E w w' := ⟨h.size, fun k h1 h2 => h.keep k (by omega) h2⟩

theorem own_mid {w w' : World} {B E B0 : Nat} {e : TypeId} {size : Nat} {v : Value} {n : Nat} {xs : List Value} (h : w.ownsRow B0 e size v n xs) (hm : Mid B E w w') (hB : B ≤ B0) (hE : w.heap.size ≤ E) : w'.ownsRow B0 e size v n xs := by
  obtain ⟨h1, h2⟩ := h
  refine ⟨h1, ?_⟩
  rcases h2 with h2 | ⟨g, cap, cur, h3, h4, h5, h6⟩
  · exact .inl h2
  · refine .inr ⟨g, cap, cur, h3, h4, ?_, h6⟩
    rw [hm.keep g (by omega) (by have := (Array.getElem?_eq_some_iff.1 h5).1; omega)]; exact h5
theorem row_mid {w w' : World} {B E : Nat} {a : Option Addr} {xs : List Value} (h : Row w a xs) (hm : Mid B E w w') (hn : Near B none a) (hE : w.heap.size ≤ E) : Row w' a xs := by
  by_cases h0 : xs = []
  · exact .inl h0
  · rcases h with h | ⟨b, o, rfl, hc⟩
    · exact absurd h h0
    · have hlt := Row.lt (.inr ⟨b, o, rfl, hc⟩) h0
      have hb : B ≤ b := by
        rcases hn b o none rfl with h1 | ⟨_, _, h1⟩
        · exact h1
        · cases h1
      exact .inr ⟨b, o, rfl, fun i hi => by rw [World.cell?_of_block (w := w) (hm.keep b hb (by omega))]; exact hc i hi⟩
theorem can_mid {w w' : World} {B E B0 : Nat} {e : TypeId} {size : Nat} {a : Option Addr} {n c : Nat} {xs : List Value} (h : Can w B0 e size a n c xs) (hm : Mid B E w w') (hn : Near B none a) (hB : B ≤ B0) (hE : w.heap.size ≤ E) : Can w' B0 e size a n c xs :=
  ⟨h.1, h.2.1, h.2.2.imp (fun ⟨h1, h2⟩ => ⟨h1, row_mid h2 hm hn hE⟩) (fun h => own_mid h hm hB hE)⟩

structure OwnSli {P : Program} {e : TypeId} {α : Type} (L : Lay P e α) (w : World) (B : Nat) (s : Sli) (xs : List α) : Prop where
  can : Can w B e L.size s.a s.n s.c (xs.flatMap L.cells)
  own : 0 < xs.length → w.ownsRow B e L.size (.slice s.a s.n s.c) s.n (xs.flatMap L.cells)
section
variable {P : Program} {e : TypeId} {α : Type} {L : Lay P e α} {w w' : World} {B E B0 : Nat} {s : Sli} {xs : List α}
theorem SliAt.mid (h : SliAt L w B0 s xs) (hm : Mid B E w w') (hB : B ≤ B0) (hE : w.heap.size ≤ E) : SliAt L w' B0 s xs := ⟨h.len, h.le, h.nil, h.near, row_mid h.row hm (h.near.mono hB) hE⟩
theorem OwnSli.mid (h : OwnSli L w B0 s xs) (hn : Near B0 none s.a) (hm : Mid B E w w') (hB : B ≤ B0) (hE : w.heap.size ≤ E) : OwnSli L w' B0 s xs := ⟨can_mid h.can hm (hn.mono hB) hB hE, fun h0 => own_mid (h.own h0) hm hB hE⟩
theorem own_base {w : World} {B B' : Nat} {e : TypeId} {size : Nat} {v : Value} {n : Nat} {xs : List Value} (h : w.ownsRow B e size v n xs) (hB : B' ≤ B) : w.ownsRow B' e size v n xs := by
  obtain ⟨h1, h2⟩ := h
  refine ⟨h1, ?_⟩
  rcases h2 with h2 | ⟨g, cap, cur, h3, h4, h5⟩
  · exact .inl h2
  · exact .inr ⟨g, cap, cur, h3, by omega, h5⟩
theorem OwnSli.base (h : OwnSli L w B s xs) (hB : B0 ≤ B) : OwnSli L w B0 s xs := ⟨⟨h.can.1, h.can.2.1, h.can.2.2.imp id (fun h => own_base h hB)⟩, fun h0 => own_base (h.own h0) hB⟩
/-- Out of what Clone hands back. -/
theorem SliAt.of_clone {a : Option Addr} {c : Nat} (hpos : 0 < L.size) (hn : Near B none a) (hc : Can w B e L.size a xs.length c (xs.flatMap L.cells)) : SliAt L w B ⟨a, xs.length, c⟩ xs :=
  ⟨rfl, hc.le, hc.none hpos, hn, hc.row⟩
end
/-- Two rows lie in two blocks. -/
def Ap (a b : Option Addr) : Prop := ∀ x o q x' o' q', a = some ⟨x, o, q⟩ → b = some ⟨x', o', q'⟩ → x ≠ x'
theorem Ap.of {a b : Option Addr} {E E' : Nat} (h : ∀ x o q, a = some ⟨x, o, q⟩ → x < E) (h2 : Near E' none b) (hE : E ≤ E') : Ap a b := fun x o q x' o' q' h1 h3 => by
  have := h x o q h1
  rcases h2 x' o' q' h3 with h4 | ⟨_, _, h4⟩
  · omega
  · cases h4
theorem Ap.symm {a b : Option Addr} (h : Ap a b) : Ap b a := fun x o q x' o' q' h1 h2 e => h x' o' q' x o q h2 h1 e.symm
/-- A state that is the call's own: its tenants and leases may be written, and lie apart. -/
structure OwnSt (w : World) (B : Nat) (r : Raw) (s : St) : Prop where
  is : StAt w B r s
  ten : OwnSli layTen w B r.ten s.tens
  lea : OwnSli layLea w B r.lea s.leas
  tl : Ap r.ten.a r.lea.a
  ts : Ap r.ten.a r.ses.a
  td : Ap r.ten.a r.dsk.a
  ls : Ap r.lea.a r.ses.a
  ld : Ap r.lea.a r.dsk.a
  lt : ∀ x o q, r.lea.a = some ⟨x, o, q⟩ → x < w.heap.size
theorem StAt.mid {w w' : World} {B B0 E : Nat} {r : Raw} {s : St} (h : StAt w B0 r s) (hm : Mid B E w w') (hB : B ≤ B0) (hE : w.heap.size ≤ E) : StAt w' B0 r s :=
  ⟨h.term, h.stamp, h.next, h.ten.mid hm hB hE, h.lea.mid hm hB hE, h.ses.mid hm hB hE, h.dsk.mid hm hB hE⟩
theorem OwnSt.mid {w w' : World} {B B0 E : Nat} {r : Raw} {s : St} (h : OwnSt w B0 r s) (hm : Mid B E w w') (hB : B ≤ B0) (hE : w.heap.size ≤ E) : OwnSt w' B0 r s :=
  ⟨h.is.mid hm hB hE, h.ten.mid h.is.ten.near hm hB hE, h.lea.mid h.is.lea.near hm hB hE, h.tl, h.ts, h.td, h.ls, h.ld, fun x o q e => Nat.lt_of_lt_of_le (h.lt x o q e) hm.size⟩
theorem OwnSt.base {w : World} {B B0 : Nat} {r : Raw} {s : St} (h : OwnSt w B r s) (hB : B0 ≤ B) : OwnSt w B0 r s := ⟨h.is.mono hB, h.ten.base hB, h.lea.base hB, h.tl, h.ts, h.td, h.ls, h.ld, h.lt⟩
def RetCopy (w : World) (s : St) (e : Ending) (w' : World) : Prop := ∃ r, e = .returned (Raw.agg r) ∧ OwnSt w' w.heap.size r s ∧ Below w.heap.size w w'
/-- A thing put into a variable: the world behind it is not looked into; other blocks stand. -/
theorem wpList_store_keep {P : Program} {e : TypeId} {α : Type} {ops : Array Oper} {rest : List Oper} {op : Oper} {a : Act} {w : World} {Q : Exit → Act → World → Prop} (L : Lay P e α) (hgd : op.guard = none) (x y : Operand) (ho : op.op = .store e x y)
    (b o : Nat) (z : α) (hx : a.eval x = .pointer (some ⟨b, o, none⟩)) (hy : a.eval y = L.val z) (ht : w.there b o L.size)
    (h : ∀ w', w'.rangeAt b o (L.cells z) → w'.there b o L.size → (∀ B, B ≤ b → Below B w w') → w'.heap.size = w.heap.size → (∀ k, k ≠ b → w'.heap[k]? = w.heap[k]?) → wpList P ops Q rest (a.put op.dst undef) w') : wpList P ops Q (op :: rest) a w :=
  wpList_store_lay L hgd x y ho b o z hx hy ht (h _ (range_put z ht) (World.there_setCells ht _ _ _) (fun _ hB => Below.setCells hB _ _ (Below.refl _ _)) (setCells_size _ _ _ _) (fun k hk => setCells_keep b _ _ _ k hk))
end Go.Proofs.Ytoofmofaimdhpaa

/- A variable of the call's own: a block whose cells are known. -/
namespace Go.Proofs.Ytoofmofaimdhpaa
open Go.ChangeShapes Go.WideShapes Go.ChangeAt Go.RowKit
set_option maxRecDepth 100000

structure Box (w : World) (g : Nat) (cs : List Value) : Prop where
  range : w.rangeAt g 0 cs
  there : w.there g 0 cs.length
theorem Box.cell {w : World} {g : Nat} {cs : List Value} (h : Box w g cs) {j : Nat} {v : Value} (hj : cs[j]? = some v) : w.cell? ⟨g, j, none⟩ = some v := by
  have := h.range j v hj
  rw [Nat.zero_add] at this; exact this
theorem Box.froz {w : World} {g : Nat} {cs : List Value} (h : Box w g cs) {j : Nat} (hj : j < cs.length) : w.frozen? ⟨g, j, none⟩ = false := by
  have := (h.there j hj).2
  rw [Nat.zero_add] at this; exact this
theorem Box.of_alloc {w w' : World} {cs : List Value} {t : TypeId} (hb : Below (w.alloc (.cells cs.toArray t)).heap.size (w.alloc (.cells cs.toArray t)) w') : Box w' w.heap.size cs :=
  ⟨box_range hb, by have := box_there hb; simpa using this⟩
theorem Box.of_alloc1 {w w' : World} {o : Obj} {cs : List Value} {t : TypeId} (hb : Below ((w.alloc o).alloc (.cells cs.toArray t)).heap.size ((w.alloc o).alloc (.cells cs.toArray t)) w') : Box w' (w.heap.size + 1) cs := by
  have := Box.of_alloc hb
  rw [World.size_alloc] at this; exact this
theorem Box.of_alloc2 {w w' : World} {o o' : Obj} {cs : List Value} {t : TypeId} (hb : Below (((w.alloc o).alloc o').alloc (.cells cs.toArray t)).heap.size (((w.alloc o).alloc o').alloc (.cells cs.toArray t)) w') : Box w' (w.heap.size + 1 + 1) cs := by
  have := Box.of_alloc hb
  rw [World.size_alloc, World.size_alloc] at this; exact this
theorem Box.lt {w : World} {g : Nat} {cs : List Value} (h : Box w g cs) (h0 : 0 < cs.length) : g < w.heap.size := World.block_lt_of_cell? w _ (h.cell (List.getElem?_eq_getElem h0))
theorem Box.block {w w' : World} {g : Nat} {cs : List Value} (h : Box w g cs) (hg : w'.heap[g]? = w.heap[g]?) : Box w' g cs :=
  ⟨fun j v hj => by rw [World.cell?_of_block (w := w) hg]; exact h.range j v hj, fun j hj => by
    have := h.there j hj
    refine ⟨by rw [World.cell?_of_block (w := w) hg]; exact this.1, ?_⟩
    have h2 := this.2
    simp only [World.frozen?] at h2 ⊢
    rw [hg]; exact h2⟩
theorem Box.below {w w' : World} {g : Nat} {cs : List Value} {B : Nat} (h : Box w g cs) (hb : Below B w w') (hg : g < B) : Box w' g cs := h.block (hb.block g hg)
theorem Box.next {w w' : World} {g : Nat} {cs : List Value} (h : Box w g cs) (h0 : 0 < cs.length) (hb : Below w.heap.size w w') : Box w' g cs := h.below hb (h.lt h0)
theorem Box.drew {w : World} {g : Nat} {cs : List Value} (h : Box w g cs) : Box w.drew g cs := h.block rfl
theorem Box.set {w : World} {g i : Nat} {cs : List Value} (h : Box w g cs) (hi : i < cs.length) (v : Value) : Box (w.setCell ⟨g, i, none⟩ v) g (cs.set i v) := by
  have hci := h.cell (List.getElem?_eq_getElem hi)
  refine ⟨fun j u hj => ?_, fun j hj => ?_⟩
  · rw [Nat.zero_add]
    by_cases e : i = j
    · subst e
      rw [List.getElem?_set_self hi] at hj
      rw [← hj]; exact World.cell?_setCell_same _ _ _ hci
    · rw [List.getElem?_set_ne e] at hj
      rw [World.cell?_setCell_other w _ _ v (fun h => e (congrArg Addr.off h))]
      exact h.cell hj
  · rw [List.length_set] at hj
    refine ⟨?_, ?_⟩
    · rw [Nat.zero_add]
      by_cases e : i = j
      · subst e; rw [World.cell?_setCell_same _ _ _ hci]; rfl
      · rw [World.cell?_setCell_other w _ _ v (fun h => e (congrArg Addr.off h)), h.cell (List.getElem?_eq_getElem hj)]; rfl
    · rw [World.frozen?_setCell]; exact (h.there j hj).2
theorem Box.far {w : World} {g : Nat} {cs : List Value} (h : Box w g cs) {p : Addr} (hp : p.block ≠ g) (v : Value) : Box (w.setCell p v) g cs := h.block (Below.heap_setCell _ _ _ _ (fun e => hp e.symm))

abbrev stFacts (w : World) (g : Nat) (r : Raw) : Prop := (w.cell? ⟨g, 0, none⟩ = some (.int .i64 r.term) ∧ w.cell? ⟨g, 1, none⟩ = some (.int .i64 r.stamp) ∧ w.cell? ⟨g, 2, none⟩ = some (.int .i64 r.next) ∧
    w.cell? ⟨g, 3, none⟩ = some (.slice r.ten.a r.ten.n r.ten.c) ∧ w.cell? ⟨g, 4, none⟩ = some (.slice r.lea.a r.lea.n r.lea.c) ∧ w.cell? ⟨g, 5, none⟩ = some (.slice r.ses.a r.ses.n r.ses.c) ∧ w.cell? ⟨g, 6, none⟩ = some (.slice r.dsk.a r.dsk.n r.dsk.c)) ∧
    (w.frozen? ⟨g, 0, none⟩ = false ∧ w.frozen? ⟨g, 1, none⟩ = false ∧ w.frozen? ⟨g, 2, none⟩ = false ∧ w.frozen? ⟨g, 3, none⟩ = false ∧ w.frozen? ⟨g, 4, none⟩ = false ∧ w.frozen? ⟨g, 5, none⟩ = false ∧ w.frozen? ⟨g, 6, none⟩ = false) ∧ g < w.heap.size
theorem Box.st {w : World} {g : Nat} {r : Raw} (h : Box w g r.cells) : stFacts w g r :=
  ⟨cellsSt0 h.range, ⟨h.froz (by simp), h.froz (by simp), h.froz (by simp), h.froz (by simp), h.froz (by simp), h.froz (by simp), h.froz (by simp)⟩, h.lt (by simp)⟩
section
variable {P : Program} {e : TypeId} {α : Type}
/-- What a write into the block g alone does to a world. -/
structure Wrote (g : Nat) (w w' : World) : Prop where
  below : ∀ B, B ≤ g → Below B w w'
  size : w'.heap.size = w.heap.size
  keep : ∀ k, k ≠ g → w'.heap[k]? = w.heap[k]?
theorem Box.wrote {w w' : World} {g g' : Nat} {cs : List Value} (h : Box w g cs) (hw : Wrote g' w w') (hne : g ≠ g') : Box w' g cs := h.block (hw.keep g hne)
theorem Mid.wrote {B E g : Nat} {w w' w'' : World} (h : Mid B E w w') (hw : Wrote g w' w'') (hg : g < B ∨ E ≤ g) : Mid B E w w'' := h.other hw.keep hw.size hg
/-- A thing put into a variable of the call's own. -/
theorem wpList_store_whole {ops : Array Oper} {rest : List Oper} {op : Oper} {a : Act} {w : World} {Q : Exit → Act → World → Prop} (L : Lay P e α) (hgd : op.guard = none) (x y : Operand) (ho : op.op = .store e x y)
    (g : Nat) (z : α) (cs : List Value) (hx : a.eval x = .pointer (some ⟨g, 0, none⟩)) (hy : a.eval y = L.val z) (hb : Box w g cs) (hl : cs.length = L.size)
    (h : ∀ w', Box w' g (L.cells z) → Wrote g w w' → wpList P ops Q rest (a.put op.dst undef) w') : wpList P ops Q (op :: rest) a w :=
  wpList_store_keep L hgd x y ho g 0 z hx hy (by rw [← hl]; exact hb.there) (fun w' h1 h2 h3 h4 h5 => h w' ⟨h1, by rw [L.len]; exact h2⟩ ⟨h3, h4, h5⟩)
/-- A one-cell value put into a field of a variable of the call's own. -/
theorem wpList_store_field {ops : Array Oper} {rest : List Oper} {op : Oper} {a : Act} {w : World} {Q : Exit → Act → World → Prop} {t : TypeId} (hgd : op.guard = none) (x y : Operand) (ho : op.op = .store t x y) (hi : (P.info? t).map (·.size) = some 1)
    (g i : Nat) (cs : List Value) (v : Value) (hx : a.eval x = .pointer (some ⟨g, i, none⟩)) (hy : a.eval y = v) (hv : v.cells = #[v]) (h1 : v.oneCell' = true) (hb : Box w g cs) (hlt : i < cs.length)
    (h : ∀ w', Box w' g (cs.set i v) → Wrote g w w' → wpList P ops Q rest (a.put op.dst undef) w') : wpList P ops Q (op :: rest) a w :=
  wpList_plain hgd fun K hK => by
    have hth : w.there g i 1 := fun j hj => by
      have := hb.there i hlt
      obtain rfl : j = 0 := by omega
      rw [Nat.zero_add] at this; exact this
    have hrun : (storeVar t ⟨g, i, none⟩ v).run P w = .ok () (w.setCell ⟨g, i, none⟩ v) := by
      have := run_storeCells_cells (P := P) g i [v] 0 w (fun j hj => by simpa using (hth j (by simpa using hj)).1) (fun j hj => by simpa using (hth j (by simpa using hj)).2) (fun u hu => by simp at hu; subst hu; exact h1)
      cases hq : P.info? t with
      | none => simp [hq] at hi
      | some q =>
        have hs : q.size = 1 := by simpa [hq] using hi
        simp only [Nat.add_zero] at this
        simp [storeVar, sizeOf, typeInfo, hq, hv, hs, this, World.setCells]
    unfold Oper.wp execOp
    simp only [ho, hx, hy, Instr.storeAt, Instr.sureAddr, Sem.run_bind, Sem.run_pure, Result.andThen_ok, hrun]
    exact hK _ _ (h _ (hb.set hlt v) ⟨fun B hB => (Below.refl B w).setCell (p := ⟨g, i, none⟩) hB v, by simp, fun k hk => Below.heap_setCell _ _ _ _ (fun e => hk e)⟩)
end
/-- The state of a copy, once it lies in a variable: what stands whatever comes. -/
theorem size1_slice : (Try.prog.info? 23).map (·.size) = some 1 ∧ (Try.prog.info? 22).map (·.size) = some 1 ∧ (Try.prog.info? 3).map (·.size) = some 1 := ⟨by kernel_rfl, by kernel_rfl, by kernel_rfl⟩
end Go.Proofs.Ytoofmofaimdhpaa

/- Writes into one block: all others stand. -/
namespace Go.Proofs.Ytoofmofaimdhpaa
open Go.ChangeShapes Go.WideShapes Go.ChangeAt Go.RowKit
set_option maxRecDepth 100000

/-- Of the blocks that stood, the one alone may have turned. -/
structure Only (g : Nat) (w w' : World) : Prop where
  os : w'.os = w.os
  tape : w'.tape = w.tape
  output : w'.output = w.output
  size : w.heap.size ≤ w'.heap.size
  block : ∀ k, k < w.heap.size → k ≠ g → w'.heap[k]? = w.heap[k]?
theorem Only.refl (g : Nat) (w : World) : Only g w w := ⟨rfl, rfl, rfl, Nat.le_refl _, fun _ _ _ => rfl⟩
theorem Only.trans {g : Nat} {w w' w'' : World} (h : Only g w w') (h2 : Only g w' w'') : Only g w w'' :=
  ⟨h2.os.trans h.os, h2.tape.trans h.tape, h2.output.trans h.output, Nat.le_trans h.size h2.size, fun k h1 h3 => (h2.block k (Nat.lt_of_lt_of_le h1 h.size) h3).trans (h.block k h1 h3)⟩
theorem Only.of {g : Nat} {w w' : World} (h : Below w.heap.size w w') : Only g w w' := ⟨h.os, h.tape, h.output, h.size, fun k hk _ => h.block k hk⟩
theorem Only.next {g : Nat} {w w' w'' : World} (h : Only g w w') (h2 : Below w'.heap.size w' w'') : Only g w w'' := h.trans (.of h2)
theorem Only.put {g : Nat} {w w' w'' : World} (h : Only g w w') (h2 : ∀ B, B ≤ g → Below B w' w'') (hk : ∀ k, k ≠ g → w''.heap[k]? = w'.heap[k]?) : Only g w w'' :=
  h.trans ⟨(h2 0 (Nat.zero_le _)).os, (h2 0 (Nat.zero_le _)).tape, (h2 0 (Nat.zero_le _)).output, (h2 0 (Nat.zero_le _)).size, fun k _ hne => hk k hne⟩
theorem Only.below {g : Nat} {w w' : World} (h : Only g w w') {B : Nat} (hB : B ≤ g) (hs : B ≤ w.heap.size) : Below B w w' := ⟨h.os, h.tape, h.output, h.size, fun k hk => h.block k (by omega) (by omega)⟩
section
variable {P : Program} {e : TypeId} {α : Type}
theorem wpList_store_mineO {ops : Array Oper} {rest : List Oper} {op : Oper} {a : Act} {w : World} {Q : Exit → Act → World → Prop} (L : Lay P e α) (hgd : op.guard = none) (x y : Operand) (ho : op.op = .store e x y)
    {B g o : Nat} {xs : List α} (hm : Mine L w B g o xs) (k : Nat) (hk : k < xs.length) (z : α) (hx : a.eval x = .pointer (some ⟨g, o + k * L.size, none⟩)) (hy : a.eval y = L.val z)
    (h : ∀ w', Mine L w' B g o (xs.set k z) → Only g w w' → w'.heap.size = w.heap.size → wpList P ops Q rest (a.put op.dst undef) w') : wpList P ops Q (op :: rest) a w :=
  wpList_store_lay L hgd x y ho g (o + k * L.size) z hx hy (hm.there hk) (h _ (hm.set hk z) ((Only.refl g w).put (fun _ hB => Below.setCells hB _ _ (Below.refl _ _)) (fun k hk => setCells_keep g _ _ _ k hk)) (setCells_size _ _ _ _))
theorem wpList_clear_mineO {ops : Array Oper} {rest : List Oper} {op : Oper} {a : Act} {w : World} {Q : Exit → Act → World → Prop} (L : Lay P e α) {t : TypeId} (ht : P.underlying t = some (.slice e)) (hgd : op.guard = none) (s : Operand)
    (ho : op.op = .call { callee := .builtin .clear, args := #[s], argTypes := #[t] }) {B g o : Nat} {xs : List α} (hm : Mine L w B g o xs) (k : Nat) (hk : k ≤ xs.length) (n c : Nat) (hn : n + k = xs.length) (hs : a.eval s = .slice (some ⟨g, o + k * L.size, none⟩) n c)
    (h : ∀ w', Mine L w' B g o (xs.take k) → Only g w w' → w'.heap.size = w.heap.size → wpList P ops Q rest (a.put op.dst (.tuple #[])) w') : wpList P ops Q (op :: rest) a w := by
  have hth : w.there g (o + k * L.size) (n * L.size) := fun j hj => by
    have := hm.2.2 (k * L.size + j) (by rw [← hn, Nat.add_mul]; omega)
    rw [Nat.add_assoc]; exact this
  refine wpList_clear_lay L ht hgd s ho g (o + k * L.size) n c hs hth fun zs _ => h _ ?_ ((Only.refl g w).put (fun _ hB => Below.setCells hB _ _ (Below.refl _ _)) (fun k hk => setCells_keep g _ _ _ k hk)) (setCells_size _ _ _ _)
  have h1 := hm.take k
  refine ⟨h1.1, World.rangeAt_setCells_apart h1.2.1 _ _ _ (.inr (.inl ?_)), World.there_setCells h1.2.2 _ _ _⟩
  rw [L.length, List.length_take, Nat.min_eq_left hk]; omega
theorem Mine.only {L : Lay P e α} {w w' : World} {B g o g' : Nat} {xs : List α} (h : Mine L w B g o xs) (hb : Below w.heap.size w w') (hg : g < w.heap.size) : Mine L w' B g o xs := h.below hb hg
end
end Go.Proofs.Ytoofmofaimdhpaa

namespace Go.Proofs.Ytoofmofaimdhpaa
open Go.ChangeShapes Go.WideShapes Go.ChangeAt Go.RowKit
set_option maxRecDepth 100000

theorem el_ints : Elem Try.prog 45 3 1 8 where
  under := Try.underlying45
  info := by
    have h : (Try.prog.info? 3).map (fun i => (i.zero, i.size, i.bytes)) = some (some (.int .i64 0), 1, 8) := by kernel_rfl
    obtain ⟨i, hi, h0, h1, h2⟩ := info_parts h
    exact ⟨i, _, hi, h0, h1, h2, rfl⟩
  pos := by decide
  bpos := by decide
def outsK (ls : List Lease) (k : Nat) : List Int := (List.range k).map fun i : Nat => outL ls ((i : Int) + 1)
theorem outsK_succ (ls : List Lease) (k : Nat) : outsK ls (k + 1) = outsK ls k ++ [outL ls ((k : Int) + 1)] := by unfold outsK; rw [List.range_succ, List.map_append]; rfl
theorem outsK_len (ls : List Lease) (k : Nat) : (outsK ls k).length = k := by simp [outsK]
theorem outsK_all (ls : List Lease) : outsK ls 16 = outsL ls := rfl

theorem OutMap.app {w w' : World} {o : Obj} {B mb mn B0 : Nat} {mf : Int → Option Int} {ls : List Lease} {e : TypeId} {size : Nat} {v : Value} {n : Nat} {xs : List Value} (h : OutMap w B mb mn mf ls) (hown : w.ownsRow B0 e size v n xs) (hg : (w.alloc o).grownBy w' v.ownBlock) : OutMap w' B mb mn mf ls := by
  refine ⟨?_, h.out, h.base, h.small⟩
  have hm := h.map
  have hlt := hm.lt
  obtain ⟨D, ⟨es, clock, h1, h2⟩, hf⟩ := hm
  have hne : v.ownBlock ≠ some mb := by
    intro e
    rcases hown.2 with ⟨rfl, _⟩ | ⟨g, cap, cur, rfl, _, hgc, _⟩
    · simp [Value.ownBlock] at e
    · simp [Value.ownBlock] at e
      subst e
      rw [h1] at hgc; cases hgc
  refine ⟨D, ⟨es, clock, ?_, h2⟩, hf⟩
  rw [hg.block mb (by simp; omega) (by first | exact hne | exact fun e => hne e.symm | exact fun e => hne e), heap_alloc_old w o hlt]
  exact h1
def RetSweep (w : World) (B g : Nat) (s : St) (e : Ending) (w' : World) : Prop := e = .returned (.tuple #[]) ∧ ∃ r, Box w' g (Raw.cells r) ∧ StAt w' B r (sweptS s) ∧ Below g w w' ∧ Only g w w'
theorem sweep_fin {w w3 w5 w7 : World} {B g : Nat} {term stamp next : Int} {a1 a2 a3 a4 x1 : Option Addr} {n1 c1 n2 c2 n3 c3 n4 c4 y1 : Nat} {s : St} {l : List Tenant}
    (h : StAt w B ⟨term, stamp, next, ⟨a1, n1, c1⟩, ⟨a2, n2, c2⟩, ⟨a3, n3, c3⟩, ⟨a4, n4, c4⟩⟩ s) (hg : g < B) (hB : B ≤ w.heap.size) (hl : sweepS s.tens (outsL s.leas) = l)
    (b3 : Below w.heap.size w w3) (b5 : Below w3.heap.size w3 w5) (hbox : Box w5 g (Raw.cells ⟨term, stamp, next, ⟨a1, n1, c1⟩, ⟨a2, n2, c2⟩, ⟨a3, n3, c3⟩, ⟨a4, n4, c4⟩⟩)) (hle : l.length ≤ y1) (hnil : x1 = none → y1 = 0) (hnear : Near w3.heap.size a1 x1) (hrow : TRow w5 x1 l)
    (h7 : w7 = w5.setCell ⟨g, 3, none⟩ (.slice x1 l.length y1)) : RetSweep w B g s (.returned (.tuple #[])) w7 := by
  have s3 := b3.size
  have b5' : Below w.heap.size w w5 := b3.trans (b5.mono s3)
  have m7 : Mid B w.heap.size w w7 := by rw [h7]; exact (Mid.below b5' (Nat.le_refl _)).setCell _ _ (.inl hg)
  refine ⟨rfl, ⟨term, stamp, next, ⟨x1, l.length, y1⟩, ⟨a2, n2, c2⟩, ⟨a3, n3, c3⟩, ⟨a4, n4, c4⟩⟩, by rw [h7]; exact hbox.set (i := 3) (by simp) _, ?_, ?_, ?_⟩
  · have hnr : Near B none x1 := h.ten.near.trans (hnear.mono (by omega))
    refine ⟨h.term, h.stamp, h.next, ⟨by unfold sweptS; rw [← hl], hle, hnil, hnr, ?_⟩, h.lea.mid m7 (Nat.le_refl _) (Nat.le_refl _), h.ses.mid m7 (Nat.le_refl _) (Nat.le_refl _), h.dsk.mid m7 (Nat.le_refl _) (Nat.le_refl _)⟩
    show LRow layTen w7 x1 (sweepS s.tens (outsL s.leas))
    rw [hl, h7]
    exact Row.setOther hrow (fun b o q e => by rcases hnr b o q e with h1 | ⟨_, _, h1⟩; show b ≠ g; omega; cases h1) _
  · rw [h7]
    exact (b5'.mono (by omega)).setCell (p := ⟨g, 3, none⟩) (Nat.le_refl g) _
  · rw [h7]
    exact (Only.of b5').put (fun B hB => (Below.refl B w5).setCell (p := ⟨g, 3, none⟩) hB _) (fun k hk => Below.heap_setCell _ _ _ _ (fun e => hk e))

set_option maxHeartbeats 4000000 in
theorem sweep_st (s : St) (r : Raw) (B g : Nat) (w : World) (hbox : Box w g r.cells) (h : StAt w B r s) (hg : g < B) (hB : B ≤ w.heap.size) (hfit : Fits s.leas) (hl1 : s.tens.length ≤ 900) (hl2 : s.leas.length ≤ 900) :
    Calls Try.prog 30 #[.pointer (some ⟨g, 0, none⟩)] w (RetSweep w B g s) := by
  obtain ⟨term, stamp, next, ⟨a1, n1, c1⟩, ⟨a2, n2, c2⟩, ⟨a3, n3, c3⟩, ⟨a4, n4, c4⟩⟩ := r
  have HFIN := Lib.hid (fun l (hl : sweepS s.tens (outsL s.leas) = l) {w3 w5 w7} b3 b5 hbx {x1 y1} hle hnil hnear hrow h7 => sweep_fin (w3 := w3) (w5 := w5) (w7 := w7) (x1 := x1) (y1 := y1) (l := l) h hg hB hl b3 b5 hbx hle hnil hnear hrow h7)
  have H1 := Lib.hid h.ten
  have H2 := Lib.hid h.lea
  have HBX := Lib.hid hbox
  have HG : Hid (g < w.heap.size) := Nat.lt_of_lt_of_le hg hB
  have hout := Lib.hid (outs_any s.leas ⟨term, stamp, next, ⟨a1, n1, c1⟩, ⟨a2, n2, c2⟩, ⟨a3, n3, c3⟩, ⟨a4, n4, c4⟩⟩ w h.lea.len (by omega) hfit h.lea.row)
  have HSW := Lib.hid (fun b m d w' (hb : Below w.heap.size w w') (hm : (outsL s.leas).length = m) (hro : Row w' b ((outsL s.leas).map (Value.int .i64))) => sweep_any s.tens (outsL s.leas) a1 b n1 c1 m d w' h.ten.len hm hl1 (by rw [← hm, outsL_length]; omega) h.ten.nil h.ten.le (Row.below h.trow hb) hro)
  have HLN := Lib.hid (sweepS_length s.tens (outsL s.leas))
  clear h hbox hfit
  obtain ⟨⟨k0, k1, k2, k3, k4, k5, k6⟩, ⟨z0, z1, z2, z3, z4, z5, z6⟩, zz⟩ := HBX.out.st
  simp only at k0 k1 k2 k3 k4 k5 k6
  go_enter Try.func30, Try.ntmps30
  go_wp2_with (first
    | (refine wpList_load_as laySt rfl (.tmp 6) rfl g 0 rfl ⟨term, stamp, next, ⟨a1, n1, c1⟩, ⟨a2, n2, c2⟩, ⟨a3, n3, c3⟩, ⟨a4, n4, c4⟩⟩ (.agg #[.int .i64 term, .int .i64 stamp, .int .i64 next, .slice a1 n1 c1, .slice a2 n2 c2, .slice a3 n3 c3, .slice a4 n4 c4]) rfl HBX.out.range ?_)
    | (go_at_call 45; ((with_reducible refine hout.out.mono ?_); rintro e w2 ⟨mb, mn, mf, rfl, hmap, hb2⟩; have HMAP := Lib.hid hmap; clear hmap)))
  clear k0 k1 k2 k3 k4 k5 k6 z0 z1 z2 z3 z4 z5 z6
  go_loopw [3, 4] (fun l i wr => ∃ k : Nat, ∃ a c, k ≤ 16 ∧ i = .int .i64 ((k : Int) + 1) ∧ l = .slice a k c ∧ Hid (wr.ownsRow w.heap.size 3 1 (.slice a k c) k ((outsK s.leas k).map (Value.int .i64))) ∧ Below w.heap.size w wr ∧ Hid (OutMap wr w.heap.size mb mn mf s.leas)) (fun _ i _ => 17 - (intOf i).toNat)
  case atStart => exact ⟨0, none, 0, by omega, rfl, rfl, World.ownsRow_nil _ _ _ _, hb2, HMAP.out⟩
  case round =>
    obtain ⟨k, a, c, hk, rfl, rfl, hown, hb, hmap⟩ := hrel
    by_cases hlt : k < 16
    · have hlt' : ((k : Int) + 1 ≤ 16) := by omega
      have HZ : Hid ((mf ((k : Int) + 1)).getD 0 = outL s.leas ((k : Int) + 1)) := hmap.out.out _
      have HS := Lib.hid (outsK_succ s.leas k)
      have HW : Hid ((Lit.int .i64 ((k : Int) + 1)).wf = true) := wf_sm (by omega) (by omega)
      generalize outL s.leas ((k : Int) + 1) = z at HZ HS
      go_wp2_with (first
        | (refine wpList_getI keyI Try.underlying77 Try.underlying3 zero_i rfl (.tmp 14) (.tmp 15) rfl mb mn mf rfl hmap.out.map ((k : Int) + 1) HW.out rfl ?_; rw [HZ.out])
        | (at_builtin; refine wpList_app el_ints rfl _ _ rfl w.heap.size _ k _ rfl (hown.out.alloc _) (some ⟨wr.heap.size, 0, none⟩) 1 1 [.int .i64 z] rfl rfl (Row.new _ _ _ _) (by intro u hu; simp at hu; subst hu; rfl) (by omega) (by have := hb.size; simp; omega) ?_; intro a2 c2 w4 hown4 hg4; have hb4 := Below.app (hb.alloc hb.size _) (hown.out.alloc _) hg4 (by have := hb.size; simp; omega); have HM4 := Lib.hid (hmap.out.app hown.out hg4); have HO4 := Lib.hid hown4; clear hg4 hown4))
      go_roundw
      case rel => exact ⟨k + 1, a2, c2, by omega, by go_num, rfl, by show World.ownsRow _ _ _ _ _ _ _; rw [HS.out, List.map_append]; exact HO4.out, hb4, HM4.out⟩
      case measure => simp [intOf]; omega
    · obtain rfl : k = 16 := by omega
      have HBR := Lib.hid (HBX.out.below hb HG.out)
      obtain ⟨⟨k0, k1, k2, k3, k4, k5, k6⟩, ⟨z0, z1, z2, z3, z4, z5, z6⟩, zz⟩ := HBR.out.st
      simp only at k0 k1 k2 k3 k4 k5 k6
      go_wp2_with (go_at_call 62; ((with_reducible refine (HSW.out a 16 c wr hb (outsL_length _) (by rw [← outsK_all]; exact own_row hown.out)).mono ?_); generalize hres : sweepS s.tens (outsL s.leas) = res; have HRES := Lib.hid hres; clear hres; rintro e w5 ⟨x1, y1, rfl, hle5, hnil5, hnear5, hrow5, hb5⟩; have K5 := Lib.hid (And.intro hle5 (And.intro hnil5 (And.intro hnear5 hrow5))); clear hle5 hnil5 hnear5 hrow5; have B5 := Lib.hid (HBR.out.next (by simp) hb5); obtain ⟨⟨k0, k1, k2, k3, k4, k5, k6⟩, ⟨z0, z1, z2, z3, z4, z5, z6⟩, zz⟩ := B5.out.st; simp only at k0 k1 k2 k3 k4 k5 k6))
      go_end0
      exact HFIN.out res HRES.out hb hb5 B5.out K5.out.1 K5.out.2.1 K5.out.2.2.1 K5.out.2.2.2 rfl
end Go.Proofs.Ytoofmofaimdhpaa

namespace Go.Proofs.Ytoofmofaimdhpaa
open Go.ChangeShapes Go.WideShapes Go.ChangeAt Go.RowKit
set_option maxRecDepth 100000

/-! The deferred closures. -/
def DefSweep (w : World) (B g : Nat) (s : St) (u : FrameMode) (e : Ending) (u' : FrameMode) (w' : World) : Prop := u' = u ∧ RetSweep w B g s e w'
theorem credit1_d (B g : Nat) (s : St) (u : FrameMode) (w : World) (h : Calls Try.prog 30 #[.pointer (some ⟨g, 0, none⟩)] w (RetSweep w B g s)) : CallsD Try.prog 49 #[.pointer (some ⟨g, 0, none⟩)] u w (DefSweep w B g s u) := by
  go_enter_d Try.func49, Try.ntmps49
  go_wp2_with (go_at_call 30; ((with_reducible refine h.mono ?_); rintro e w' ⟨rfl, hh⟩))
  go_end0
  first | exact ⟨rfl, rfl, hh⟩ | exact ⟨rfl, hh⟩ | exact hh
theorem grant1_d (B g : Nat) (s : St) (u : FrameMode) (w : World) (h : Calls Try.prog 30 #[.pointer (some ⟨g, 0, none⟩)] w (RetSweep w B g s)) : CallsD Try.prog 29 #[.pointer (some ⟨g, 0, none⟩)] u w (DefSweep w B g s u) := by
  go_enter_d Try.func29, Try.ntmps29
  go_wp2_with (go_at_call 30; ((with_reducible refine h.mono ?_); rintro e w' ⟨rfl, hh⟩))
  go_end0
  first | exact ⟨rfl, rfl, hh⟩ | exact ⟨rfl, hh⟩ | exact hh
theorem report1_d (B g : Nat) (s : St) (u : FrameMode) (w : World) (h : Calls Try.prog 30 #[.pointer (some ⟨g, 0, none⟩)] w (RetSweep w B g s)) : CallsD Try.prog 52 #[.pointer (some ⟨g, 0, none⟩)] u w (DefSweep w B g s u) := by
  go_enter_d Try.func52, Try.ntmps52
  go_wp2_with (go_at_call 30; ((with_reducible refine h.mono ?_); rintro e w' ⟨rfl, hh⟩))
  go_end0
  first | exact ⟨rfl, rfl, hh⟩ | exact ⟨rfl, hh⟩ | exact hh
theorem expire1_d (B g : Nat) (s : St) (u : FrameMode) (w : World) (h : Calls Try.prog 30 #[.pointer (some ⟨g, 0, none⟩)] w (RetSweep w B g s)) : CallsD Try.prog 58 #[.pointer (some ⟨g, 0, none⟩)] u w (DefSweep w B g s u) := by
  go_enter_d Try.func58, Try.ntmps58
  go_wp2_with (go_at_call 30; ((with_reducible refine h.mono ?_); rintro e w' ⟨rfl, hh⟩))
  go_end0
  first | exact ⟨rfl, rfl, hh⟩ | exact ⟨rfl, hh⟩ | exact hh

/-! slices.Contains at ints; the closures that ask of a lease. -/
theorem index_ints (xs : List Int) (a : Option Addr) (n c : Nat) (v : Int) (w : World) (hn : xs.length = n) (hl : n ≤ maxLen) (hr : Row w a (xs.map (Value.int .i64))) :
    Calls Try.prog 92 #[.slice a n c, .int .i64 v] w fun e w' => e = .returned (.int .i64 (idxL (fun x => x == v) xs)) ∧ Below w.heap.size w w' := by
  subst hn
  have hl2 := lt_maxLen hl
  have HI := Lib.hid (fun k (hk : k < xs.length) => idxL_some (p := fun x => x == v) hk)
  have HN := Lib.hid (idxL_none (p := fun x => x == v) (xs := xs))
  generalize idxL (fun x => x == v) xs = res at HI HN ⊢
  go_enter Try.func92, Try.ntmps92
  go_wp2
  go_loopw [8] (fun i wr => ∃ k : Nat, k ≤ xs.length ∧ i = .int .i64 k ∧ Hid (∀ j (h : j < xs.length), j < k → (xs[j] == v) = false) ∧ Below w.heap.size w wr) (fun i _ => xs.length - (intOf i).toNat)
  case atStart => exact ⟨0, by omega, rfl, (fun j _ hj => by omega), Below.refl _ _⟩
  case round =>
    obtain ⟨k, hk, rfl, hno, hb⟩ := hrel
    by_cases hlt : k < xs.length
    · obtain ⟨b, o, rfl, hcell⟩ := Row.getBelow hr (k := k) (by rw [List.getElem?_map, List.getElem?_eq_getElem hlt]; rfl)
      have hcl := hcell _ hb
      have HK := Lib.hid (HI.out k hlt hno.out)
      have HQ : Hid (xs[k] = xs[k]) := rfl
      generalize hx : xs[k] = x at hcl HK
      have HX := Lib.hid hx
      clear hcell hx
      by_cases he : v = x
      · subst he
        go_wp2
        go_returns
        exact ⟨ret_int (HK.out (by simp)).symm, hb⟩
      · go_wp2
        go_roundw
        case rel => exact ⟨k + 1, by omega, by go_num, (fun j h hj => by rcases Nat.lt_succ_iff_lt_or_eq.1 hj with h1 | rfl; exact hno.out j h h1; rw [HX.out]; simp; exact fun e => he e.symm), hb⟩
        case measure => simp [intOf]; omega
    · go_wp2
      go_returns
      exact ⟨ret_int (HN.out fun j h => hno.out j h (by omega)).symm, hb⟩
theorem contains_eq (v : Int) (xs : List Int) : decide (0 ≤ idxL (fun x => x == v) xs) = xs.contains v := by
  rcases idxL_ways (fun x => x == v) xs with ⟨h1, h2⟩ | ⟨k, hk, h1, h2, _⟩
  · rw [h1]
    have h3 : xs.contains v = false := by
      rw [Bool.eq_false_iff]
      intro h
      rw [List.contains_iff_mem] at h
      have := h2 v h
      simp at this
    rw [h3]; rfl
  · rw [h1]
    have h3 : xs.contains v = true := by rw [List.contains_iff_mem]; have : xs[k] = v := by simpa using h2
                                         rw [← this]; exact List.getElem_mem hk
    rw [h3, decide_eq_true (by omega)]
theorem contains_ints (xs : List Int) (a : Option Addr) (n c : Nat) (v : Int) (w : World) (hn : xs.length = n) (hl : n ≤ maxLen) (hr : Row w a (xs.map (Value.int .i64))) :
    Calls Try.prog 61 #[.slice a n c, .int .i64 v] w fun e w' => e = .returned (.bool (xs.contains v)) ∧ Below w.heap.size w w' := by
  have HI := Lib.hid (index_ints xs a n c v w hn hl hr)
  have HC := Lib.hid (contains_eq v xs)
  generalize xs.contains v = res at HC ⊢
  clear hr
  go_enter Try.func61, Try.ntmps61
  go_wp2_with (go_at_call 92; ((with_reducible refine HI.out.mono ?_); rintro e w' ⟨rfl, hb⟩))
  go_returns
  exact ⟨ret_bool HC.out, hb⟩
theorem expire2_any (x : Lease) (xs : List Int) (g : Nat) (a : Option Addr) (n c : Nat) (w : World) (hn : xs.length = n) (hl : n ≤ maxLen) (hc : w.cell? ⟨g, 0, none⟩ = some (.slice a n c)) (hr : Row w a (xs.map (Value.int .i64))) :
    Calls Try.prog 60 #[x.agg, .pointer (some ⟨g, 0, none⟩)] w fun e w' => e = .returned (.bool (xs.contains x.id)) ∧ Below w.heap.size w w' := by
  have hlt := World.block_lt_of_cell? w _ hc
  simp only at hlt
  have HC := Lib.hid (fun w' (hb : Below w.heap.size w w') => contains_ints xs a n c x.id w' hn hl (Row.below hr hb))
  clear hr
  generalize xs.contains x.id = res at HC ⊢
  obtain ⟨x0, x1, x2, x3, x4, x5, x6⟩ := x
  go_enter Try.func60, Try.ntmps60
  go_wp2_with (go_at_call 61; ((with_reducible refine (HC.out _ (by repeat' (first | (with_reducible exact Below.refl _ _) | (with_reducible assumption) | (with_reducible refine Below.drew ?_) | (with_reducible refine Below.more ?_ _) | (with_reducible refine Below.put ?_ ?_ _) | (with_reducible refine Below.next ?_ (by with_reducible assumption)) | (with_reducible exact Nat.le_refl _) | (with_reducible refine Below.size' ?_) | omega))).mono ?_); rintro e w' ⟨rfl, hb⟩))
  go_returns
  exact ⟨rfl, (by repeat' (first | (with_reducible exact Below.refl _ _) | (with_reducible assumption) | (with_reducible refine Below.drew ?_) | (with_reducible refine Below.more ?_ _) | (with_reducible refine Below.put ?_ ?_ _) | (with_reducible refine Below.next ?_ (by with_reducible assumption)) | (with_reducible exact Nat.le_refl _) | (with_reducible refine Below.size' ?_) | omega))⟩
theorem enter_expire2 (args : Array Value) (w : World) : (callFunc 60 args).run Try.prog w = .ok (.enter 60 args) w := by kernel_rfl
theorem lfind1_any (x : Lease) (id : Int) (g : Nat) (w : World) (hc : w.cell? ⟨g, 0, none⟩ = some (.int .i64 id)) :
    Calls Try.prog 42 #[x.agg, .pointer (some ⟨g, 0, none⟩)] w fun e w' => e = .returned (.bool (x.id == id)) ∧ Below w.heap.size w w' := by
  have hlt := World.block_lt_of_cell? w _ hc
  simp only at hlt
  obtain ⟨x0, x1, x2, x3, x4, x5, x6⟩ := x
  go_enter Try.func42, Try.ntmps42
  go_wp2
  go_returns
  exact ⟨ret_bool (by first | rfl | simp | (rw [Bool.eq_iff_iff]; simp)), (by repeat' (first | (with_reducible exact Below.refl _ _) | (with_reducible assumption) | (with_reducible refine Below.drew ?_) | (with_reducible refine Below.more ?_ _) | (with_reducible refine Below.put ?_ ?_ _) | (with_reducible refine Below.next ?_ (by with_reducible assumption)) | (with_reducible exact Nat.le_refl _) | (with_reducible refine Below.size' ?_) | omega))⟩
theorem enter_lfind1 (args : Array Value) (w : World) : (callFunc 42 args).run Try.prog w = .ok (.enter 42 args) w := by kernel_rfl
theorem place_lea (xs : List Lease) (a : Option Addr) (n c : Nat) (fid : FuncId) (cap : Array Value) (p : Lease → Bool) (w : World) (hn : xs.length = n) (hl : n ≤ maxLen) (hr : LRow layLea w a xs)
    (hcf : ∀ (args : Array Value) (w : World), (callFunc fid args).run Try.prog w = .ok (.enter fid args) w)
    (hf : ∀ x ∈ xs, ∀ w', Below w.heap.size w w' → Calls Try.prog fid (#[layLea.val x] ++ cap) w' fun e w'' => e = .returned (.bool (p x)) ∧ Below w'.heap.size w' w'') :
    Calls Try.prog 41 #[.slice a n c, .func (.func fid) #[] cap] w fun e w' => e = .returned (.tuple #[.int .i64 (idxL p xs), .bool (decide (0 ≤ idxL p xs))]) ∧ Below w.heap.size w w' := by
  have HI := Lib.hid (indexFuncLea xs a n c fid cap p w hn hl hr hcf hf)
  clear hf hcf
  go_enter Try.func41, Try.ntmps41
  go_wp2_with (go_at_call 73; ((with_reducible refine HI.out.mono ?_); rintro e w' ⟨rfl, hb⟩))
  go_returns
  exact ⟨rfl, hb⟩
end Go.Proofs.Ytoofmofaimdhpaa

namespace Go.Proofs.Ytoofmofaimdhpaa
open Go.ChangeShapes Go.WideShapes Go.ChangeAt Go.RowKit
set_option maxRecDepth 100000

theorem containsFuncTen (xs : List Tenant) (a : Option Addr) (n c : Nat) (fid : FuncId) (cap : Array Value) (p : Tenant → Bool) (w : World) (hn : xs.length = n) (hl : n ≤ maxLen) (hr : LRow layTen w a xs)
    (hcf : ∀ (args : Array Value) (w : World), (callFunc fid args).run Try.prog w = .ok (.enter fid args) w)
    (hf : ∀ x ∈ xs, ∀ w', Below w.heap.size w w' → Calls Try.prog fid (#[layTen.val x] ++ cap) w' fun e w'' => e = .returned (.bool (p x)) ∧ Below w'.heap.size w' w'') :
    Calls Try.prog 47 #[.slice a n c, .func (.func fid) #[] cap] w fun e w' => e = .returned (.bool (decide (0 ≤ idxL p xs))) ∧ Below w.heap.size w w' := by
  have HI := Lib.hid (indexFuncTen xs a n c fid cap p w hn hl hr hcf hf)
  clear hf hcf
  go_enter Try.func47, Try.ntmps47
  go_wp2_with (go_at_call 83; ((with_reducible refine HI.out.mono ?_); rintro e w' ⟨rfl, hb⟩))
  go_returns
  exact ⟨rfl, hb⟩

set_option maxHeartbeats 1000000 in
theorem check1_any (x : Tenant) (ls : List Lease) (g B b n : Nat) (f : Int → Option Int) (w : World) (h1 : 1 ≤ x.id ∧ x.id ≤ 16) (h2 : x.bucket ≤ 1000000000) (h3 : 0 ≤ x.burst ∧ x.burst ≤ 1000000) (ho : 0 ≤ outL ls x.id ∧ outL ls x.id ≤ 1000000000)
    (hc : w.cell? ⟨g, 0, none⟩ = some (.map (some b))) (hm : OutMap w B b n f ls) :
    Calls Try.prog 48 #[x.agg, .pointer (some ⟨g, 0, none⟩)] w fun e w' => e = .returned (.bool (!tenRoom ls x)) ∧ Below w.heap.size w w' := by
  have hlt := World.block_lt_of_cell? w _ hc
  simp only at hlt
  have HM := Lib.hid hm
  have HW : Hid ((Lit.int .i64 x.id).wf = true) := wf_sm (by omega) (by omega)
  have HR : Hid (tenRoom ls x = decide (0 < x.bucket → x.bucket + 1000 * outL ls x.id ≤ 1000 * x.burst)) := rfl
  generalize tenRoom ls x = res at HR ⊢
  obtain ⟨id, rate, burst, bucket, gone⟩ := x
  simp only at h1 h2 h3 ho HW HR
  have HZ : Hid ((f id).getD 0 = outL ls id) := hm.out id
  generalize outL ls id = z at ho HR HZ
  obtain ⟨ho1, ho2⟩ := ho
  obtain ⟨h31, h32⟩ := h3
  clear hm
  by_cases hb0 : 0 < bucket
  · have hg : decide (0 < bucket) = true := decide_eq_true hb0
    go_enter Try.func48, Try.ntmps48
    go_wp2_with (first
      | (refine wpList_strip (by rfl) ?_; refine wpList_getI keyI Try.underlying77 Try.underlying3 zero_i rfl (.tmp 10) (.tmp 12) rfl b n f rfl (HM.out.map.alloc _) id HW.out rfl ?_; rw [HZ.out]))
    go_returns
    refine ⟨ret_bool ?_, (by repeat' (first | (with_reducible exact Below.refl _ _) | (with_reducible assumption) | (with_reducible refine Below.drew ?_) | (with_reducible refine Below.more ?_ _) | (with_reducible refine Below.put ?_ ?_ _) | (with_reducible refine Below.next ?_ (by with_reducible assumption)) | (with_reducible exact Nat.le_refl _) | (with_reducible refine Below.size' ?_) | omega))⟩
    rw [HR.out, Bool.eq_iff_iff]
    simp only [decide_eq_true_iff, Bool.not_eq_true', decide_eq_false_iff_not]
    omega
  · have hg : decide (0 < bucket) = false := decide_eq_false hb0
    go_enter Try.func48, Try.ntmps48
    go_wp2
    go_returns
    refine ⟨ret_bool ?_, (by repeat' (first | (with_reducible exact Below.refl _ _) | (with_reducible assumption) | (with_reducible refine Below.drew ?_) | (with_reducible refine Below.more ?_ _) | (with_reducible refine Below.put ?_ ?_ _) | (with_reducible refine Below.next ?_ (by with_reducible assumption)) | (with_reducible exact Nat.le_refl _) | (with_reducible refine Below.size' ?_) | omega))⟩
    rw [HR.out, decide_eq_true (fun h => absurd h (by omega))]; rfl
theorem enter_lcheck1 (args : Array Value) (w : World) : (callFunc 48 args).run Try.prog w = .ok (.enter 48 args) w := by kernel_rfl
end Go.Proofs.Ytoofmofaimdhpaa

namespace Go.Proofs.Ytoofmofaimdhpaa
open Go.ChangeShapes Go.WideShapes Go.ChangeAt Go.RowKit
set_option maxRecDepth 100000

theorem cut_here {T G : Prop} (k : Hid T → G) (h : T) : G := k h
/-- What a copy's four rows come to. -/
theorem copy_fin {w W1 w2 w3 w4 w5 w6 w7 w8 : World} {term stamp next : Int} {ts : List Tenant} {ls : List Lease} {ss : List Session} {ds : List Desk} {x1 x2 x3 x4 : Option Addr} {y1 y2 y3 y4 : Nat}
    (K1 : Near W1.heap.size none x1 ∧ Can w2 W1.heap.size 55 layTen.size x1 ts.length y1 (ts.flatMap layTen.cells) ∧ (0 < ts.length → w2.ownsRow W1.heap.size 55 layTen.size (.slice x1 ts.length y1) ts.length (ts.flatMap layTen.cells)) ∧ ∀ b o s, x1 = some ⟨b, o, s⟩ → b < w2.heap.size)
    (K2 : Near w2.heap.size none x2 ∧ Can w3 w2.heap.size 38 layLea.size x2 ls.length y2 (ls.flatMap layLea.cells) ∧ (0 < ls.length → w3.ownsRow w2.heap.size 38 layLea.size (.slice x2 ls.length y2) ls.length (ls.flatMap layLea.cells)) ∧ ∀ b o s, x2 = some ⟨b, o, s⟩ → b < w3.heap.size)
    (K3 : Near w4.drew.heap.size none x3 ∧ Can w5 w4.drew.heap.size 70 laySes.size x3 ss.length y3 (ss.flatMap laySes.cells) ∧ (0 < ss.length → w5.ownsRow w4.drew.heap.size 70 laySes.size (.slice x3 ss.length y3) ss.length (ss.flatMap laySes.cells)) ∧ ∀ b o s, x3 = some ⟨b, o, s⟩ → b < w5.heap.size)
    (K4 : Near w5.heap.size none x4 ∧ Can w6 w5.heap.size 72 layDsk.size x4 ds.length y4 (ds.flatMap layDsk.cells) ∧ (0 < ds.length → w6.ownsRow w5.heap.size 72 layDsk.size (.slice x4 ds.length y4) ds.length (ds.flatMap layDsk.cells)) ∧ ∀ b o s, x4 = some ⟨b, o, s⟩ → b < w6.heap.size)
    (hW : w.heap.size + 2 ≤ W1.heap.size)
    (b12 : Below W1.heap.size W1 w2) (b23 : Below w2.heap.size w2 w3) (M4 : Mid (w.heap.size + 1) w3.heap.size w3 w4) (b45 : Below w4.drew.heap.size w4.drew w5) (b56 : Below w5.heap.size w5 w6) (M7 : Mid (w.heap.size + 1) w6.heap.size w6 w7)
    (hk8 : ∀ k, k ≠ w.heap.size + 1 → w8.heap[k]? = w7.heap[k]?) (hs8 : w8.heap.size = w7.heap.size) (hb : Below w.heap.size w w8) :
    RetCopy w ⟨term, stamp, next, ts, ls, ss, ds⟩ (.returned (.agg #[.int .i64 term, .int .i64 stamp, .int .i64 next, .slice x1 ts.length y1, .slice x2 ls.length y2, .slice x3 ss.length y3, .slice x4 ds.length y4])) w8 := by
  have s12 := b12.size
  have s23 := b23.size
  have s34 := M4.size
  have s45 : w4.heap.size ≤ w5.heap.size := b45.size
  have s56 := b56.size
  have s67 := M7.size
  have d4 : w4.drew.heap.size = w4.heap.size := rfl
  have m78 : ∀ E, Mid (w.heap.size + 2) E w7 w8 := fun E => (Mid.refl _ _ _).other hk8 hs8 (.inl (by omega))
  have m68 : ∀ E, E ≤ w6.heap.size → Mid (w.heap.size + 2) E w6 w8 := fun E hE => (⟨M7.size, fun k h1 h2 => M7.keep k (by omega) (by omega)⟩ : Mid (w.heap.size + 2) E w6 w7).trans (m78 E)
  have m58 : ∀ E, E ≤ w5.heap.size → Mid (w.heap.size + 2) E w5 w8 := fun E hE => (Mid.below b56 hE).trans (m68 E (by omega))
  have m48 : ∀ E, E ≤ w4.heap.size → Mid (w.heap.size + 2) E w4 w8 := fun E hE => (⟨b45.size, fun k _ h2 => b45.block k (by omega)⟩ : Mid (w.heap.size + 2) E w4 w5).trans (m58 E (by omega))
  have m38 : ∀ E, E ≤ w3.heap.size → Mid (w.heap.size + 2) E w3 w8 := fun E hE => (⟨M4.size, fun k h1 h2 => M4.keep k (by omega) (by omega)⟩ : Mid (w.heap.size + 2) E w3 w4).trans (m48 E (by omega))
  have m28 : ∀ E, E ≤ w2.heap.size → Mid (w.heap.size + 2) E w2 w8 := fun E hE => (Mid.below b23 hE).trans (m38 E (by omega))
  have S1 := (SliAt.of_clone (L := layTen) (by decide) K1.1 K1.2.1).mid (m28 _ (Nat.le_refl _)) hW (Nat.le_refl _)
  have S2 := (SliAt.of_clone (L := layLea) (by decide) K2.1 K2.2.1).mid (m38 _ (Nat.le_refl _)) (by omega) (Nat.le_refl _)
  have S3 := (SliAt.of_clone (L := laySes) (by decide) K3.1 K3.2.1).mid (m58 _ (Nat.le_refl _)) (by omega) (Nat.le_refl _)
  have S4 := (SliAt.of_clone (L := layDsk) (by decide) K4.1 K4.2.1).mid (m68 _ (Nat.le_refl _)) (by omega) (Nat.le_refl _)
  have O1 := ((⟨K1.2.1, K1.2.2.1⟩ : OwnSli layTen w2 W1.heap.size ⟨x1, ts.length, y1⟩ ts).mid K1.1 (m28 _ (Nat.le_refl _)) hW (Nat.le_refl _)).base (B0 := w.heap.size) (by omega)
  have O2 := ((⟨K2.2.1, K2.2.2.1⟩ : OwnSli layLea w3 w2.heap.size ⟨x2, ls.length, y2⟩ ls).mid K2.1 (m38 _ (Nat.le_refl _)) (by omega) (Nat.le_refl _)).base (B0 := w.heap.size) (by omega)
  refine ⟨⟨term, stamp, next, ⟨x1, ts.length, y1⟩, ⟨x2, ls.length, y2⟩, ⟨x3, ss.length, y3⟩, ⟨x4, ds.length, y4⟩⟩, rfl, ⟨⟨rfl, rfl, rfl, S1.mono (by omega), S2.mono (by omega), S3.mono (by omega), S4.mono (by omega)⟩, O1, O2, Ap.of K1.2.2.2 K2.1 (Nat.le_refl _), Ap.of K1.2.2.2 K3.1 (by omega), Ap.of K1.2.2.2 K4.1 (by omega), Ap.of K2.2.2.2 K3.1 (by omega), Ap.of K2.2.2.2 K4.1 (by omega), fun x o q e => by have h1 := K2.2.2.2 x o q e; have h2 := (m38 0 (by omega)).size; omega⟩, hb⟩

set_option maxHeartbeats 4000000 in
theorem copied_st (s : St) (r : Raw) (B : Nat) (w : World) (h : StAt w B r s) (hl1 : s.tens.length ≤ 900) (hl2 : s.leas.length ≤ 900) (hl3 : s.sess.length ≤ 900) (hl4 : s.dsks.length ≤ 900) :
    Calls Try.prog 31 #[r.agg] w (RetCopy w s) := by
  obtain ⟨term, stamp, next, ⟨a1, n1, c1⟩, ⟨a2, n2, c2⟩, ⟨a3, n3, c3⟩, ⟨a4, n4, c4⟩⟩ := r
  obtain ⟨term', stamp', nx, ts, ls, ss, ds⟩ := s
  have hq1 := h.term
  have hq2 := h.stamp
  have hq3 := h.next
  have H1 := Lib.hid h.ten
  have H2 := Lib.hid h.lea
  have H3 := Lib.hid h.ses
  have H4 := Lib.hid h.dsk
  simp only at hq1 hq2 hq3 hl1 hl2 hl3 hl4
  subst hq1
  subst hq2
  subst hq3
  clear h
  have hb1 := Lib.hid (show n1 * layTen.bytes ≤ 140737488355328 by have := H1.out.len; show n1 * 40 ≤ _; simp only at this; omega)
  have hb2 := Lib.hid (show n2 * layLea.bytes ≤ 140737488355328 by have := H2.out.len; show n2 * 56 ≤ _; simp only at this; omega)
  have hb3 := Lib.hid (show n3 * laySes.bytes ≤ 140737488355328 by have := H3.out.len; show n3 * 56 ≤ _; simp only at this; omega)
  have hb4 := Lib.hid (show n4 * layDsk.bytes ≤ 140737488355328 by have := H4.out.len; show n4 * 64 ≤ _; simp only at this; omega)
  have hm1 := Lib.hid (show n1 ≤ maxLen from le_maxLen (by have := H1.out.len; simp only at this; omega))
  have hm2 := Lib.hid (show n2 ≤ maxLen from le_maxLen (by have := H2.out.len; simp only at this; omega))
  have hm3 := Lib.hid (show n3 ≤ maxLen from le_maxLen (by have := H3.out.len; simp only at this; omega))
  have hm4 := Lib.hid (show n4 ≤ maxLen from le_maxLen (by have := H4.out.len; simp only at this; omega))
  have C1 := Lib.hid (fun w' (hb : Below w.heap.size w w') => cloneTen ts a1 n1 c1 w' H1.out.len hb1.out hm1.out H1.out.nil H1.out.le (H1.out.row.below hb))
  have C2 := Lib.hid (fun w' (hb : Below w.heap.size w w') => cloneLea ls a2 n2 c2 w' H2.out.len hb2.out hm2.out H2.out.nil H2.out.le (H2.out.row.below hb))
  have C3 := Lib.hid (fun w' (hb : Below w.heap.size w w') => cloneSes ss a3 n3 c3 w' H3.out.len hb3.out hm3.out H3.out.nil H3.out.le (H3.out.row.below hb))
  have C4 := Lib.hid (fun w' (hb : Below w.heap.size w w') => cloneDsk ds a4 n4 c4 w' H4.out.len hb4.out hm4.out H4.out.nil H4.out.le (H4.out.row.below hb))
  clear hl1 hl2 hl3 hl4
  go_enter Try.func31, Try.ntmps31
  go_wp2
  have HBX : Hid (∀ w', Below ((w.alloc (.cells #[.int .i64 term, .int .i64 stamp, .int .i64 next, .slice a1 n1 c1, .slice a2 n2 c2, .slice a3 n3 c3, .slice a4 n4 c4] 27)).alloc (.cells #[.int .i64 0, .int .i64 0, .int .i64 0, .slice none 0 0, .slice none 0 0, .slice none 0 0, .slice none 0 0] 27)).heap.size ((w.alloc (.cells #[.int .i64 term, .int .i64 stamp, .int .i64 next, .slice a1 n1 c1, .slice a2 n2 c2, .slice a3 n3 c3, .slice a4 n4 c4] 27)).alloc (.cells #[.int .i64 0, .int .i64 0, .int .i64 0, .slice none 0 0, .slice none 0 0, .slice none 0 0, .slice none 0 0] 27)) w' →
      Box w' w.heap.size (Raw.cells ⟨term, stamp, next, ⟨a1, n1, c1⟩, ⟨a2, n2, c2⟩, ⟨a3, n3, c3⟩, ⟨a4, n4, c4⟩⟩) ∧ Box w' (w.heap.size + 1) (Raw.cells ⟨0, 0, 0, ⟨none, 0, 0⟩, ⟨none, 0, 0⟩, ⟨none, 0, 0⟩, ⟨none, 0, 0⟩⟩)) := fun w' hb => ⟨Box.of_alloc (mid_alloc' hb), Box.of_alloc1 hb⟩
  apply cut_here
  · intro CUT1
    go_region_law (first
      | (go_simp; go_at_call 63; ((with_reducible refine (C1.out _ (by repeat' (first | (with_reducible exact Below.refl _ _) | (with_reducible assumption) | (with_reducible refine Below.drew ?_) | (with_reducible refine Below.more ?_ _) | (with_reducible refine Below.put ?_ ?_ _) | (with_reducible refine Below.next ?_ (by with_reducible assumption)) | (with_reducible exact Nat.le_refl _) | (with_reducible refine Below.size' ?_) | omega))).mono ?_); rintro e w2 ⟨x1, y1, rfl, hnear1, hcan1, hown1, hlt1, hbq1⟩; have K1 := Lib.hid (And.intro hnear1 (And.intro hcan1 (And.intro hown1 hlt1))); clear hnear1 hcan1 hown1 hlt1; have HX2 := Lib.hid (HBX.out w2 (by repeat' (first | (with_reducible exact Below.refl _ _) | (with_reducible assumption) | (with_reducible refine Below.drew ?_) | (with_reducible refine Below.more ?_ _) | (with_reducible refine Below.put ?_ ?_ _) | (with_reducible refine Below.next ?_ (by with_reducible assumption)) | (with_reducible exact Nat.le_refl _) | (with_reducible refine Below.size' ?_) | omega))); obtain ⟨⟨k0, k1, k2, k3, k4, k5, k6⟩, ⟨z0, z1, z2, z3, z4, z5, z6⟩, zz⟩ := HX2.out.1.st; simp only at k0 k1 k2 k3 k4 k5 k6))
      | (go_simp; go_at_call 64; ((with_reducible refine (C2.out _ (by repeat' (first | (with_reducible exact Below.refl _ _) | (with_reducible assumption) | (with_reducible refine Below.drew ?_) | (with_reducible refine Below.more ?_ _) | (with_reducible refine Below.put ?_ ?_ _) | (with_reducible refine Below.next ?_ (by with_reducible assumption)) | (with_reducible exact Nat.le_refl _) | (with_reducible refine Below.size' ?_) | omega))).mono ?_); rintro e w3 ⟨x2, y2, rfl, hnear2, hcan2, hown2, hlt2, hbq2⟩; have K2 := Lib.hid (And.intro hnear2 (And.intro hcan2 (And.intro hown2 hlt2))); clear hnear2 hcan2 hown2 hlt2; clear k0 k1 k2 k3 k4 k5 k6 z0 z1 z2 z3 z4 z5 z6 zz; have HX3 := Lib.hid (HBX.out w3 (by repeat' (first | (with_reducible exact Below.refl _ _) | (with_reducible assumption) | (with_reducible refine Below.drew ?_) | (with_reducible refine Below.more ?_ _) | (with_reducible refine Below.put ?_ ?_ _) | (with_reducible refine Below.next ?_ (by with_reducible assumption)) | (with_reducible exact Nat.le_refl _) | (with_reducible refine Below.size' ?_) | omega))); obtain ⟨⟨k0, k1, k2, k3, k4, k5, k6⟩, ⟨z0, z1, z2, z3, z4, z5, z6⟩, zz⟩ := HX3.out.1.st; simp only at k0 k1 k2 k3 k4 k5 k6)))
    all_goals
      obtain ⟨w4, hw4⟩ : ∃ x, x = (w3.setCell ⟨w.heap.size, 3, none⟩ (.slice x1 ts.length y1)).setCell ⟨w.heap.size, 4, none⟩ (.slice x2 ls.length y2) := ⟨_, rfl⟩
      rw [← hw4]
      have B4 := Lib.hid (show Box w4 w.heap.size (Raw.cells ⟨term, stamp, next, ⟨x1, ts.length, y1⟩, ⟨x2, ls.length, y2⟩, ⟨a3, n3, c3⟩, ⟨a4, n4, c4⟩⟩) by rw [hw4]; exact (HX3.out.1.set (i := 3) (by simp) _).set (i := 4) (by simp) _)
      have Z4 := Lib.hid (show Box w4 (w.heap.size + 1) (Raw.cells ⟨0, 0, 0, ⟨none, 0, 0⟩, ⟨none, 0, 0⟩, ⟨none, 0, 0⟩, ⟨none, 0, 0⟩⟩) by rw [hw4]; exact (HX3.out.2.far (by simp) _).far (by simp) _)
      have M4 := Lib.hid (show Mid (w.heap.size + 1) w3.heap.size w3 w4 by rw [hw4]; exact ((Mid.refl _ _ _).setCell _ _ (.inl (by simp))).setCell _ _ (.inl (by simp)))
      have b34 : Below w.heap.size w3 w4 := by rw [hw4]; exact ((Below.refl w.heap.size w3).setCell (p := ⟨w.heap.size, 3, none⟩) (Nat.le_refl w.heap.size) _).setCell (p := ⟨w.heap.size, 4, none⟩) (Nat.le_refl w.heap.size) _
      have b4 : Below w.heap.size w w4 := Below.trans (show Below w.heap.size w w3 from (by repeat' (first | (with_reducible exact Below.refl _ _) | (with_reducible assumption) | (with_reducible refine Below.drew ?_) | (with_reducible refine Below.more ?_ _) | (with_reducible refine Below.put ?_ ?_ _) | (with_reducible refine Below.next ?_ (by with_reducible assumption)) | (with_reducible exact Nat.le_refl _) | (with_reducible refine Below.size' ?_) | omega))) b34
      clear hw4 k0 k1 k2 k3 k4 k5 k6 z0 z1 z2 z3 z4 z5 z6 zz
      revert b4
      revert M4
      revert Z4
      revert B4
      revert K2
      revert hbq2
      revert K1
      revert hbq1
      revert y2
      revert x2
      revert y1
      revert x1
      clear HX2 HX3 b34
      revert w4
      revert w3
      revert w2
      exact CUT1.out
  intro w2 w3 w4 x1 y1 x2 y2 hbq1 K1 hbq2 K2 B4 Z4 M4 b4
  obtain ⟨⟨k0, k1, k2, k3, k4, k5, k6⟩, ⟨z0, z1, z2, z3, z4, z5, z6⟩, zz⟩ := B4.out.st
  simp only at k0 k1 k2 k3 k4 k5 k6
  go_wp2
  apply cut_here
  · intro CUT2
    go_region_law (first
      | (go_simp; go_at_call 65; ((with_reducible refine (C3.out _ (by repeat' (first | (with_reducible exact Below.refl _ _) | (with_reducible assumption) | (with_reducible refine Below.drew ?_) | (with_reducible refine Below.more ?_ _) | (with_reducible refine Below.put ?_ ?_ _) | (with_reducible refine Below.next ?_ (by with_reducible assumption)) | (with_reducible exact Nat.le_refl _) | (with_reducible refine Below.size' ?_) | omega))).mono ?_); rintro e w5 ⟨x3, y3, rfl, hnear3, hcan3, hown3, hlt3, hbq3⟩; have K3 := Lib.hid (And.intro hnear3 (And.intro hcan3 (And.intro hown3 hlt3))); clear hnear3 hcan3 hown3 hlt3; have B5 := Lib.hid (B4.out.drew.next (by simp) hbq3); have Z5 := Lib.hid (Z4.out.drew.next (by simp) hbq3); obtain ⟨⟨kp0, kp1, kp2, kp3, kp4, kp5, kp6⟩, ⟨zp0, zp1, zp2, zp3, zp4, zp5, zp6⟩, zzp⟩ := B5.out.st; simp only at kp0 kp1 kp2 kp3 kp4 kp5 kp6))
      | (go_simp; go_at_call 66; ((with_reducible refine (C4.out _ (by repeat' (first | (with_reducible exact Below.refl _ _) | (with_reducible assumption) | (with_reducible refine Below.drew ?_) | (with_reducible refine Below.more ?_ _) | (with_reducible refine Below.put ?_ ?_ _) | (with_reducible refine Below.next ?_ (by with_reducible assumption)) | (with_reducible exact Nat.le_refl _) | (with_reducible refine Below.size' ?_) | omega))).mono ?_); rintro e w6 ⟨x4, y4, rfl, hnear4, hcan4, hown4, hlt4, hbq4⟩; have K4 := Lib.hid (And.intro hnear4 (And.intro hcan4 (And.intro hown4 hlt4))); clear hnear4 hcan4 hown4 hlt4; clear kp0 zp0 kp1 zp1 kp2 zp2 kp3 zp3 kp4 zp4 kp5 zp5 kp6 zp6 zzp; have B6 := Lib.hid (B5.out.next (by simp) hbq4); have Z6 := Lib.hid (Z5.out.next (by simp) hbq4); obtain ⟨⟨kq0, kq1, kq2, kq3, kq4, kq5, kq6⟩, ⟨zq0, zq1, zq2, zq3, zq4, zq5, zq6⟩, zzq⟩ := B6.out.st; simp only at kq0 kq1 kq2 kq3 kq4 kq5 kq6)))
    all_goals
      obtain ⟨w7, hw7⟩ : ∃ x, x = (w6.setCell ⟨w.heap.size, 5, none⟩ (.slice x3 ss.length y3)).setCell ⟨w.heap.size, 6, none⟩ (.slice x4 ds.length y4) := ⟨_, rfl⟩
      rw [← hw7]
      have B7 := Lib.hid (show Box w7 w.heap.size (Raw.cells ⟨term, stamp, next, ⟨x1, ts.length, y1⟩, ⟨x2, ls.length, y2⟩, ⟨x3, ss.length, y3⟩, ⟨x4, ds.length, y4⟩⟩) by rw [hw7]; exact (B6.out.set (i := 5) (by simp) _).set (i := 6) (by simp) _)
      have Z7 := Lib.hid (show Box w7 (w.heap.size + 1) (Raw.cells ⟨0, 0, 0, ⟨none, 0, 0⟩, ⟨none, 0, 0⟩, ⟨none, 0, 0⟩, ⟨none, 0, 0⟩⟩) by rw [hw7]; exact (Z6.out.far (by simp) _).far (by simp) _)
      have M7 := Lib.hid (show Mid (w.heap.size + 1) w6.heap.size w6 w7 by rw [hw7]; exact ((Mid.refl _ _ _).setCell _ _ (.inl (by simp))).setCell _ _ (.inl (by simp)))
      have b67 : Below w.heap.size w6 w7 := by rw [hw7]; exact ((Below.refl w.heap.size w6).setCell (p := ⟨w.heap.size, 5, none⟩) (Nat.le_refl w.heap.size) _).setCell (p := ⟨w.heap.size, 6, none⟩) (Nat.le_refl w.heap.size) _
      have b7 : Below w.heap.size w w7 := Below.trans (show Below w.heap.size w w6 from (by repeat' (first | (with_reducible exact Below.refl _ _) | (with_reducible assumption) | (with_reducible refine Below.drew ?_) | (with_reducible refine Below.more ?_ _) | (with_reducible refine Below.put ?_ ?_ _) | (with_reducible refine Below.next ?_ (by with_reducible assumption)) | (with_reducible exact Nat.le_refl _) | (with_reducible refine Below.size' ?_) | omega))) b67
      clear hw7 kq0 zq0 kq1 zq1 kq2 zq2 kq3 zq3 kq4 zq4 kq5 zq5 kq6 zq6 zzq
      revert b7
      revert M7
      revert Z7
      revert B7
      revert K4
      revert hbq4
      revert K3
      revert hbq3
      revert y4
      revert x4
      revert y3
      revert x3
      clear B5 Z5 B6 Z6 b67
      revert w7
      revert w6
      revert w5
      exact CUT2.out
  clear k0 k1 k2 k3 k4 k5 k6 z0 z1 z2 z3 z4 z5 z6 zz
  intro w5 w6 w7 x3 y3 x4 y4 hbq3 K3 hbq4 K4 B7 Z7 M7 b7
  go_wp2_with (first
    | (refine wpList_load_as laySt rfl (.tmp 1) rfl w.heap.size 0 rfl ⟨term, stamp, next, ⟨x1, ts.length, y1⟩, ⟨x2, ls.length, y2⟩, ⟨x3, ss.length, y3⟩, ⟨x4, ds.length, y4⟩⟩ (.agg #[.int .i64 term, .int .i64 stamp, .int .i64 next, .slice x1 ts.length y1, .slice x2 ls.length y2, .slice x3 ss.length y3, .slice x4 ds.length y4]) rfl B7.out.range ?_)
    | (refine wpList_store_keep laySt rfl (.tmp 2) (.tmp 19) rfl (w.heap.size + 1) 0 ⟨term, stamp, next, ⟨x1, ts.length, y1⟩, ⟨x2, ls.length, y2⟩, ⟨x3, ss.length, y3⟩, ⟨x4, ds.length, y4⟩⟩ rfl rfl Z7.out.there ?_; intro w8 hr8 ht8 hb8 hs8 hk8))
  obtain ⟨c0, c1, c2, c3, c4, c5, c6⟩ := cellsSt0 hr8
  refine bodyPost_ret (v := .agg #[.int .i64 term, .int .i64 stamp, .int .i64 next, .slice x1 ts.length y1, .slice x2 ls.length y2, .slice x3 ss.length y3, .slice x4 ds.length y4]) (by simp [results, Try.results31, go_sem, c0, c1, c2, c3, c4, c5, c6]) rfl ?_
  exact copy_fin K1.out K2.out K3.out K4.out (by simp) hbq1 hbq2 M4.out hbq3 hbq4 M7.out hk8 hs8 (b7.trans (hb8 w.heap.size (Nat.le_succ _)))
end Go.Proofs.Ytoofmofaimdhpaa

namespace Go.Proofs.Ytoofmofaimdhpaa
open Go.ChangeShapes Go.WideShapes Go.ChangeAt Go.RowKit
set_option maxRecDepth 100000

/-- more's closure, where the product is not too great. -/
theorem more1_any (b : Int) (n k : Nat) (bn bk : Nat) (w : World) (hn : n ≤ 1000000) (hk : k ≤ 1099511627776) (hcn : w.cell? ⟨bn, 0, none⟩ = some (.int .i64 n)) (hck : w.cell? ⟨bk, 0, none⟩ = some (.int .i64 k)) :
    Calls Try.prog 100 #[.int .i64 b, .pointer (some ⟨bn, 0, none⟩), .pointer (some ⟨bk, 0, none⟩)] w fun e w' => e = .returned (.int .i64 (broughtI b 0 2305843009213693952 + ((n * k : Nat) : Int))) ∧ Below w.heap.size w w' := by
  have hp : n * k ≤ 1000000 * 1099511627776 := Nat.mul_le_mul hn hk
  have hq : n * k / 18446744073709551616 = 0 := by omega
  have hr : n * k % 18446744073709551616 = n * k := by omega
  have hm := mul64_any n k (by omega) (by omega) w
  rw [hq, hr] at hm
  have HM := Lib.hid hm
  obtain ⟨h1, h2⟩ := broughtI_range b 0 2305843009213693952 (by omega)
  have HB := Lib.hid (brought_any b 0 2305843009213693952 w)
  generalize broughtI b 0 2305843009213693952 = z at h1 h2 HB ⊢
  generalize hpn : n * k = p at HM hp ⊢
  clear hm hq hr hpn
  go_enter Try.func100, Try.ntmps100
  go_wp2_with (first
    | (go_at_call 101; ((with_reducible refine HM.out.mono ?_); rintro e w' ⟨rfl, rfl⟩))
    | (go_at_call 86; ((with_reducible refine HB.out.mono ?_); rintro e w' ⟨rfl, rfl⟩)))
  go_returns
  exact ⟨rfl, Below.refl _ _⟩
theorem enter_more1 (args : Array Value) (w : World) : (callFunc 100 args).run Try.prog w = .ok (.enter 100 args) w := by kernel_rfl

def RetMore (w : World) (n k : Int) (e : Ending) (w' : World) : Prop := e = .returned (.func (.func 100) #[] #[.pointer (some ⟨w.heap.size, 0, none⟩), .pointer (some ⟨w.heap.size + 1, 0, none⟩)]) ∧
  (∀ w'', Below w'.heap.size w' w'' → w''.cell? ⟨w.heap.size, 0, none⟩ = some (.int .i64 n) ∧ w''.cell? ⟨w.heap.size + 1, 0, none⟩ = some (.int .i64 k)) ∧ Below w.heap.size w w'
theorem more_any (n k : Int) (w : World) : Calls Try.prog 85 #[.int .i64 n, .int .i64 k] w (RetMore w n k) := by
  go_enter Try.func85, Try.ntmps85
  go_wp2
  go_returns
  refine ⟨rfl, fun w'' hb => ⟨?_, ?_⟩, (by repeat' (first | (with_reducible exact Below.refl _ _) | (with_reducible assumption) | (with_reducible refine Below.drew ?_) | (with_reducible refine Below.more ?_ _) | (with_reducible refine Below.put ?_ ?_ _) | (with_reducible refine Below.next ?_ (by with_reducible assumption)) | (with_reducible exact Nat.le_refl _) | (with_reducible refine Below.size' ?_) | omega))⟩
  · rw [hb.cell (p := ⟨w.heap.size, 0, none⟩) (by simp; omega), World.cell?_alloc_past _ _ _ (by simp)]; exact World.cell?_alloc_at _ _ _ 0 rfl
  · rw [hb.cell (p := ⟨w.heap.size + 1, 0, none⟩) (by simp)]
    exact World.cell?_alloc_at #[.int .i64 k] 3 (w.heap.size + 1) 0 (by simp)
end Go.Proofs.Ytoofmofaimdhpaa

namespace Go.Proofs.Ytoofmofaimdhpaa
open Go.ChangeShapes Go.WideShapes Go.ChangeAt Go.RowKit
set_option maxRecDepth 100000

/-- steps: two of them. -/
theorem steps_any (b b1 b2 : Int) (g : Nat) (f1 f2 : FuncId) (c1 c2 : Array Value) (w : World)
    (h0 : w.cell? ⟨g, 0, none⟩ = some (.func (.func f1) #[] c1)) (h1 : w.cell? ⟨g, 1, none⟩ = some (.func (.func f2) #[] c2))
    (he1 : ∀ (args : Array Value) (w : World), (callFunc f1 args).run Try.prog w = .ok (.enter f1 args) w) (he2 : ∀ (args : Array Value) (w : World), (callFunc f2 args).run Try.prog w = .ok (.enter f2 args) w)
    (hf1 : ∀ w', Below w.heap.size w w' → Calls Try.prog f1 (#[.int .i64 b] ++ c1) w' fun e w'' => e = .returned (.int .i64 b1) ∧ Below w'.heap.size w' w'')
    (hf2 : ∀ w', Below w.heap.size w w' → Calls Try.prog f2 (#[.int .i64 b1] ++ c2) w' fun e w'' => e = .returned (.int .i64 b2) ∧ Below w'.heap.size w' w'') :
    Calls Try.prog 84 #[.int .i64 b, .slice (some ⟨g, 0, none⟩) 2 2] w fun e w' => e = .returned (.int .i64 b2) ∧ Below w.heap.size w w' := by
  have hlt := World.block_lt_of_cell? w _ h0
  simp only at hlt
  have HF1 := Lib.hid hf1
  have HF2 := Lib.hid hf2
  have H0 := Lib.hid h0
  have H1 := Lib.hid h1
  clear hf1 hf2 h0 h1
  go_enter Try.func84, Try.ntmps84
  go_wp2
  go_loopw [0, 9] (fun v i wr => ∃ k : Nat, k ≤ 2 ∧ i = .int .i64 k ∧ v = .int .i64 (if k = 0 then b else if k = 1 then b1 else b2) ∧ Below w.heap.size w wr) (fun _ i _ => 2 - (intOf i).toNat)
  case atStart => exact ⟨0, by omega, rfl, rfl, Below.refl _ _⟩
  case round =>
    obtain ⟨k, hk, rfl, rfl, hb⟩ := hrel
    have hc0 := (hb.cell (p := ⟨g, 0, none⟩) hlt).trans H0.out
    have hc1 := (hb.cell (p := ⟨g, 1, none⟩) hlt).trans H1.out
    by_cases e0 : k = 0
    · subst e0
      go_wp2_with (refine (HF1.out wr hb).mono ?_; rintro e w2 ⟨rfl, hb2⟩)
      go_roundw
      case rel => exact ⟨1, by omega, rfl, rfl, hb.trans (hb2.mono hb.size)⟩
      case measure => simp [intOf]
    · by_cases e1 : k = 1
      · subst e1
        go_wp2_with (refine (HF2.out wr hb).mono ?_; rintro e w2 ⟨rfl, hb2⟩)
        go_roundw
        case rel => exact ⟨2, by omega, rfl, rfl, hb.trans (hb2.mono hb.size)⟩
        case measure => simp [intOf]
      · obtain rfl : k = 2 := by omega
        go_wp2
        go_returns
        exact ⟨rfl, hb⟩

theorem cut1_any (b burst out : Int) (bb bo : Nat) (w : World) (hb : w.cell? ⟨bb, 0, none⟩ = some (.int .i64 burst)) (ho : w.cell? ⟨bo, 0, none⟩ = some (.int .i64 out)) :
    Calls Try.prog 87 #[.int .i64 b, .pointer (some ⟨bb, 0, none⟩), .pointer (some ⟨bo, 0, none⟩)] w fun e w' => e = .returned (.int .i64 (cutI b burst out)) ∧ Below w.heap.size w w' := by
  go_enter Try.func87, Try.ntmps87
  go_wp2_with (go_at_call 88; ((with_reducible refine (cut_any _ _ _ _).mono ?_); rintro e w' ⟨rfl, rfl⟩))
  go_returns
  exact ⟨rfl, Below.refl _ _⟩
theorem cut2_any (b burst out : Int) (bb bo : Nat) (w : World) (hb : w.cell? ⟨bb, 0, none⟩ = some (.int .i64 burst)) (ho : w.cell? ⟨bo, 0, none⟩ = some (.int .i64 out)) :
    Calls Try.prog 90 #[.int .i64 b, .pointer (some ⟨bb, 0, none⟩), .pointer (some ⟨bo, 0, none⟩)] w fun e w' => e = .returned (.int .i64 (cutI b burst out)) ∧ Below w.heap.size w w' := by
  go_enter Try.func90, Try.ntmps90
  go_wp2_with (go_at_call 88; ((with_reducible refine (cut_any _ _ _ _).mono ?_); rintro e w' ⟨rfl, rfl⟩))
  go_returns
  exact ⟨rfl, Below.refl _ _⟩
theorem enter_cut1 (args : Array Value) (w : World) : (callFunc 87 args).run Try.prog w = .ok (.enter 87 args) w := by kernel_rfl
theorem enter_cut2 (args : Array Value) (w : World) : (callFunc 90 args).run Try.prog w = .ok (.enter 90 args) w := by kernel_rfl
end Go.Proofs.Ytoofmofaimdhpaa

namespace Go.Proofs.Ytoofmofaimdhpaa
open Go.ChangeShapes Go.WideShapes Go.ChangeAt Go.RowKit
set_option maxRecDepth 100000

theorem two_boxes (w : World) (x y : Int) (w' : World) (hb : Below ((w.alloc (.cells #[.int .i64 x] 3)).alloc (.cells #[.int .i64 y] 3)).heap.size ((w.alloc (.cells #[.int .i64 x] 3)).alloc (.cells #[.int .i64 y] 3)) w') :
    w'.cell? ⟨w.heap.size, 0, none⟩ = some (.int .i64 x) ∧ w'.cell? ⟨w.heap.size + 1, 0, none⟩ = some (.int .i64 y) := ⟨by
    rw [hb.cell (p := ⟨w.heap.size, 0, none⟩) (by simp; omega), World.cell?_alloc_past _ _ _ (by simp)]; exact World.cell?_alloc_at _ _ _ 0 rfl, by
    rw [hb.cell (p := ⟨w.heap.size + 1, 0, none⟩) (by simp)]
    exact World.cell?_alloc_at #[.int .i64 y] 3 (w.heap.size + 1) 0 (by simp)⟩
theorem two_fns {w : World} (f1 f2 : Value) (t : TypeId) : (w.alloc (.cells #[f1, f2] t)).cell? ⟨w.heap.size, 0, none⟩ = some f1 ∧ (w.alloc (.cells #[f1, f2] t)).cell? ⟨w.heap.size, 1, none⟩ = some f2 := ⟨World.cell?_alloc_at _ _ _ 0 rfl, World.cell?_alloc_at _ _ _ 1 rfl⟩
theorem mid_alloc {w w' : World} {o : Obj} (hb : Below (w.alloc o).heap.size (w.alloc o) w') : Below w.heap.size w w' := ((Below.refl w.heap.size w).alloc (Nat.le_refl _) o).trans (hb.mono (by simp))

set_option maxHeartbeats 1000000 in
theorem credit_any (b rate burst out ticks : Int) (w : World) : Calls Try.prog 50 #[.int .i64 b, .int .i64 rate, .int .i64 burst, .int .i64 out, .int .i64 ticks] w fun e w' => e = .returned (.int .i64 (creditI b rate burst out ticks)) ∧ Below w.heap.size w w' := by
  obtain ⟨hr1, hr2⟩ := broughtI_range rate 0 1000000 (by omega)
  obtain ⟨ht1, ht2⟩ := broughtI_range ticks 0 1099511627776 (by omega)
  have hmf : ∀ (fn : Fn) (first cap : Array Value) (w : World), (Instr.makeFunc fn first cap).run Try.prog w = .ok (.func fn first cap) w := fun _ _ _ _ => rfl
  have HBR := Lib.hid (brought_any rate 0 1000000)
  have HBT := Lib.hid (brought_any ticks 0 1099511627776)
  have HC : Hid (creditI b rate burst out ticks = cutI (broughtI b 0 2305843009213693952 + broughtI rate 0 1000000 * broughtI ticks 0 1099511627776) burst out) := rfl
  generalize creditI b rate burst out ticks = res at HC ⊢
  generalize broughtI rate 0 1000000 = n at hr1 hr2 HBR HC
  generalize broughtI ticks 0 1099511627776 = k at ht1 ht2 HBT HC
  obtain ⟨n, rfl⟩ := Int.eq_ofNat_of_zero_le hr1
  obtain ⟨k, rfl⟩ := Int.eq_ofNat_of_zero_le ht1
  have HB0 := Lib.hid (two_boxes w burst out)
  have HE : Hid (cutI (broughtI b 0 2305843009213693952 + ((n * k : Nat) : Int)) burst out = res) := by show _ = _; rw [HC.out]; simp
  have hn : n ≤ 1000000 := by omega
  have hk : k ≤ 1099511627776 := by omega
  have HNK := Lib.hid (And.intro hn hk)
  clear HC hr1 ht1 hr2 ht2 hn hk
  go_enter Try.func50, Try.ntmps50
  go_wp2_with (first
    | (go_at_call 86; ((with_reducible refine (HBR.out _).mono ?_); rintro e w' ⟨rfl, rfl⟩))
    | (go_at_call 86; ((with_reducible refine (HBT.out _).mono ?_); rintro e w' ⟨rfl, rfl⟩))
    | (go_at_call 85; ((with_reducible refine (more_any _ _ _).mono ?_); rintro e w2 ⟨rfl, hc2, hb2⟩; simp only [World.size_alloc] at hc2; have HC2 := Lib.hid hc2; have HB2 := Lib.hid (fun w' hb => HB0.out w' (hb2.trans (Below.mono hb hb2.size))); clear hc2))
    | (go_at_call 84; ((with_reducible refine (steps_any b (broughtI b 0 2305843009213693952 + ((n * k : Nat) : Int)) (cutI (broughtI b 0 2305843009213693952 + ((n * k : Nat) : Int)) burst out) w2.heap.size 100 87 _ _ _ (two_fns _ _ _).1 (two_fns _ _ _).2 enter_more1 enter_cut1
        (fun w' hb => more1_any b n k _ _ w' HNK.out.1 HNK.out.2 (HC2.out w' (mid_alloc hb)).1 (HC2.out w' (mid_alloc hb)).2) (fun w' hb => cut1_any _ burst out _ _ w' (HB2.out w' (mid_alloc hb)).1 (HB2.out w' (mid_alloc hb)).2)).mono ?_); rw [HE.out]; rintro e w3 ⟨rfl, hb3⟩)))
  go_returns
  exact ⟨rfl, (by repeat' (first | (with_reducible exact Below.refl _ _) | (with_reducible assumption) | (with_reducible refine Below.drew ?_) | (with_reducible refine Below.more ?_ _) | (with_reducible refine Below.put ?_ ?_ _) | (with_reducible refine Below.next ?_ (by with_reducible assumption)) | (with_reducible exact Nat.le_refl _) | (with_reducible refine Below.size' ?_) | omega))⟩

set_option maxHeartbeats 1000000 in
theorem back_any (b burst out size : Int) (w : World) : Calls Try.prog 55 #[.int .i64 b, .int .i64 burst, .int .i64 out, .int .i64 size] w fun e w' => e = .returned (.int .i64 (backI b burst out size)) ∧ Below w.heap.size w w' := by
  obtain ⟨ht1, ht2⟩ := broughtI_range size 0 1000000 (by omega)
  have hmf : ∀ (fn : Fn) (first cap : Array Value) (w : World), (Instr.makeFunc fn first cap).run Try.prog w = .ok (.func fn first cap) w := fun _ _ _ _ => rfl
  have HBT := Lib.hid (brought_any size 0 1000000)
  have HC : Hid (backI b burst out size = cutI (broughtI b 0 2305843009213693952 + 1000 * broughtI size 0 1000000) burst out) := rfl
  generalize backI b burst out size = res at HC ⊢
  generalize broughtI size 0 1000000 = k at ht1 ht2 HBT HC
  obtain ⟨k, rfl⟩ := Int.eq_ofNat_of_zero_le ht1
  have HB0 := Lib.hid (two_boxes w burst out)
  have HE : Hid (cutI (broughtI b 0 2305843009213693952 + ((1000 * k : Nat) : Int)) burst out = res) := by show _ = _; rw [HC.out]; simp
  have hk : k ≤ 1099511627776 := by omega
  have HNK := Lib.hid hk
  clear HC ht1 ht2 hk
  go_enter Try.func55, Try.ntmps55
  go_wp2_with (first
    | (go_at_call 86; ((with_reducible refine (HBT.out _).mono ?_); rintro e w' ⟨rfl, rfl⟩))
    | (go_at_call 85; ((with_reducible refine (more_any _ _ _).mono ?_); rintro e w2 ⟨rfl, hc2, hb2⟩; simp only [World.size_alloc] at hc2; have HC2 := Lib.hid hc2; have HB2 := Lib.hid (fun w' hb => HB0.out w' (hb2.trans (Below.mono hb hb2.size))); clear hc2))
    | (go_at_call 84; ((with_reducible refine (steps_any b (broughtI b 0 2305843009213693952 + ((1000 * k : Nat) : Int)) (cutI (broughtI b 0 2305843009213693952 + ((1000 * k : Nat) : Int)) burst out) w2.heap.size 100 90 _ _ _ (two_fns _ _ _).1 (two_fns _ _ _).2 enter_more1 enter_cut2
        (fun w' hb => more1_any b 1000 k _ _ w' (by omega) HNK.out (HC2.out w' (mid_alloc hb)).1 (HC2.out w' (mid_alloc hb)).2) (fun w' hb => cut2_any _ burst out _ _ w' (HB2.out w' (mid_alloc hb)).1 (HB2.out w' (mid_alloc hb)).2)).mono ?_); rw [HE.out]; rintro e w3 ⟨rfl, hb3⟩)))
  go_returns
  exact ⟨rfl, (by repeat' (first | (with_reducible exact Below.refl _ _) | (with_reducible assumption) | (with_reducible refine Below.drew ?_) | (with_reducible refine Below.more ?_ _) | (with_reducible refine Below.put ?_ ?_ _) | (with_reducible refine Below.next ?_ (by with_reducible assumption)) | (with_reducible exact Nat.le_refl _) | (with_reducible refine Below.size' ?_) | omega))⟩
end Go.Proofs.Ytoofmofaimdhpaa

/- One cell of a thing in a row of the call's own. -/
namespace Go.Proofs.Ytoofmofaimdhpaa
open Go.ChangeShapes Go.WideShapes Go.ChangeAt Go.RowKit
set_option maxRecDepth 100000

section
variable {P : Program} {e : TypeId} {α : Type} {L : Lay P e α}
theorem flatMap_setOne {xs : List α} {k r : Nat} {v : Value} {z : α} (hk : k < xs.length) (hr : r < L.size) (hz : L.cells z = (L.cells xs[k]).set r v) : (xs.set k z).flatMap L.cells = (xs.flatMap L.cells).set (k * L.size + r) v := by
  have hp := L.pos
  refine List.ext_getElem? fun j => ?_
  have hjj : j / L.size * L.size + j % L.size = j := by rw [Nat.mul_comm]; exact Nat.div_add_mod j L.size
  have hj : j % L.size < L.size := Nat.mod_lt _ hp
  have h1 := L.at (xs.set k z) (k := j / L.size) hj
  have h2 := L.at xs (k := j / L.size) hj
  rw [hjj] at h1 h2
  rw [h1]
  by_cases e1 : j / L.size = k
  · rw [e1, List.getElem?_set_self hk, Option.bind_some, hz]
    rw [e1, List.getElem?_eq_getElem hk, Option.bind_some] at h2
    by_cases e2 : j % L.size = r
    · have hji : k * L.size + r = j := by rw [← e1, ← e2]; exact hjj
      have hlt : j < (xs.flatMap L.cells).length := by
        rw [L.length, ← hji]
        have := Nat.mul_le_mul_right L.size (Nat.succ_le_of_lt hk)
        rw [Nat.succ_mul] at this; omega
      rw [e2, hji, List.getElem?_set_self (by rw [L.len]; exact hr), List.getElem?_set_self hlt]
    · rw [List.getElem?_set_ne (fun h => e2 h.symm), List.getElem?_set_ne (fun h => e2 (by rw [← h, Nat.mul_comm, Nat.mul_add_mod, Nat.mod_eq_of_lt hr])), h2]
  · rw [List.getElem?_set_ne (fun h => e1 h.symm), ← h2, List.getElem?_set_ne]
    intro h
    apply e1
    rw [← h, Nat.mul_comm, Nat.mul_add_div hp, Nat.div_eq_of_lt hr]; rfl
theorem Mine.box {w : World} {B g : Nat} {xs : List α} (h : Mine L w B g 0 xs) : Box w g (xs.flatMap L.cells) := ⟨h.2.1, by rw [L.length]; exact h.2.2⟩
theorem Mine.of_box {w : World} {B g : Nat} {xs : List α} (hB : B ≤ g) (h : Box w g (xs.flatMap L.cells)) : Mine L w B g 0 xs := ⟨hB, h.range, by have := h.there; rw [L.length] at this; exact this⟩
theorem Mine.block {w w' : World} {B g : Nat} {xs : List α} (h : Mine L w B g 0 xs) (hg : w'.heap[g]? = w.heap[g]?) : Mine L w' B g 0 xs := .of_box h.1 (h.box.block hg)
/-- The write of one cell. -/
theorem wpList_store_cellM {ops : Array Oper} {rest : List Oper} {op : Oper} {a : Act} {w : World} {Q : Exit → Act → World → Prop} {t : TypeId} (hgd : op.guard = none) (x y : Operand) (ho : op.op = .store t x y) (hi : (P.info? t).map (·.size) = some 1)
    {B g : Nat} {xs : List α} (hm : Mine L w B g 0 xs) (k : Nat) (hk : k < xs.length) (r : Nat) (hr : r < L.size) (v : Value) (z : α) (hz : L.cells z = (L.cells xs[k]).set r v) (hx : a.eval x = .pointer (some ⟨g, k * L.size + r, none⟩)) (hy : a.eval y = v) (hv : v.cells = #[v]) (h1 : v.oneCell' = true)
    (h : ∀ w', Mine L w' B g 0 (xs.set k z) → Wrote g w w' → wpList P ops Q rest (a.put op.dst undef) w') : wpList P ops Q (op :: rest) a w := by
  have hlt : k * L.size + r < (xs.flatMap L.cells).length := by
    rw [L.length]
    have := Nat.mul_le_mul_right L.size (Nat.succ_le_of_lt hk)
    rw [Nat.succ_mul] at this; omega
  refine wpList_store_field hgd x y ho hi g (k * L.size + r) _ v hx hy hv h1 hm.box hlt fun w' hb hw => h w' (.of_box hm.1 ?_) hw
  rw [flatMap_setOne hk hr hz]; exact hb
theorem Only.wrote {g : Nat} {w w' w'' : World} (h : Only g w w') (hw : Wrote g w' w'') : Only g w w'' := h.put hw.below hw.keep
end
end Go.Proofs.Ytoofmofaimdhpaa

namespace Go.Proofs.Ytoofmofaimdhpaa
open Go.ChangeShapes Go.WideShapes Go.ChangeAt Go.RowKit
set_option maxRecDepth 100000

theorem whole_any (b : Int) (w : World) (hb : b ≤ 1000000000) : Calls Try.prog 68 #[.int .i64 b] w fun e w' => e = .returned (.int .i64 (max b 0 / 1000)) ∧ w = w' := by
  by_cases h0 : 0 ≤ b
  · have h2 : b.tdiv 1000 = b / 1000 := Int.tdiv_eq_ediv_of_nonneg h0
    go_enter Try.func68, Try.ntmps68
    go_wp2
    go_returns
    exact ⟨ret_int (by omega), rfl⟩
  · go_enter Try.func68, Try.ntmps68
    go_wp2
    go_returns
    exact ⟨ret_int (by omega), rfl⟩
theorem refwhole_any (b : Int) (w : World) (hb : b ≤ 1000000000) : Calls Try.prog 70 #[.int .i64 b] w fun e w' => e = .returned (.int .i64 (max b 0 / 1000)) ∧ w = w' := by
  by_cases h0 : 0 ≤ b
  · have h2 : b.tdiv 1000 = b / 1000 := Int.tdiv_eq_ediv_of_nonneg h0
    go_enter Try.func70, Try.ntmps70
    go_wp2
    go_returns
    exact ⟨ret_int (by omega), rfl⟩
  · go_enter Try.func70, Try.ntmps70
    go_wp2
    go_returns
    exact ⟨ret_int (by omega), rfl⟩
def RetTwo (w : World) (r : Int × Int) (e : Ending) (w' : World) : Prop := e = .returned (.tuple #[.int .i64 r.1, .int .i64 r.2]) ∧ Below w.heap.size w w'
theorem take_any (b size : Int) (w : World) (h0 : 0 ≤ b) (h1 : b ≤ 1000000000) : Calls Try.prog 33 #[.int .i64 b, .int .i64 size] w (RetTwo w (takeI b size)) := by
  have HW := Lib.hid (whole_any b w h1)
  have HT : Hid (takeI b size = if size < 0 ∨ max b 0 / 1000 < size then (0, 170) else (b - 1000 * size, 0)) := rfl
  generalize takeI b size = res at HT ⊢
  have hq : 0 ≤ max b 0 / 1000 ∧ max b 0 / 1000 ≤ 1000000 ∧ 1000 * (max b 0 / 1000) ≤ max b 0 := by omega
  generalize max b 0 / 1000 = q at HW HT hq
  obtain ⟨hq1, hq2, hq3⟩ := hq
  go_each [size < 0, q < size] => (
    go_enter Try.func33, Try.ntmps33
    go_wp2_with (go_at_call 68; ((with_reducible refine HW.out.mono ?_); rintro e w' ⟨rfl, rfl⟩))
    go_returns
    unfold RetTwo
    rw [HT.out]
    first
      | (rw [if_pos (by omega)]; exact ⟨rfl, Below.refl _ _⟩)
      | (rw [if_neg (by omega)]; exact ⟨rfl, Below.refl _ _⟩))
theorem reftake_any (b size : Int) (w : World) (h0 : 0 ≤ b) (h1 : b ≤ 1000000000) : Calls Try.prog 36 #[.int .i64 b, .int .i64 size] w (RetTwo w (takeI b size)) := by
  have HW := Lib.hid (refwhole_any b w h1)
  have HT : Hid (takeI b size = if size < 0 ∨ max b 0 / 1000 < size then (0, 170) else (b - 1000 * size, 0)) := rfl
  generalize takeI b size = res at HT ⊢
  have hq : 0 ≤ max b 0 / 1000 ∧ max b 0 / 1000 ≤ 1000000 ∧ 1000 * (max b 0 / 1000) ≤ max b 0 := by omega
  generalize max b 0 / 1000 = q at HW HT hq
  obtain ⟨hq1, hq2, hq3⟩ := hq
  go_each [size < 0, q < size] => (
    go_enter Try.func36, Try.ntmps36
    go_wp2_with (go_at_call 70; ((with_reducible refine HW.out.mono ?_); rintro e w' ⟨rfl, rfl⟩))
    go_returns
    unfold RetTwo
    rw [HT.out]
    first
      | (rw [if_pos (by omega)]; exact ⟨rfl, Below.refl _ _⟩)
      | (rw [if_neg (by omega)]; exact ⟨rfl, Below.refl _ _⟩))
end Go.Proofs.Ytoofmofaimdhpaa

/- What grants, reports, expiries and credits do to a state that may be. Plain mathematics. -/
namespace Go.Proofs.Ytoofmofaimdhpaa

theorem stOk_parts {s : St} (h : stOk s = true) : tensOk 0 s.tens = true ∧ leasOk s.tens s.next s.leas = true ∧ (s.leas.length ≤ 64 ∧ 1 ≤ s.next ∧ s.next ≤ 1099511627776) ∧ ∀ x ∈ s.tens, tenRoom s.leas x = true := by
  unfold stOk at h
  simp only [Bool.and_eq_true, decide_eq_true_eq] at h
  exact ⟨h.1.1, h.1.2.1, h.1.2.2, List.all_eq_true.1 h.2⟩
theorem stOk_mk {s : St} (h1 : tensOk 0 s.tens = true) (h2 : leasOk s.tens s.next s.leas = true) (h3 : s.leas.length ≤ 64 ∧ 1 ≤ s.next ∧ s.next ≤ 1099511627776) (h4 : ∀ x ∈ s.tens, tenRoom s.leas x = true) : stOk s = true := by
  unfold stOk
  rw [h1, h2, decide_eq_true h3, List.all_eq_true.2 h4]; rfl
/-- The one of a number, in a row whose numbers rise. -/
theorem findO_of_mem {ts : List Tenant} {x : Tenant} (h : ts.Pairwise (fun x y => x.id < y.id)) (hx : x ∈ ts) : findO ts x.id = some x := by
  unfold findO
  induction ts with
  | nil => cases hx
  | cons y l ih =>
    rw [List.pairwise_cons] at h
    rw [List.find?_cons]
    rcases List.mem_cons.1 hx with rfl | hx
    · simp
    · have h1 := h.1 x hx
      have : (y.id == x.id) = false := by simp; omega
      rw [this]; exact ih h.2 hx
theorem findO_filter {ts : List Tenant} {q : Tenant → Bool} {id : Int} (h : ts.Pairwise (fun x y => x.id < y.id)) :
    findO (ts.filter q) id = match findO ts id with | some x => if q x = true then some x else none | none => none := by
  cases hf : findO ts id with
  | none =>
    unfold findO at hf ⊢
    rw [List.find?_eq_none] at hf ⊢
    exact fun x hx => hf x (List.mem_filter.1 hx).1
  | some x =>
    obtain ⟨h1, h2⟩ := findO_mem hf
    subst h2
    simp only
    by_cases hq : q x = true
    · rw [if_pos hq]
      exact findO_of_mem (h.sublist List.filter_sublist) (List.mem_filter.2 ⟨h1, hq⟩)
    · rw [if_neg hq]
      unfold findO
      rw [List.find?_eq_none]
      intro y hy hyx
      obtain ⟨h3, h4⟩ := List.mem_filter.1 hy
      have h5 := findO_of_mem h h3
      have h6 : y.id = x.id := by simpa using hyx
      rw [h6] at h5
      rw [findO_of_mem h h1] at h5
      simp only [Option.some.injEq] at h5
      rw [← h5] at h4
      exact hq h4
theorem tensOk_sub {ts : List Tenant} {q : Tenant → Bool} (h : tensOk 0 ts = true) : tensOk 0 (ts.filter q) = true := by
  obtain ⟨h1, h2⟩ := tensOk_iff.1 h
  exact tensOk_iff.2 ⟨fun x hx => h1 x (List.mem_filter.1 hx).1, h2.sublist List.filter_sublist⟩
theorem outOf_outs {ls : List Lease} {id : Int} (h1 : 1 ≤ id) (h2 : id ≤ 16) : outOf (outsL ls) id = outL ls id := by
  unfold outOf outsL
  rw [List.getD_eq_getElem?_getD, List.getElem?_map, List.getElem?_range (by omega)]
  simp only [Option.map_some, Option.getD_some]
  congr 1; omega
theorem swept_tens {s : St} (h : tensOk 0 s.tens = true) : (sweptS s).tens = s.tens.filter (fun x => !goneP (outsL s.leas) x) := by
  unfold sweptS sweepS; rw [if_pos h]
theorem ten_id {ts : List Tenant} {x : Tenant} (h : tensOk 0 ts = true) (hx : x ∈ ts) : 1 ≤ x.id ∧ x.id ≤ 16 := by
  have h1 := (tensOk_iff.1 h).1 x hx
  have h2 := h1.2
  unfold okT at h2
  simp only [Bool.and_eq_true, decide_eq_true_eq] at h2
  omega
theorem gone_zero {ts : List Tenant} {x : Tenant} (h : tensOk 0 ts = true) (hx : x ∈ ts) (hg : x.gone = true) : x.rate = 0 ∧ x.burst = 0 ∧ x.bucket = 0 := by
  have h1 := (tensOk_iff.1 h).1 x hx
  have h2 := h1.2
  unfold okT ask4 at h2
  simp only [Bool.and_eq_true, decide_eq_true_eq, hg, Bool.not_true, Bool.false_or] at h2
  exact h2.2
/-- The bucket of a tenant; 0 where there is none. -/
def buck (ts : List Tenant) (id : Int) : Int := (findT ts id).1.bucket
theorem buck_swept {s : St} (h : tensOk 0 s.tens = true) (id : Int) : buck (sweptS s).tens id = buck s.tens id := by
  unfold buck
  have h' := tensOk_sub (q := fun x => !goneP (outsL s.leas) x) h
  rw [swept_tens h, findT_eq id h', findT_eq id h, findO_filter (tensOk_iff.1 h).2]
  cases hf : findO s.tens id with
  | none => rfl
  | some x =>
    obtain ⟨h1, h2⟩ := findO_mem hf
    simp only
    by_cases hq : (!goneP (outsL s.leas) x) = true
    · rw [if_pos hq]
    · rw [if_neg hq]
      have hg : x.gone = true := by
        unfold goneP at hq
        simp only [Bool.not_eq_true, Bool.not_eq_false', Bool.and_eq_true] at hq
        exact hq.1
      have := gone_zero h h1 hg
      simp [zeroT, this.2.2]
theorem stOk_swept {s : St} (h1 : tensOk 0 s.tens = true) (h2 : leasOk s.tens s.next s.leas = true) (h3 : s.leas.length ≤ 64 ∧ 1 ≤ s.next ∧ s.next ≤ 1099511627776) (h4 : ∀ x ∈ s.tens, tenRoom s.leas x = true) : stOk (sweptS s) = true := by
  have ht := swept_tens h1
  have hfit := leasOk_fits h1 h2
  refine stOk_mk (by rw [ht]; exact tensOk_sub h1) ?_ h3 (fun x hx => h4 x (by rw [ht] at hx; exact (List.mem_filter.1 hx).1))
  obtain ⟨h5, h6⟩ := chainOk_iff.1 h2
  refine chainOk_iff.2 ⟨fun x hx => ⟨(h5 x hx).1, ?_⟩, h6⟩
  have h7 := (h5 x hx).2
  unfold leaGood at h7 ⊢
  simp only [Bool.and_eq_true, decide_eq_true_eq] at h7 ⊢
  refine ⟨?_, h7.2⟩
  have h8 := h7.1
  rw [findT_eq _ h1] at h8
  rw [ht, findT_eq _ (tensOk_sub h1), findO_filter (tensOk_iff.1 h1).2]
  cases hf : findO s.tens x.tenant with
  | none => rw [hf] at h8; cases h8
  | some y =>
    obtain ⟨hy1, hy2⟩ := findO_mem hf
    simp only
    have hid := ten_id h1 hy1
    have hout := outL_mem hfit hx
    have hpos : 0 < outL s.leas x.tenant := by omega
    have hq : (!goneP (outsL s.leas) y) = true := by
      unfold goneP
      rw [outOf_outs hid.1 hid.2, hy2]
      simp; exact .inr hpos
    rw [if_pos hq]
theorem outL_zero {ls : List Lease} {id : Int} (h : ∀ x ∈ ls, x.tenant ≠ id) : outL ls id = 0 := by
  induction ls with
  | nil => rfl
  | cons y l ih =>
    rw [outL, if_neg (h y (List.mem_cons_self ..)), ih fun x hx => h x (List.mem_cons_of_mem _ hx)]; rfl
/-- Leases let go: no more is out than was. -/
theorem outL_filter {ls : List Lease} (q : Lease → Bool) (id : Int) : Fits ls → outL (ls.filter q) id ≤ outL ls id := by
  induction ls with
  | nil => intro _; exact Int.le_refl _
  | cons y l ih =>
    intro h
    have h1 := h y (List.mem_cons_self ..)
    have h2 := ih fun x hx => h x (List.mem_cons_of_mem _ hx)
    rw [List.filter_cons]
    split
    · rw [outL, outL]; split <;> omega
    · rw [outL]; split <;> omega
theorem tenRoom_less {ls ls' : List Lease} {x : Tenant} (h : tenRoom ls x = true) (hle : outL ls' x.id ≤ outL ls x.id) : tenRoom ls' x = true := by
  unfold tenRoom at *
  simp only [decide_eq_true_eq] at *
  intro h1
  have := h h1
  omega
theorem leasOk_filter {ts : List Tenant} {next : Int} {ls : List Lease} (q : Lease → Bool) (h : leasOk ts next ls = true) : leasOk ts next (ls.filter q) = true := by
  obtain ⟨h1, h2⟩ := chainOk_iff.1 h
  exact chainOk_iff.2 ⟨fun x hx => h1 x (List.mem_filter.1 hx).1, h2.sublist List.filter_sublist⟩
/-- Expiry. -/
theorem expire_ok {s : St} (h : stOk s = true) (l : List Int) : stOk (expireS s l) = true ∧ ∀ id, buck (expireS s l).tens id + 1000 * outL (expireS s l).leas id ≤ buck s.tens id + 1000 * outL s.leas id := by
  obtain ⟨h1, h2, h3, h4⟩ := stOk_parts h
  have hfit := leasOk_fits h1 h2
  have he : expireS s l = sweptS { s with leas := s.leas.filter fun x => !l.contains x.id } := by unfold expireS; rw [if_pos h]
  rw [he]
  have hlen := List.length_filter_le (fun x : Lease => !l.contains x.id) s.leas
  refine ⟨stOk_swept h1 (leasOk_filter _ h2) ⟨by show (s.leas.filter fun x => !l.contains x.id).length ≤ 64; omega, h3.2⟩ (fun x hx => tenRoom_less (h4 x hx) (outL_filter _ _ hfit)), fun id => ?_⟩
  rw [buck_swept (s := { s with leas := s.leas.filter fun x => !l.contains x.id }) h1]
  have := outL_filter (fun x : Lease => !l.contains x.id) id hfit
  show buck s.tens id + 1000 * outL (s.leas.filter fun x => !l.contains x.id) id ≤ _
  omega
end Go.Proofs.Ytoofmofaimdhpaa

/- A row of leases with distinct ids: one dropped, one spent. Plain. -/
namespace Go.Proofs.Ytoofmofaimdhpaa

def Rising (l : List Lease) : Prop := l.Pairwise (fun x y => x.id < y.id)
theorem Rising.apart {l : List Lease} (h : Rising l) {i j : Nat} (hi : i < l.length) (hj : j < l.length) (hne : i ≠ j) : l[i].id ≠ l[j].id := by
  have hp := List.pairwise_iff_getElem.1 h
  rcases Nat.lt_or_gt_of_ne hne with h1 | h1
  · have := hp i j hi hj h1; omega
  · have := hp j i hj hi h1; omega
theorem leasOk_rising {ts : List Tenant} {next : Int} {ls : List Lease} (h : leasOk ts next ls = true) : Rising ls := (chainOk_iff.1 h).2
theorem dropL_at : ∀ {l : List Lease} {k : Nat}, Rising l → ∀ hk : k < l.length, dropL l[k].id l = l.eraseIdx k
  | x :: l, 0, h, _ => by
    have h2 := List.pairwise_cons.1 h
    show dropL x.id (x :: l) = l
    unfold dropL
    rw [List.filter_cons, if_neg (by simp)]
    refine List.filter_eq_self.2 fun y hy => ?_
    have := h2.1 y hy
    simp; omega
  | x :: l, k + 1, h, hk => by
    have h2 := List.pairwise_cons.1 h
    have hk' : k < l.length := by simpa using hk
    have hm : l[k] ∈ l := List.getElem_mem hk'
    have h3 := h2.1 _ hm
    have ih := dropL_at (l := l) (k := k) h2.2 hk'
    show dropL l[k].id (x :: l) = x :: l.eraseIdx k
    unfold dropL at ih ⊢
    rw [List.filter_cons, if_pos (by simp; omega), ih]
theorem spendL_none {l : List Lease} {le sp : Int} (h : ∀ y ∈ l, y.id ≠ le) : spendL le sp l = l := by
  unfold spendL
  conv => rhs; rw [← List.map_id l]
  exact List.map_congr_left fun y hy => by rw [if_neg (h y hy)]; rfl
theorem spendL_at : ∀ {l : List Lease} {k : Nat} {sp : Int}, Rising l → ∀ hk : k < l.length, spendL l[k].id sp l = l.set k { l[k] with spent := sp }
  | x :: l, 0, sp, h, _ => by
    have h2 := List.pairwise_cons.1 h
    show spendL x.id sp (x :: l) = { x with spent := sp } :: l
    have := spendL_none (l := l) (le := x.id) (sp := sp) (fun y hy => by have := h2.1 y hy; omega)
    unfold spendL at this ⊢
    rw [List.map_cons, if_pos rfl, this]
  | x :: l, k + 1, sp, h, hk => by
    have h2 := List.pairwise_cons.1 h
    have hk' : k < l.length := by simpa using hk
    have hm : l[k] ∈ l := List.getElem_mem hk'
    have h3 := h2.1 _ hm
    have ih := spendL_at (l := l) (k := k) (sp := sp) h2.2 hk'
    show spendL l[k].id sp (x :: l) = x :: l.set k { l[k] with spent := sp }
    unfold spendL at ih ⊢
    rw [List.map_cons, if_neg (by omega), ih]
end Go.Proofs.Ytoofmofaimdhpaa
