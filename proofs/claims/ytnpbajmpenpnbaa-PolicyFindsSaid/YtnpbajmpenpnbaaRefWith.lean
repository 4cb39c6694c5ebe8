import Derived.Test.YtnpbajmpenpnbaaRefPut
namespace Go.Proofs.Ytnpbajmpenpnbaa
open Go.ChangeShapes Go.WideShapes Go.ChangeAt Go.RowKit

def withStep (x : Tenant) (acc : List Tenant × Bool) (y : Tenant) : List Tenant × Bool :=
  if y.id = x.id then acc else if x.id < y.id ∧ acc.2 = false then (acc.1 ++ [x] ++ [y], true) else (acc.1 ++ [y], acc.2)
def withFold (x : Tenant) (ts : List Tenant) : List Tenant × Bool := ts.foldl (withStep x) ([], false)
def refWithL (x : Tenant) (ts : List Tenant) : List Tenant := if (withFold x ts).2 then (withFold x ts).1 else (withFold x ts).1 ++ [x]
theorem withFold_take {x : Tenant} {ts : List Tenant} {k : Nat} (h : k < ts.length) : withFold x (ts.take (k + 1)) = withStep x (withFold x (ts.take k)) ts[k] := by
  unfold withFold; rw [List.take_succ_eq_append_getElem h, List.foldl_append]; rfl
theorem withFold_len (x : Tenant) : ∀ (ts : List Tenant) (acc : List Tenant × Bool), (ts.foldl (withStep x) acc).1.length ≤ acc.1.length + ts.length * 2
  | [], acc => by simp
  | y :: ts, acc => by
    have := withFold_len x ts (withStep x acc y)
    have h2 : (withStep x acc y).1.length ≤ acc.1.length + 2 := by
      unfold withStep; split
      · omega
      · split <;> simp
    simp only [List.foldl_cons, List.length_cons]
    omega
theorem tcells1 (x : Tenant) : ∀ u ∈ x.cells, u.oneCell' = true := by
  intro u hu; simp at hu; rcases hu with rfl | rfl | rfl | rfl | rfl <;> rfl

set_option maxHeartbeats 2000000 in
theorem refwith_any (ts : List Tenant) (a : Option Addr) (n c : Nat) (x : Tenant) (w : World) (hn : ts.length = n) (hl : ts.length ≤ 1000) (hr : TRow w a ts) :
    Calls Try.prog 31 #[.slice a n c, x.agg] w (RetT w none (refWithL x ts)) := by
  subst hn
  have hx := xcells_at (w := w) (x := x)
  have HX := Lib.hid hx
  clear hx
  have hr1 : TRow (w.alloc (.cells #[.int .i64 x.id, .int .i64 x.rate, .int .i64 x.burst, .int .i64 x.bucket, .bool x.gone] 38)) a ts := Row.alloc hr _
  go_enter Try.func31, Try.ntmps31
  go_wp2
  go_loopw [5, 6, 7] (fun out d i wr => ∃ k : Nat, ∃ a' c' n' l' d', k ≤ ts.length ∧ i = .int .i64 k ∧ withFold x (ts.take k) = (l', d') ∧ l'.length = n' ∧ n' ≤ 2 * k ∧ out = .slice a' n' c' ∧ d = .bool d' ∧ wr.ownsRow (w.alloc (.cells #[.int .i64 x.id, .int .i64 x.rate, .int .i64 x.burst, .int .i64 x.bucket, .bool x.gone] 38)).heap.size 38 5 (.slice a' n' c') n' (l'.flatMap Tenant.cells) ∧
      Below (w.alloc (.cells #[.int .i64 x.id, .int .i64 x.rate, .int .i64 x.burst, .int .i64 x.bucket, .bool x.gone] 38)).heap.size (w.alloc (.cells #[.int .i64 x.id, .int .i64 x.rate, .int .i64 x.burst, .int .i64 x.bucket, .bool x.gone] 38)) wr) (fun _ _ i _ => ts.length - (intOf i).toNat)
  case atStart => exact ⟨0, none, 0, 0, [], false, by omega, rfl, rfl, rfl, by omega, rfl, rfl, World.ownsRow_nil _ _ _ _, Below.refl _ _⟩
  case round =>
    obtain ⟨k, a', c', n', l', d', hk, rfl, hfold, hln, hn2, rfl, rfl, hown, hb⟩ := hrel
    have HFO := Lib.hid hfold
    have HLN := Lib.hid hln
    clear hfold hln
    obtain ⟨x0, x1, x2, x3, x4⟩ := HX.out _ hb
    by_cases hlt : k < ts.length
    · obtain ⟨b, o, rfl, hcs⟩ := hr1.at hlt
      have HCS := Lib.hid hcs
      obtain ⟨h0, h1, h2, h3, h4⟩ := hcs _ hb
      clear hcs
      have HST : Hid (withFold x (ts.take (k + 1)) = withStep x (l', d') ts[k]) := by show _ = _; rw [withFold_take hlt, HFO.out]
      by_cases heq : ts[k].id = x.id
      · have HF : Hid (withFold x (ts.take (k + 1)) = (l', d')) := by show _ = _; rw [HST.out]; unfold withStep; rw [if_pos heq]
        have he : (ts[k].id == x.id) = true := by simpa using heq
        clear heq
        go_wp2
        go_quiet (fail)
        go_wp2
        go_roundw
        case rel => exact ⟨k + 1, a', c', n', l', d', by omega, by go_num, HF.out, HLN.out, by omega, rfl, rfl, hown, below_drewN hb _⟩
        case measure => simp [intOf]; omega
      · have he : (ts[k].id == x.id) = false := by simpa using heq
        have HNE := Lib.hid heq
        clear heq
        by_cases hgt : x.id < ts[k].id
        · cases d' with
          | true =>
            have HF : Hid (withFold x (ts.take (k + 1)) = (l' ++ [ts[k]], true)) := by show _ = _; rw [HST.out]; unfold withStep; rw [if_neg HNE.out, if_neg (by simp)]
            go_wp2
            go_quiet (fail)
            have hown1 : (wr.drewN nq).ownsRow (w.alloc (.cells #[.int .i64 x.id, .int .i64 x.rate, .int .i64 x.burst, .int .i64 x.bucket, .bool x.gone] 38)).heap.size 38 5 (.slice a' n' c') n' (l'.flatMap Tenant.cells) := hown
            have hb1 := below_drewN hb nq
            generalize wr.drewN nq = w1 at hown1 hb1 ⊢
            clear x0 x1 x2 x3 x4 h0 h1 h2 h3 h4 hown hb
            obtain ⟨x0, x1, x2, x3, x4⟩ := HX.out _ hb1
            obtain ⟨h0, h1, h2, h3, h4⟩ := HCS.out _ hb1
            go_wp2
            go_quiet (fail)
            have hown2 : (w1.drewN nq).ownsRow (w.alloc (.cells #[.int .i64 x.id, .int .i64 x.rate, .int .i64 x.burst, .int .i64 x.bucket, .bool x.gone] 38)).heap.size 38 5 (.slice a' n' c') n' (l'.flatMap Tenant.cells) := hown1
            have hb2 := below_drewN hb1 nq
            generalize w1.drewN nq = w2 at hown2 hb2 ⊢
            clear x0 x1 x2 x3 x4 h0 h1 h2 h3 h4 hown1 hb1
            obtain ⟨x0, x1, x2, x3, x4⟩ := HX.out _ hb2
            obtain ⟨h0, h1, h2, h3, h4⟩ := HCS.out _ hb2
            go_wp2_with (at_builtin; (refine wpList_app el_tenants rfl (.tmp 38) (.tmp 43) rfl (w.alloc (.cells #[.int .i64 x.id, .int .i64 x.rate, .int .i64 x.burst, .int .i64 x.bucket, .bool x.gone] 38)).heap.size _ n' _ rfl (hown2.alloc _) (some ⟨w2.heap.size, 0, none⟩) 1 1 ts[k].cells rfl rfl (Row.new _ _ _ _) (tcells1 ts[k]) (by omega) (Nat.le_trans hb2.size (by simp)) ?_; intro a3 c3 w3 hown3 hg3; have hb3 := Below.app (hb2.alloc hb2.size _) (hown2.alloc _) hg3 (Nat.le_trans hb2.size (by simp))); clear hg3)
            go_roundw
            case rel => exact ⟨k + 1, a3, c3, n' + 1, l' ++ [ts[k]], true, by omega, by go_num, HF.out, by rw [List.length_append, HLN.out]; rfl, by omega, rfl, rfl, by rw [List.flatMap_append]; simpa using hown3, hb3⟩
            case measure => simp [intOf]; omega
          | false =>
            have HF : Hid (withFold x (ts.take (k + 1)) = (l' ++ [x] ++ [ts[k]], true)) := by show _ = _; rw [HST.out]; unfold withStep; rw [if_neg HNE.out, if_pos ⟨hgt, rfl⟩]
            go_wp2
            go_quiet (fail)
            have hown1 : (wr.drewN nq).ownsRow (w.alloc (.cells #[.int .i64 x.id, .int .i64 x.rate, .int .i64 x.burst, .int .i64 x.bucket, .bool x.gone] 38)).heap.size 38 5 (.slice a' n' c') n' (l'.flatMap Tenant.cells) := hown
            have hb1 := below_drewN hb nq
            generalize wr.drewN nq = w1 at hown1 hb1 ⊢
            clear x0 x1 x2 x3 x4 h0 h1 h2 h3 h4 hown hb
            obtain ⟨x0, x1, x2, x3, x4⟩ := HX.out _ hb1
            obtain ⟨h0, h1, h2, h3, h4⟩ := HCS.out _ hb1
            go_wp2
            go_quiet (fail)
            have hown2 : (w1.drewN nq).ownsRow (w.alloc (.cells #[.int .i64 x.id, .int .i64 x.rate, .int .i64 x.burst, .int .i64 x.bucket, .bool x.gone] 38)).heap.size 38 5 (.slice a' n' c') n' (l'.flatMap Tenant.cells) := hown1
            have hb2 := below_drewN hb1 nq
            generalize w1.drewN nq = w2 at hown2 hb2 ⊢
            clear x0 x1 x2 x3 x4 h0 h1 h2 h3 h4 hown1 hb1
            obtain ⟨x0, x1, x2, x3, x4⟩ := HX.out _ hb2
            obtain ⟨h0, h1, h2, h3, h4⟩ := HCS.out _ hb2
            go_wp2_with (first
              | (at_builtin; (refine wpList_app el_tenants rfl (.tmp 34) (.tmp 36) rfl (w.alloc (.cells #[.int .i64 x.id, .int .i64 x.rate, .int .i64 x.burst, .int .i64 x.bucket, .bool x.gone] 38)).heap.size _ n' _ rfl (hown2.alloc _) (some ⟨w2.heap.size, 0, none⟩) 1 1 x.cells rfl rfl (Row.new _ _ _ _) (tcells1 x) (by omega) (Nat.le_trans hb2.size (by simp)) ?_; intro a3 c3 w3 hown3 hg3; have hb3 := Below.app (hb2.alloc hb2.size _) (hown2.alloc _) hg3 (Nat.le_trans hb2.size (by simp))); clear hg3; obtain ⟨y0, y1, y2, y3, y4⟩ := HCS.out _ hb3)
              | (at_builtin; (refine wpList_app el_tenants rfl (.tmp 38) (.tmp 43) rfl (w.alloc (.cells #[.int .i64 x.id, .int .i64 x.rate, .int .i64 x.burst, .int .i64 x.bucket, .bool x.gone] 38)).heap.size _ (n' + 1) _ rfl (hown3.alloc _) (some ⟨w3.heap.size, 0, none⟩) 1 1 ts[k].cells rfl rfl (Row.new _ _ _ _) (tcells1 ts[k]) (by omega) (Nat.le_trans hb3.size (by simp)) ?_; intro a4 c4 w4 hown4 hg4; have hb4 := Below.app (hb3.alloc hb3.size _) (hown3.alloc _) hg4 (Nat.le_trans hb3.size (by simp))); clear hg4))
            go_roundw
            case rel => exact ⟨k + 1, a4, c4, n' + 1 + 1, l' ++ [x] ++ [ts[k]], true, by omega, by go_num, HF.out, by rw [List.length_append, List.length_append, HLN.out]; rfl, by omega, rfl, rfl, by rw [List.flatMap_append, List.flatMap_append]; simpa using hown4, hb4⟩
            case measure => simp [intOf]; omega
        · have HF : Hid (withFold x (ts.take (k + 1)) = (l' ++ [ts[k]], d')) := by show _ = _; rw [HST.out]; unfold withStep; rw [if_neg HNE.out, if_neg (fun h => hgt h.1)]
          have hd : decide (x.id < ts[k].id) = false := by simpa using hgt
          go_wp2
          go_quiet (fail)
          have hown1 : (wr.drewN nq).ownsRow (w.alloc (.cells #[.int .i64 x.id, .int .i64 x.rate, .int .i64 x.burst, .int .i64 x.bucket, .bool x.gone] 38)).heap.size 38 5 (.slice a' n' c') n' (l'.flatMap Tenant.cells) := hown
          have hb1 := below_drewN hb nq
          generalize wr.drewN nq = w1 at hown1 hb1 ⊢
          clear x0 x1 x2 x3 x4 h0 h1 h2 h3 h4 hown hb
          obtain ⟨x0, x1, x2, x3, x4⟩ := HX.out _ hb1
          obtain ⟨h0, h1, h2, h3, h4⟩ := HCS.out _ hb1
          go_wp2
          go_quiet (fail)
          have hown2 : (w1.drewN nq).ownsRow (w.alloc (.cells #[.int .i64 x.id, .int .i64 x.rate, .int .i64 x.burst, .int .i64 x.bucket, .bool x.gone] 38)).heap.size 38 5 (.slice a' n' c') n' (l'.flatMap Tenant.cells) := hown1
          have hb2 := below_drewN hb1 nq
          generalize w1.drewN nq = w2 at hown2 hb2 ⊢
          clear x0 x1 x2 x3 x4 h0 h1 h2 h3 h4 hown1 hb1
          obtain ⟨x0, x1, x2, x3, x4⟩ := HX.out _ hb2
          obtain ⟨h0, h1, h2, h3, h4⟩ := HCS.out _ hb2
          go_wp2_with (at_builtin; (refine wpList_app el_tenants rfl (.tmp 38) (.tmp 43) rfl (w.alloc (.cells #[.int .i64 x.id, .int .i64 x.rate, .int .i64 x.burst, .int .i64 x.bucket, .bool x.gone] 38)).heap.size _ n' _ rfl (hown2.alloc _) (some ⟨w2.heap.size, 0, none⟩) 1 1 ts[k].cells rfl rfl (Row.new _ _ _ _) (tcells1 ts[k]) (by omega) (Nat.le_trans hb2.size (by simp)) ?_; intro a3 c3 w3 hown3 hg3; have hb3 := Below.app (hb2.alloc hb2.size _) (hown2.alloc _) hg3 (Nat.le_trans hb2.size (by simp))); clear hg3)
          go_roundw
          case rel => exact ⟨k + 1, a3, c3, n' + 1, l' ++ [ts[k]], d', by omega, by go_num, HF.out, by rw [List.length_append, HLN.out]; rfl, by omega, rfl, rfl, by rw [List.flatMap_append]; simpa using hown3, hb3⟩
          case measure => simp [intOf]; omega
    · have HA : Hid (withFold x ts = (l', d')) := by show _ = _; rw [← HFO.out, List.take_of_length_le (by omega)]
      cases d' with
      | true =>
        have HR : Hid (refWithL x ts = l') := by show _ = _; unfold refWithL; rw [HA.out]; rfl
        go_wp2
        go_returns
        obtain ⟨_, _, hv, hle, _, hnone⟩ := own_slice hown
        simp only [Value.slice.injEq] at hv
        obtain ⟨rfl, _, rfl⟩ := hv
        exact ⟨a', c', by rw [HR.out, HLN.out]; rfl, by rw [HR.out, HLN.out]; exact hle, hnone, Near.own hown (by simp), by rw [HR.out]; exact own_row hown, ((Below.refl _ _).alloc (Nat.le_refl _) _).trans (hb.mono (by simp))⟩
      | false =>
        have HR : Hid (refWithL x ts = l' ++ [x]) := by show _ = _; unfold refWithL; rw [HA.out]; rfl
        go_wp2_with (at_builtin; (refine wpList_app el_tenants rfl (.tmp 47) (.tmp 49) rfl (w.alloc (.cells #[.int .i64 x.id, .int .i64 x.rate, .int .i64 x.burst, .int .i64 x.bucket, .bool x.gone] 38)).heap.size _ n' _ rfl (hown.alloc _) (some ⟨wr.heap.size, 0, none⟩) 1 1 x.cells rfl rfl (Row.new _ _ _ _) (tcells1 x) (by omega) (Nat.le_trans hb.size (by simp)) ?_; intro a5 c5 w5 hown5 hg5; have hb5 := Below.app (hb.alloc hb.size _) (hown.alloc _) hg5 (Nat.le_trans hb.size (by simp))); clear hg5)
        go_returns
        obtain ⟨_, _, hv, hle, _, hnone⟩ := own_slice hown5
        simp only [Value.slice.injEq] at hv
        obtain ⟨rfl, _, rfl⟩ := hv
        exact ⟨a5, c5, by rw [HR.out, List.length_append, HLN.out]; rfl, by rw [HR.out, List.length_append, HLN.out]; exact hle, hnone, Near.own hown5 (by simp), by rw [HR.out]; have := own_row hown5; unfold TRow; rw [List.flatMap_append]; simpa using this, ((Below.refl _ _).alloc (Nat.le_refl _) _).trans (hb5.mono (by simp))⟩
end Go.Proofs.Ytnpbajmpenpnbaa
