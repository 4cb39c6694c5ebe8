import Derived.Test.YtnpbajmpenpnbaaSweep
namespace Go.Proofs.Ytnpbajmpenpnbaa
open Go.ChangeShapes Go.WideShapes Go.ChangeAt Go.RowKit

set_option maxHeartbeats 2000000 in
theorem refsweep_any (ts : List Tenant) (outs : List Int) (a b : Option Addr) (n c m d : Nat) (w : World) (hn : ts.length = n) (hm : outs.length = m) (hl : ts.length ≤ 900) (hlo : m ≤ 1000) (hc : a = none → c = 0) (hnc : n ≤ c) (hr : TRow w a ts) (hro : Row w b (outs.map (Value.int .i64))) :
    Calls Try.prog 24 #[.slice a n c, .slice b m d] w (RetT w a (sweepS ts outs)) := by
  subst hn
  subst hm
  have hmax : ts.length ≤ maxLen := le_maxLen (by omega)
  have HS : Hid (sweepS ts outs = if tensOk 0 ts = true then ts.filter (fun x => !goneP outs x) else ts) := rfl
  generalize sweepS ts outs = res at HS ⊢
  cases h1 : tensOk 0 ts with
  | false =>
    have H1 := Lib.hid h1
    have HO : Hid (res = ts) := by rw [HS.out, if_neg (by rw [h1]; simp)]; exact rfl
    clear h1 HS
    go_enter Try.func24, Try.ntmps24
    go_wp2_with (first
      | (go_at_call 13; ((with_reducible refine (refcheck_any ts a _ _ _ rfl hmax (hr.below (by repeat' (first | (with_reducible exact Below.refl _ _) | (with_reducible assumption) | (with_reducible refine Below.drew ?_) | (with_reducible refine Below.more ?_ _) | (with_reducible refine Below.put ?_ ?_ _) | (with_reducible refine Below.next ?_ (by with_reducible assumption)) | (with_reducible exact Nat.le_refl _) | (with_reducible refine Below.size' ?_) | omega)))).mono ?_); rw [H1.out]; rintro e w3 ⟨rfl, hb3⟩)))
    go_returns
    exact ⟨a, c, by rw [HO.out]; rfl, by rw [HO.out]; exact hnc, hc, Near.self _ _, by rw [HO.out]; exact hr.below (by repeat' (first | (with_reducible exact Below.refl _ _) | (with_reducible assumption) | (with_reducible refine Below.drew ?_) | (with_reducible refine Below.more ?_ _) | (with_reducible refine Below.put ?_ ?_ _) | (with_reducible refine Below.next ?_ (by with_reducible assumption)) | (with_reducible exact Nat.le_refl _) | (with_reducible refine Below.size' ?_) | omega)), (by repeat' (first | (with_reducible exact Below.refl _ _) | (with_reducible assumption) | (with_reducible refine Below.drew ?_) | (with_reducible refine Below.more ?_ _) | (with_reducible refine Below.put ?_ ?_ _) | (with_reducible refine Below.next ?_ (by with_reducible assumption)) | (with_reducible exact Nat.le_refl _) | (with_reducible refine Below.size' ?_) | omega))⟩
  | true =>
    have H1 := Lib.hid h1
    have HID : Hid (∀ x ∈ ts, 1 ≤ x.id ∧ x.id ≤ 16) := fun x hx => by
      have h2 := (tensOk_iff.1 h1).1 x hx
      have h3 := h2.2
      unfold okT at h3
      simp only [Bool.and_eq_true, decide_eq_true_eq] at h3
      exact ⟨by omega, h3.1.1.1⟩
    have HO : Hid (res = ts.filter (fun x => !goneP outs x)) := by rw [HS.out, if_pos h1]; exact rfl
    clear h1 HS
    generalize hq : (fun x => !goneP outs x) = q at HO
    have HQ := Lib.hid hq
    clear hq
    go_enter Try.func24, Try.ntmps24
    go_wp2_with (first
      | (go_at_call 13; ((with_reducible refine (refcheck_any ts a _ _ _ rfl hmax (hr.below (by repeat' (first | (with_reducible exact Below.refl _ _) | (with_reducible assumption) | (with_reducible refine Below.drew ?_) | (with_reducible refine Below.more ?_ _) | (with_reducible refine Below.put ?_ ?_ _) | (with_reducible refine Below.next ?_ (by with_reducible assumption)) | (with_reducible exact Nat.le_refl _) | (with_reducible refine Below.size' ?_) | omega)))).mono ?_); rw [H1.out]; rintro e w3 ⟨rfl, hb3⟩)))
    go_loopw [5, 6] (fun out i wr => ∃ k : Nat, ∃ a' c', k ≤ ts.length ∧ i = .int .i64 k ∧ out = .slice a' ((ts.take k).filter q).length c' ∧ wr.ownsRow w.heap.size 38 5 (.slice a' ((ts.take k).filter q).length c') ((ts.take k).filter q).length (((ts.take k).filter q).flatMap Tenant.cells) ∧ Below w.heap.size w wr) (fun _ i _ => ts.length - (intOf i).toNat)
    case atStart => exact ⟨0, none, 0, by omega, rfl, rfl, World.ownsRow_nil _ _ _ _, hb3⟩
    case round =>
      obtain ⟨k, a', c', hk, rfl, rfl, hown, hb⟩ := hrel
      by_cases hlt : k < ts.length
      · obtain ⟨b1, o1, rfl, hcs⟩ := hr.at hlt
        obtain ⟨h0, h1, h2, h3, h4⟩ := hcs _ hb
        obtain ⟨hid1, hid2⟩ := HID.out ts[k] (List.getElem_mem hlt)
        clear hcs
        have HTK : Hid (ts.take (k + 1) = ts.take k ++ [ts[k]]) := List.take_succ_eq_append_getElem hlt
        have hfl : ((ts.take k).filter q).length ≤ k := by
          have := List.length_filter_le q (ts.take k)
          rw [List.length_take] at this; omega
        have HQK : Hid (q ts[k] = !(ts[k].gone && decide (outOf outs ts[k].id ≤ 0))) := by show _ = _; rw [← HQ.out]; rfl
        have HN : Hid (q ts[k] = false → (ts.take (k + 1)).filter q = (ts.take k).filter q) := fun h => by rw [HTK.out, List.filter_append]; simp [h]
        have HY : Hid (q ts[k] = true → (ts.take (k + 1)).filter q = (ts.take k).filter q ++ [ts[k]]) := fun h => by rw [HTK.out, List.filter_append]; simp [h]
        generalize hx : ts[k] = x at h0 h1 h2 h3 h4 hid1 hid2 HQK HN HY
        clear hx HTK
        obtain ⟨id, rate, burst, bucket, gone⟩ := x
        simp only at h0 h1 h2 h3 h4 hid1 hid2
        by_cases hfar : (outs.length : Int) < id
        · have hlt8 : decide (id - 1 < (outs.length : Int)) = false := decide_eq_false (by omega)
          cases gone with
          | false =>
            have HGP : Hid ((false && decide (outOf outs id ≤ 0)) = false) := rfl
            have HF := Lib.hid (HY.out (by rw [HQK.out]; exact congrArg (fun b => !b) HGP.out))
            go_wp2_with (at_builtin; refine wpList_app el_tenants rfl _ _ rfl w.heap.size _ ((ts.take k).filter q).length _ rfl (hown.alloc _) (some ⟨wr.heap.size, 0, none⟩) 1 1 (Tenant.cells ⟨id, rate, burst, bucket, false⟩) rfl rfl (Row.new _ _ _ _) (by intro u hu; simp at hu; rcases hu with rfl | rfl | rfl | rfl | rfl <;> rfl) (by omega) (by have := hb.size; simp; omega) ?_; intro a2 c2 w2 hown2 hg2; have hb2 := Below.app (hb.alloc hb.size _) (hown.alloc _) hg2 (by have := hb.size; simp; omega); clear hg2 h0 h1 h2 h3 h4)
            go_roundw
            case rel => exact ⟨k + 1, a2, c2, by omega, by go_num, by rw [HF.out]; simp, by rw [HF.out, List.length_append, List.flatMap_append]; simpa using hown2, hb2⟩
            case measure => simp [intOf]; omega
          | true =>
            have HGP : Hid ((true && decide (outOf outs id ≤ 0)) = true) := by show _ = _; rw [outOf_far hfar]; rfl
            have HF := Lib.hid (HN.out (by rw [HQK.out]; exact congrArg (fun b => !b) HGP.out))
            go_wp2
            go_roundw
            case rel => exact ⟨k + 1, a', c', by omega, by go_num, by rw [HF.out], by rw [HF.out]; exact hown, hb⟩
            case measure => simp [intOf]; omega
        · obtain ⟨j, hj, hj2, hj3⟩ := outOf_at (outs := outs) (id := id) (by omega) (by omega)
          obtain ⟨b5, o5, rfl, hcell⟩ := Row.getBelow hro (k := j) (by rw [List.getElem?_map, hj3]; rfl)
          have hcl := hcell _ hb
          obtain rfl : id = j + 1 := by omega
          generalize hov : outOf outs (j + 1) = ov at hcl HQK
          clear hcell hj3 hov hj2
          cases gone with
          | false =>
            have HGP : Hid ((false && decide (ov ≤ 0)) = false) := rfl
            have HF := Lib.hid (HY.out (by rw [HQK.out]; exact congrArg (fun b => !b) HGP.out))
            go_wp2_with (at_builtin; refine wpList_app el_tenants rfl _ _ rfl w.heap.size _ ((ts.take k).filter q).length _ rfl (hown.alloc _) (some ⟨wr.heap.size, 0, none⟩) 1 1 (Tenant.cells ⟨j + 1, rate, burst, bucket, false⟩) rfl rfl (Row.new _ _ _ _) (by intro u hu; simp at hu; rcases hu with rfl | rfl | rfl | rfl | rfl <;> rfl) (by omega) (by have := hb.size; simp; omega) ?_; intro a2 c2 w2 hown2 hg2; have hb2 := Below.app (hb.alloc hb.size _) (hown.alloc _) hg2 (by have := hb.size; simp; omega); clear hg2 h0 h1 h2 h3 h4)
            go_roundw
            case rel => exact ⟨k + 1, a2, c2, by omega, by go_num, by rw [HF.out]; simp, by rw [HF.out, List.length_append, List.flatMap_append]; simpa using hown2, hb2⟩
            case measure => simp [intOf]; omega
          | true =>
            by_cases hov : ov ≤ 0
            · have HGP : Hid ((true && decide (ov ≤ 0)) = true) := by show _ = _; rw [decide_eq_true hov]; rfl
              have hgt : decide (0 < ov) = false := decide_eq_false (by omega)
              have HF := Lib.hid (HN.out (by rw [HQK.out]; exact congrArg (fun b => !b) HGP.out))
              go_wp2
              go_roundw
              case rel => exact ⟨k + 1, a', c', by omega, by go_num, by rw [HF.out], by rw [HF.out]; exact hown, hb⟩
              case measure => simp [intOf]; omega
            · have HGP : Hid ((true && decide (ov ≤ 0)) = false) := by show _ = _; rw [decide_eq_false hov]; rfl
              have hgt : decide (0 < ov) = true := decide_eq_true (by omega)
              have HF := Lib.hid (HY.out (by rw [HQK.out]; exact congrArg (fun b => !b) HGP.out))
              go_wp2_with (at_builtin; refine wpList_app el_tenants rfl _ _ rfl w.heap.size _ ((ts.take k).filter q).length _ rfl (hown.alloc _) (some ⟨wr.heap.size, 0, none⟩) 1 1 (Tenant.cells ⟨j + 1, rate, burst, bucket, true⟩) rfl rfl (Row.new _ _ _ _) (by intro u hu; simp at hu; rcases hu with rfl | rfl | rfl | rfl | rfl <;> rfl) (by omega) (by have := hb.size; simp; omega) ?_; intro a2 c2 w2 hown2 hg2; have hb2 := Below.app (hb.alloc hb.size _) (hown.alloc _) hg2 (by have := hb.size; simp; omega); clear hg2 h0 h1 h2 h3 h4)
              go_roundw
              case rel => exact ⟨k + 1, a2, c2, by omega, by go_num, by rw [HF.out]; simp, by rw [HF.out, List.length_append, List.flatMap_append]; simpa using hown2, hb2⟩
              case measure => simp [intOf]; omega
      · have HT : Hid ((ts.take k).filter q = ts.filter q) := by show _ = _; rw [List.take_of_length_le (by omega)]
        go_wp2
        go_returns
        obtain ⟨_, _, hv, hle, _, hnone⟩ := own_slice hown
        simp only [Value.slice.injEq] at hv
        obtain ⟨rfl, _, rfl⟩ := hv
        exact ⟨a', c', by rw [HO.out, ← HT.out]; rfl, by rw [HO.out, ← HT.out]; exact hle, hnone, (Near.own hown (Nat.le_refl _)).trans' _, by rw [HO.out, ← HT.out]; exact own_row hown, hb⟩
end Go.Proofs.Ytnpbajmpenpnbaa
