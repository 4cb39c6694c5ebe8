import Derived.Test.YtnpbajmpenpnbaaRefPutGo
import Derived.Test.YtnpbajmpenpnbaaDelete
namespace Go.Proofs.Ytnpbajmpenpnbaa
open Go.ChangeShapes Go.WideShapes Go.ChangeAt Go.RowKit

theorem refget_any (ts : List Tenant) (a : Option Addr) (n c : Nat) (id : Int) (w : World) (hn : ts.length = n) (hl : ts.length ≤ maxLen) (hr : TRow w a ts) :
    Calls Try.prog 17 #[.slice a n c, .int .i64 id] w (RetA w (getS ts id)) := by
  have hr1 : TRow (w.alloc (.cells #[.int .i64 0, .int .i64 0, .int .i64 0, .int .i64 0, .int .i64 0] 27)) a ts := Row.alloc hr _
  have HG : Hid (getS ts id = if tensOk 0 ts = false then Ans.err 2 else if (findT ts id).2 = false ∨ (findT ts id).1.gone = true then Ans.err 161 else ⟨0, (findT ts id).1.rate, (findT ts id).1.burst, 0, 0⟩) := rfl
  generalize getS ts id = out at HG ⊢
  rcases hfd : findT ts id with ⟨⟨xid, xrate, xburst, xbucket, xgone⟩, ok⟩
  rw [hfd] at HG
  have HF := Lib.hid hfd
  clear hfd
  cases ht : tensOk 0 ts with
  | false =>
    have HT := Lib.hid ht
    have HO : Hid (out = Ans.err 2) := by rw [HG.out, if_pos ht]; exact rfl
    clear ht HG
    go_enter Try.func17, Try.ntmps17
    go_wp2_with (first
      | (go_at_call 13; ((with_reducible refine (refcheck_any ts _ _ _ _ hn hl hr1).mono ?_); rw [HT.out]; rintro e w3 ⟨rfl, hb3⟩; have hcl := own_cells hb3; have hfz := own_frozen hb3)))
    (try simp only [Exit.inBlock, Exit.then])
    refine bodyPost_ret (v := .agg #[.int .i64 2, .int .i64 0, .int .i64 0, .int .i64 0, .int .i64 0]) (by simp [results, Try.results17, go_sem, hcl]) rfl ?_
    have hb5 := ((Below.refl w.heap.size w).alloc (Nat.le_refl _) _).trans (hb3.mono (by simp))
    exact ⟨by rw [HO.out]; rfl, hb5.setCell (Nat.le_refl _) _ |>.setCell (Nat.le_refl _) _ |>.setCell (Nat.le_refl _) _ |>.setCell (Nat.le_refl _) _ |>.setCell (Nat.le_refl _) _⟩
  | true =>
    have HT := Lib.hid ht
    cases ok with
    | false =>
      have HO : Hid (out = Ans.err 161) := by rw [HG.out, if_neg (by rw [ht]; simp), if_pos (.inl rfl)]; exact rfl
      clear ht HG
      go_enter Try.func17, Try.ntmps17
      go_wp2_with (first
        | (go_at_call 13; ((with_reducible refine (refcheck_any ts _ _ _ _ hn hl hr1).mono ?_); rw [HT.out]; rintro e w3 ⟨rfl, hb3⟩; have hcl := own_cells hb3; have hfz := own_frozen hb3))
        | (go_at_call 20; ((with_reducible refine (reffind_any ts a n c id _ hn hl (hr1.below hb3)).mono ?_); rw [HF.out]; rintro e w2 ⟨rfl, hb⟩; have hb4 := hb3.trans (hb.mono hb3.size); have hb6 := hb4.alloc hb4.size (.cells #[.int .i64 xid, .int .i64 xrate, .int .i64 xburst, .int .i64 xbucket, .bool xgone] 38); have hcl := own_cells hb6; have hfz := own_frozen hb6)))
      (try simp only [Exit.inBlock, Exit.then])
      refine bodyPost_ret (v := .agg #[.int .i64 161, .int .i64 0, .int .i64 0, .int .i64 0, .int .i64 0]) (by simp [results, Try.results17, go_sem, hcl]) rfl ?_
      have hb5 := ((Below.refl w.heap.size w).alloc (Nat.le_refl _) _).trans (hb6.mono (by simp))
      exact ⟨by rw [HO.out]; rfl, hb5.setCell (Nat.le_refl _) _ |>.setCell (Nat.le_refl _) _ |>.setCell (Nat.le_refl _) _ |>.setCell (Nat.le_refl _) _ |>.setCell (Nat.le_refl _) _⟩
    | true =>
      cases xgone with
      | true =>
        have HO : Hid (out = Ans.err 161) := by rw [HG.out, if_neg (by rw [ht]; simp), if_pos (.inr rfl)]; exact rfl
        clear ht HG
        go_enter Try.func17, Try.ntmps17
        go_wp2_with (first
          | (go_at_call 13; ((with_reducible refine (refcheck_any ts _ _ _ _ hn hl hr1).mono ?_); rw [HT.out]; rintro e w3 ⟨rfl, hb3⟩; have hcl := own_cells hb3; have hfz := own_frozen hb3))
          | (go_at_call 20; ((with_reducible refine (reffind_any ts a n c id _ hn hl (hr1.below hb3)).mono ?_); rw [HF.out]; rintro e w2 ⟨rfl, hb⟩; have hb4 := hb3.trans (hb.mono hb3.size); have hb6 := hb4.alloc hb4.size (.cells #[.int .i64 xid, .int .i64 xrate, .int .i64 xburst, .int .i64 xbucket, .bool true] 38); have hcl := own_cells hb6; have hfz := own_frozen hb6)))
        (try simp only [Exit.inBlock, Exit.then])
        refine bodyPost_ret (v := .agg #[.int .i64 161, .int .i64 0, .int .i64 0, .int .i64 0, .int .i64 0]) (by simp [results, Try.results17, go_sem, hcl]) rfl ?_
        have hb5 := ((Below.refl w.heap.size w).alloc (Nat.le_refl _) _).trans (hb6.mono (by simp))
        exact ⟨by rw [HO.out]; rfl, hb5.setCell (Nat.le_refl _) _ |>.setCell (Nat.le_refl _) _ |>.setCell (Nat.le_refl _) _ |>.setCell (Nat.le_refl _) _ |>.setCell (Nat.le_refl _) _⟩
      | false =>
        have HO : Hid (out = ⟨0, xrate, xburst, 0, 0⟩) := by rw [HG.out, if_neg (by rw [ht]; simp), if_neg (by simp)]; exact rfl
        clear ht HG
        go_enter Try.func17, Try.ntmps17
        go_wp2_with (first
          | (go_at_call 13; ((with_reducible refine (refcheck_any ts _ _ _ _ hn hl hr1).mono ?_); rw [HT.out]; rintro e w3 ⟨rfl, hb3⟩; have hcl := own_cells hb3; have hfz := own_frozen hb3))
          | (go_at_call 20; ((with_reducible refine (reffind_any ts a n c id _ hn hl (hr1.below hb3)).mono ?_); rw [HF.out]; rintro e w2 ⟨rfl, hb⟩; have hb4 := hb3.trans (hb.mono hb3.size); have hb6 := hb4.alloc hb4.size (.cells #[.int .i64 xid, .int .i64 xrate, .int .i64 xburst, .int .i64 xbucket, .bool false] 38); have hcl := own_cells hb6; have hfz := own_frozen hb6)))
        (try simp only [Exit.inBlock, Exit.then])
        refine bodyPost_ret (v := .agg #[.int .i64 0, .int .i64 xrate, .int .i64 xburst, .int .i64 0, .int .i64 0]) (by simp [results, Try.results17, go_sem, hcl]) rfl ?_
        have hb5 := ((Below.refl w.heap.size w).alloc (Nat.le_refl _) _).trans (hb6.mono (by simp))
        exact ⟨by rw [HO.out], hb5.setCell (Nat.le_refl _) _ |>.setCell (Nat.le_refl _) _ |>.setCell (Nat.le_refl _) _ |>.setCell (Nat.le_refl _) _ |>.setCell (Nat.le_refl _) _⟩

theorem getS_ok {ts : List Tenant} {id : Int} (h : (getS ts id).e = 0) : tensOk 0 ts = true := by
  cases ht : tensOk 0 ts with
  | true => rfl
  | false => unfold getS at h; rw [if_pos ht] at h; cases h

set_option maxHeartbeats 2000000 in
theorem refdelete_any (ts : List Tenant) (a : Option Addr) (n c : Nat) (id out : Int) (w : World) (hn : ts.length = n) (hl : ts.length ≤ 1000) (hc : a = none → c = 0) (hnc : n ≤ c) (hr : TRow w a ts) :
    Calls Try.prog 15 #[.slice a n c, .int .i64 id, .int .i64 out] w (RetTA w a (deleteS ts id out)) := by
  subst hn
  have hmax : ts.length ≤ maxLen := le_maxLen (by omega)
  have hr1 : TRow (w.alloc (.cells #[.int .i64 0, .int .i64 0, .int .i64 0, .int .i64 0, .int .i64 0] 27)) a ts := Row.alloc hr _
  have HP : Hid (deleteS ts id out = if (getS ts id).e ≠ 0 then (ts, Ans.err (getS ts id).e) else if 0 < out then (withL ⟨id, 0, 0, 0, true⟩ ts, Ans.err 0) else (withoutL id ts, Ans.err 0)) := rfl
  generalize deleteS ts id out = res at HP ⊢
  rcases hg : getS ts id with ⟨ge, grate, gburst, glease, gsize⟩
  have HG := Lib.hid hg
  rw [hg] at HP
  clear hg
  cases h0 : (ge != 0) with
  | true =>
    have HO : Hid (res = (ts, Ans.err ge)) := by
      have : ge ≠ 0 := by simpa using h0
      rw [HP.out, if_pos this]; exact rfl
    clear HP
    go_enter Try.func15, Try.ntmps15
    go_wp2_with (go_at_call 17; ((with_reducible refine (refget_any ts _ _ _ _ _ rfl hmax hr1).mono ?_); rw [HG.out]; rintro e w3 ⟨rfl, hb3⟩; have hcl := own_cells hb3; have hfz := own_frozen hb3))
    have hb4 := hb3.alloc hb3.size (.cells #[.int .i64 ge, .int .i64 grate, .int .i64 gburst, .int .i64 glease, .int .i64 gsize] 27)
    have hx0 : (w3.alloc (.cells #[.int .i64 ge, .int .i64 grate, .int .i64 gburst, .int .i64 glease, .int .i64 gsize] 27)).cell? ⟨w3.heap.size, 0, none⟩ = some (.int .i64 ge) := (World.cell?_alloc_at _ _ _ 0 rfl)
    have hcl := own_cells hb4
    have hfz := own_frozen hb4
    generalize w3.alloc (.cells #[.int .i64 ge, .int .i64 grate, .int .i64 gburst, .int .i64 glease, .int .i64 gsize] 27) = w4 at hb4 hx0 hcl hfz ⊢
    have hx1 : w4.drew.cell? ⟨w3.heap.size, 0, none⟩ = some (.int .i64 ge) := hx0
    unfold World.drew at hx1
    clear hcl hfz
    go_still_tail 5, (by kernel_rfl)
    change wpList _ _ _ _ _ w4.drew
    have hb5 := hb4.drew
    clear hx1 hx0 hb4
    generalize w4.drew = w5 at hb5 ⊢
    have hcl := own_cells hb5
    have hfz := own_frozen hb5
    go_wp2_with fail
    (try simp only [Exit.inBlock, Exit.then])
    refine bodyPost_ret (v := .tuple #[.slice a ts.length c, .agg #[.int .i64 ge, .int .i64 0, .int .i64 0, .int .i64 0, .int .i64 0]]) (by simp [results, Try.results15, go_sem, hcl]) rfl ?_
    have hb6 := ((Below.refl w.heap.size w).alloc (Nat.le_refl _) _).trans (hb5.mono (by simp))
    exact ⟨a, c, by rw [HO.out]; rfl, by rw [HO.out]; exact hnc, hc, Near.self _ _, by rw [HO.out]; exact hr.below (set5 hb6 (Nat.le_refl _) _ _ _ _ _), set5 hb6 (Nat.le_refl _) _ _ _ _ _⟩
  | false =>
    obtain rfl : ge = 0 := by simpa using h0
    have htk : tensOk 0 ts = true := getS_ok (by rw [HG.out])
    by_cases hout : 0 < out
    · have HO : Hid (res = (withL ⟨id, 0, 0, 0, true⟩ ts, Ans.err 0)) := by rw [HP.out, if_neg (by simp), if_pos hout]; exact rfl
      have HWE : Hid (refWithL ⟨id, 0, 0, 0, true⟩ ts = withL ⟨id, 0, 0, 0, true⟩ ts) := refWith_eq _ htk
      clear HP h0 htk
      go_enter Try.func15, Try.ntmps15
      go_wp2_with (first
        | (go_at_call 17; ((with_reducible refine (refget_any ts _ _ _ _ _ rfl hmax hr1).mono ?_); rw [HG.out]; rintro e w3 ⟨rfl, hb3⟩; have hcl := own_cells hb3; have hfz := own_frozen hb3))
        | (go_at_call 31; ((with_reducible refine (refwith_any ts _ _ _ ⟨id, 0, 0, 0, true⟩ _ rfl hl (Row.alloc (hr1.below hb3) _)).mono ?_); rw [HWE.out]; rintro e w7 ⟨a7, c7, rfl, hle7, hn7, hnear7, hr7, hb7⟩; have hb37 := (hb3.alloc hb3.size (.cells #[.int .i64 0, .int .i64 grate, .int .i64 gburst, .int .i64 glease, .int .i64 gsize] 27)); have hb07 := hb37.trans (hb7.mono hb37.size); have hcl := own_cells hb07; have hfz := own_frozen hb07)))
      (try simp only [Exit.inBlock, Exit.then])
      refine bodyPost_ret (v := .tuple #[.slice a7 (withL ⟨id, 0, 0, 0, true⟩ ts).length c7, .agg #[.int .i64 0, .int .i64 0, .int .i64 0, .int .i64 0, .int .i64 0]]) (by simp [results, Try.results15, go_sem, hcl]) rfl ?_
      (try simp only [Exit.inBlock, Exit.then])
      have hb8 := ((Below.refl w.heap.size w).alloc (Nat.le_refl _) _).trans (hb07.mono (by simp))
      have hsz := hb3.size
      simp at hsz
      exact ⟨a7, c7, by rw [HO.out]; rfl, by rw [HO.out]; exact hle7, hn7, (hnear7.mono (by simp; omega)).trans' _, by rw [HO.out]; exact Row.set5 hr7 (hnear7.ne (by simp; omega)) _ _ _ _ _, set5 hb8 (Nat.le_refl _) _ _ _ _ _⟩
    · have HO : Hid (res = (withoutL id ts, Ans.err 0)) := by rw [HP.out, if_neg (by simp), if_neg hout]; exact rfl
      have HWE : Hid (filterL id ts = withoutL id ts) := filter_without _ htk
      clear HP h0 htk
      go_enter Try.func15, Try.ntmps15
      go_wp2_with (first
        | (go_at_call 17; ((with_reducible refine (refget_any ts _ _ _ _ _ rfl hmax hr1).mono ?_); rw [HG.out]; rintro e w3 ⟨rfl, hb3⟩; have hcl := own_cells hb3; have hfz := own_frozen hb3))
        | (go_at_call 39; ((with_reducible refine (refwithout_any ts _ _ _ id _ rfl hl (Row.alloc (hr1.below hb3) _)).mono ?_); rw [HWE.out]; rintro e w7 ⟨a7, c7, rfl, hle7, hn7, hnear7, hr7, hb7⟩; have hb37 := (hb3.alloc hb3.size (.cells #[.int .i64 0, .int .i64 grate, .int .i64 gburst, .int .i64 glease, .int .i64 gsize] 27)); have hb07 := hb37.trans (hb7.mono hb37.size); have hcl := own_cells hb07; have hfz := own_frozen hb07)))
      (try simp only [Exit.inBlock, Exit.then])
      refine bodyPost_ret (v := .tuple #[.slice a7 (withoutL id ts).length c7, .agg #[.int .i64 0, .int .i64 0, .int .i64 0, .int .i64 0, .int .i64 0]]) (by simp [results, Try.results15, go_sem, hcl]) rfl ?_
      (try simp only [Exit.inBlock, Exit.then])
      have hb8 := ((Below.refl w.heap.size w).alloc (Nat.le_refl _) _).trans (hb07.mono (by simp))
      have hsz := hb3.size
      simp at hsz
      exact ⟨a7, c7, by rw [HO.out]; rfl, by rw [HO.out]; exact hle7, hn7, (hnear7.mono (by simp; omega)).trans' _, by rw [HO.out]; exact Near.apart hr (hnear7.trans' _) (by simp; omega) (fun h => by cases ts with | nil => rfl | cons x xs => simp [Tenant.cells] at h) hr7 _ _ _ _ _, set5 hb8 (Nat.le_refl _) _ _ _ _ _⟩
end Go.Proofs.Ytnpbajmpenpnbaa
