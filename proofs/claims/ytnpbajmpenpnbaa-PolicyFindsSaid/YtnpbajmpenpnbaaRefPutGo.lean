import Derived.Test.YtnpbajmpenpnbaaPolEq
namespace Go.Proofs.Ytnpbajmpenpnbaa
open Go.ChangeShapes Go.WideShapes Go.ChangeAt Go.RowKit

set_option maxHeartbeats 2000000 in
theorem refput_any (ts : List Tenant) (a : Option Addr) (n c : Nat) (id rate burst out : Int) (w : World) (hn : ts.length = n) (hl : ts.length ≤ 1000) (hc : a = none → c = 0) (hnc : n ≤ c) (hr : TRow w a ts) :
    Calls Try.prog 10 #[.slice a n c, .int .i64 id, .int .i64 rate, .int .i64 burst, .int .i64 out] w (RetTA w a (putS ts id rate burst out)) := by
  subst hn
  have hmax : ts.length ≤ maxLen := le_maxLen (by omega)
  have hr1 : TRow (w.alloc (.cells #[.int .i64 0, .int .i64 0, .int .i64 0, .int .i64 0, .int .i64 0] 27)) a ts := Row.alloc hr _
  have HP : Hid (putS ts id rate burst out = if tensOk 0 ts = false then (ts, Ans.err 2) else if id < 1 ∨ 16 < id then (ts, Ans.err 161) else if mayB rate burst = false then (ts, Ans.err 160)
    else (withL ⟨id, rate, burst, cutI (findT ts id).1.bucket burst (max out 0), false⟩ ts, ⟨0, rate, burst, 0, 0⟩)) := rfl
  generalize putS ts id rate burst out = res at HP ⊢
  cases ht : tensOk 0 ts with
  | false =>
    have HT := Lib.hid ht
    have HO : Hid (res = (ts, Ans.err 2)) := by rw [HP.out, if_pos ht]; exact rfl
    clear ht HP
    go_enter Try.func10, Try.ntmps10
    go_wp2_with (first
      | (go_at_call 13; ((with_reducible refine (refcheck_any ts _ _ _ _ rfl hmax hr1).mono ?_); rw [HT.out]; rintro e w3 ⟨rfl, hb3⟩; have hcl := own_cells hb3; have hfz := own_frozen hb3)))
    (try simp only [Exit.inBlock, Exit.then])
    refine bodyPost_ret (v := .tuple #[.slice a ts.length c, .agg #[.int .i64 2, .int .i64 0, .int .i64 0, .int .i64 0, .int .i64 0]]) (by simp [results, Try.results10, go_sem, hcl]) rfl ?_
    have hb5 := ((Below.refl w.heap.size w).alloc (Nat.le_refl _) _).trans (hb3.mono (by simp))
    exact ⟨a, c, by rw [HO.out]; rfl, by rw [HO.out]; exact hnc, hc, Near.self _ _, by rw [HO.out]; exact hr.below (set5 hb5 (Nat.le_refl _) _ _ _ _ _), set5 hb5 (Nat.le_refl _) _ _ _ _ _⟩
  | true =>
    have HT := Lib.hid ht
    cases hi : idB id with
    | false =>
      have HI := Lib.hid hi
      have HO : Hid (res = (ts, Ans.err 161)) := by
        have := of_decide_eq_false hi
        rw [HP.out, if_neg (by rw [ht]; simp), if_pos (by omega)]; exact rfl
      clear ht HP hi
      go_enter Try.func10, Try.ntmps10
      go_wp2_with (first
        | (go_at_call 13; ((with_reducible refine (refcheck_any ts _ _ _ _ rfl hmax hr1).mono ?_); rw [HT.out]; rintro e w3 ⟨rfl, hb3⟩; have hcl := own_cells hb3; have hfz := own_frozen hb3))
        | (go_at_call 28; ((with_reducible refine (refid_any _ _).mono ?_); rw [HI.out]; rintro e w4 ⟨rfl, rfl⟩)))
      (try simp only [Exit.inBlock, Exit.then])
      refine bodyPost_ret (v := .tuple #[.slice a ts.length c, .agg #[.int .i64 161, .int .i64 0, .int .i64 0, .int .i64 0, .int .i64 0]]) (by simp [results, Try.results10, go_sem, hcl]) rfl ?_
      have hb5 := ((Below.refl w.heap.size w).alloc (Nat.le_refl _) _).trans (hb3.mono (by simp))
      exact ⟨a, c, by rw [HO.out]; rfl, by rw [HO.out]; exact hnc, hc, Near.self _ _, by rw [HO.out]; exact hr.below (set5 hb5 (Nat.le_refl _) _ _ _ _ _), set5 hb5 (Nat.le_refl _) _ _ _ _ _⟩
    | true =>
    have HI := Lib.hid hi
    have hid1 := of_decide_eq_true hi
    clear hi
    cases hm : mayB rate burst with
    | false =>
      have HM := Lib.hid hm
      have HO : Hid (res = (ts, Ans.err 160)) := by rw [HP.out, if_neg (by rw [ht]; simp), if_neg (by omega), if_pos hm]; exact rfl
      clear ht HP hm
      go_enter Try.func10, Try.ntmps10
      go_wp2_with (first
        | (go_at_call 13; ((with_reducible refine (refcheck_any ts _ _ _ _ rfl hmax hr1).mono ?_); rw [HT.out]; rintro e w3 ⟨rfl, hb3⟩; have hcl := own_cells hb3; have hfz := own_frozen hb3))
        | (go_at_call 28; ((with_reducible refine (refid_any _ _).mono ?_); rw [HI.out]; rintro e w4 ⟨rfl, rfl⟩))
        | (go_at_call 29; ((with_reducible refine (refmay_any _ _ _).mono ?_); rw [HM.out]; rintro e w4 ⟨rfl, rfl⟩)))
      (try simp only [Exit.inBlock, Exit.then])
      refine bodyPost_ret (v := .tuple #[.slice a ts.length c, .agg #[.int .i64 160, .int .i64 0, .int .i64 0, .int .i64 0, .int .i64 0]]) (by simp [results, Try.results10, go_sem, hcl]) rfl ?_
      have hb5 := ((Below.refl w.heap.size w).alloc (Nat.le_refl _) _).trans (hb3.mono (by simp))
      exact ⟨a, c, by rw [HO.out]; rfl, by rw [HO.out]; exact hnc, hc, Near.self _ _, by rw [HO.out]; exact hr.below (set5 hb5 (Nat.le_refl _) _ _ _ _ _), set5 hb5 (Nat.le_refl _) _ _ _ _ _⟩
    | true =>
      have HM := Lib.hid hm
      have HO : Hid (res = (withL ⟨id, rate, burst, cutI (findT ts id).1.bucket burst (max out 0), false⟩ ts, ⟨0, rate, burst, 0, 0⟩)) := by
        rw [HP.out, if_neg (by rw [ht]; simp), if_neg (by omega), if_neg (by rw [hm]; simp)]; exact rfl
      have HWE : Hid (∀ x, refWithL x ts = withL x ts) := fun x => refWith_eq x ht
      clear ht HP hm hid1
      rcases hfd : findT ts id with ⟨⟨xid, xrate, xburst, xbucket, xgone⟩, ok⟩
      rw [hfd] at HO
      have HFD := Lib.hid hfd
      clear hfd
      by_cases hout : out < 0
      · have hmo : Hid (max out 0 = 0) := by show _ = _; omega
        go_enter Try.func10, Try.ntmps10
        go_wp2_with (first
          | (go_at_call 13; ((with_reducible refine (refcheck_any ts _ _ _ _ rfl hmax hr1).mono ?_); rw [HT.out]; rintro e w3 ⟨rfl, hb3⟩; have hcl := own_cells hb3; have hfz := own_frozen hb3))
          | (go_at_call 28; ((with_reducible refine (refid_any _ _).mono ?_); rw [HI.out]; rintro e w4 ⟨rfl, rfl⟩))
          | (go_at_call 29; ((with_reducible refine (refmay_any _ _ _).mono ?_); rw [HM.out]; rintro e w4 ⟨rfl, rfl⟩))
          | (go_at_call 20; ((with_reducible refine (reffind_any ts _ _ _ _ _ rfl hmax (hr1.below hb3)).mono ?_); rw [HFD.out]; rintro e w5 ⟨rfl, hb5⟩))
          | (go_at_call 30; ((with_reducible refine (refcut_any _ _ _ _).mono ?_); rintro e w6 ⟨rfl, rfl⟩))
          | (go_at_call 31; ((with_reducible refine (refwith_any ts _ _ _ ⟨id, rate, burst, cutI xbucket burst 0, false⟩ _ rfl hl (Row.alloc ((hr1.below hb3).below hb5) _)).mono ?_); rw [HWE.out]; rintro e w7 ⟨a7, c7, rfl, hle7, hn7, hnear7, hr7, hb7⟩; have hb57 := ((Below.refl w5.heap.size w5).alloc (Nat.le_refl _) _).trans (hb7.mono (by simp)); have hb37 := hb5.trans (hb57.mono hb5.size); have hb07 := hb3.trans (hb37.mono hb3.size); have hcl := own_cells hb07; have hfz := own_frozen hb07)))
        (try simp only [Exit.inBlock, Exit.then])
        refine bodyPost_ret (v := .tuple #[.slice a7 (withL ⟨id, rate, burst, cutI xbucket burst 0, false⟩ ts).length c7, .agg #[.int .i64 0, .int .i64 rate, .int .i64 burst, .int .i64 0, .int .i64 0]]) (by simp [results, Try.results10, go_sem, hcl]) rfl ?_
        have hb8 := ((Below.refl w.heap.size w).alloc (Nat.le_refl _) _).trans (hb07.mono (by simp))
        have hlt : w.heap.size < (w5.alloc (.cells #[.int .i64 id, .int .i64 rate, .int .i64 burst, .int .i64 (cutI xbucket burst 0), .bool false] 38)).heap.size := by
          have h1 := hb3.size; have h2 := hb5.size; simp at h1; simp; omega
        rw [hmo.out] at HO
        exact ⟨a7, c7, by rw [HO.out], by rw [HO.out]; exact hle7, hn7, (hnear7.mono (by have h1 := hb3.size; have h2 := hb5.size; simp at h1; simp; omega)).trans' _, by rw [HO.out]; exact Row.set5 hr7 (hnear7.ne hlt) _ _ _ _ _, set5 hb8 (Nat.le_refl _) _ _ _ _ _⟩
      · have hmo : Hid (max out 0 = out) := by show _ = _; omega
        go_enter Try.func10, Try.ntmps10
        go_wp2_with (first
          | (go_at_call 13; ((with_reducible refine (refcheck_any ts _ _ _ _ rfl hmax hr1).mono ?_); rw [HT.out]; rintro e w3 ⟨rfl, hb3⟩; have hcl := own_cells hb3; have hfz := own_frozen hb3))
          | (go_at_call 28; ((with_reducible refine (refid_any _ _).mono ?_); rw [HI.out]; rintro e w4 ⟨rfl, rfl⟩))
          | (go_at_call 29; ((with_reducible refine (refmay_any _ _ _).mono ?_); rw [HM.out]; rintro e w4 ⟨rfl, rfl⟩))
          | (go_at_call 20; ((with_reducible refine (reffind_any ts _ _ _ _ _ rfl hmax (hr1.below hb3)).mono ?_); rw [HFD.out]; rintro e w5 ⟨rfl, hb5⟩))
          | (go_at_call 30; ((with_reducible refine (refcut_any _ _ _ _).mono ?_); rintro e w6 ⟨rfl, rfl⟩))
          | (go_at_call 31; ((with_reducible refine (refwith_any ts _ _ _ ⟨id, rate, burst, cutI xbucket burst out, false⟩ _ rfl hl (Row.alloc ((hr1.below hb3).below hb5) _)).mono ?_); rw [HWE.out]; rintro e w7 ⟨a7, c7, rfl, hle7, hn7, hnear7, hr7, hb7⟩; have hb57 := ((Below.refl w5.heap.size w5).alloc (Nat.le_refl _) _).trans (hb7.mono (by simp)); have hb37 := hb5.trans (hb57.mono hb5.size); have hb07 := hb3.trans (hb37.mono hb3.size); have hcl := own_cells hb07; have hfz := own_frozen hb07)))
        (try simp only [Exit.inBlock, Exit.then])
        refine bodyPost_ret (v := .tuple #[.slice a7 (withL ⟨id, rate, burst, cutI xbucket burst out, false⟩ ts).length c7, .agg #[.int .i64 0, .int .i64 rate, .int .i64 burst, .int .i64 0, .int .i64 0]]) (by simp [results, Try.results10, go_sem, hcl]) rfl ?_
        have hb8 := ((Below.refl w.heap.size w).alloc (Nat.le_refl _) _).trans (hb07.mono (by simp))
        have hlt : w.heap.size < (w5.alloc (.cells #[.int .i64 id, .int .i64 rate, .int .i64 burst, .int .i64 (cutI xbucket burst out), .bool false] 38)).heap.size := by
          have h1 := hb3.size; have h2 := hb5.size; simp at h1; simp; omega
        rw [hmo.out] at HO
        exact ⟨a7, c7, by rw [HO.out], by rw [HO.out]; exact hle7, hn7, (hnear7.mono (by have h1 := hb3.size; have h2 := hb5.size; simp at h1; simp; omega)).trans' _, by rw [HO.out]; exact Row.set5 hr7 (hnear7.ne hlt) _ _ _ _ _, set5 hb8 (Nat.le_refl _) _ _ _ _ _⟩
end Go.Proofs.Ytnpbajmpenpnbaa
