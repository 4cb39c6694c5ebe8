import Derived.Test.YtnpbajmpenpnbaaPolSame
namespace Go.Proofs.Ytnpbajmpenpnbaa
open Go.ChangeShapes Go.WideShapes Go.ChangeAt Go.RowKit

theorem Near.apart {w w7 : World} {B : Nat} {a a7 : Option Addr} {xs ys : List Value} (hr : Row w a xs) (hnear : Near B a a7) (hB : w.heap.size < B) (hys : xs = [] → ys = []) (hr7 : Row w7 a7 ys) (v0 v1 v2 v3 v4 : Value) :
    Row (((((w7.setCell ⟨w.heap.size, 0, none⟩ v0).setCell ⟨w.heap.size, 1, none⟩ v1).setCell ⟨w.heap.size, 2, none⟩ v2).setCell ⟨w.heap.size, 3, none⟩ v3).setCell ⟨w.heap.size, 4, none⟩ v4) a7 ys := by
  by_cases h0 : xs = []
  · exact .inl (hys h0)
  · refine Row.set5 hr7 (fun b o s ha => ?_) _ _ _ _ _
    rcases hnear b o s ha with h | ⟨o', s', h⟩
    · omega
    · obtain ⟨b2, o2, ha2, hc⟩ := hr.at (List.length_pos_iff.2 h0)
      have hlt := Row.lt (w := w) (b := b2) (o := o2) (.inr ⟨b2, o2, rfl, hc⟩) h0
      rw [ha2] at h
      simp only [Option.some.injEq, Addr.mk.injEq] at h
      omega

set_option maxHeartbeats 2000000 in
theorem pdelete_any (ts : List Tenant) (a : Option Addr) (n c : Nat) (id out : Int) (w : World) (hn : ts.length = n) (hl : ts.length ≤ 1000) (hc : a = none → c = 0) (hnc : n ≤ c) (hr : TRow w a ts) :
    Calls Try.prog 14 #[.slice a n c, .int .i64 id, .int .i64 out] w (RetTA w a (deleteS ts id out)) := by
  subst hn
  have hmax : ts.length ≤ maxLen := le_maxLen (by omega)
  have hr1 : TRow (w.alloc (.cells #[.int .i64 0, .int .i64 0, .int .i64 0, .int .i64 0, .int .i64 0] 27)) a ts := Row.alloc hr _
  have HP : Hid (deleteS ts id out = if (getS ts id).e ≠ 0 then (ts, Ans.err (getS ts id).e) else if 0 < out then (withL ⟨id, 0, 0, 0, true⟩ ts, Ans.err 0) else (withoutL id ts, Ans.err 0)) := rfl
  generalize deleteS ts id out = res at HP ⊢
  rcases hg : getS ts id with ⟨ge, grate, gburst, glease, gsize⟩
  have HG := Lib.hid hg
  rw [hg] at HP
  clear hg
  cases h0 : (ge != 0) with
  | true =>
    have HO : Hid (res = (ts, Ans.err ge)) := by
      have : ge ≠ 0 := by simpa using h0
      rw [HP.out, if_pos this]; exact rfl
    clear HP
    go_enter Try.func14, Try.ntmps14
    go_wp2_with (go_at_call 16; ((with_reducible refine (pget_any ts _ _ _ _ _ rfl hmax hr1).mono ?_); rw [HG.out]; rintro e w3 ⟨rfl, hb3⟩; have hcl := own_cells hb3; have hfz := own_frozen hb3))
    have hb4 := hb3.alloc hb3.size (.cells #[.int .i64 ge, .int .i64 grate, .int .i64 gburst, .int .i64 glease, .int .i64 gsize] 27)
    have hx0 : (w3.alloc (.cells #[.int .i64 ge, .int .i64 grate, .int .i64 gburst, .int .i64 glease, .int .i64 gsize] 27)).cell? ⟨w3.heap.size, 0, none⟩ = some (.int .i64 ge) := (World.cell?_alloc_at _ _ _ 0 rfl)
    have hcl := own_cells hb4
    have hfz := own_frozen hb4
    generalize w3.alloc (.cells #[.int .i64 ge, .int .i64 grate, .int .i64 gburst, .int .i64 glease, .int .i64 gsize] 27) = w4 at hb4 hx0 hcl hfz ⊢
    have hx1 : w4.drew.cell? ⟨w3.heap.size, 0, none⟩ = some (.int .i64 ge) := hx0
    unfold World.drew at hx1
    clear hcl hfz
    go_still_tail 5, (by kernel_rfl)
    change wpList _ _ _ _ _ w4.drew
    have hb5 := hb4.drew
    clear hx1 hx0 hb4
    generalize w4.drew = w5 at hb5 ⊢
    have hcl := own_cells hb5
    have hfz := own_frozen hb5
    go_wp2_with fail
    (try simp only [Exit.inBlock, Exit.then])
    refine bodyPost_ret (v := .tuple #[.slice a ts.length c, .agg #[.int .i64 ge, .int .i64 0, .int .i64 0, .int .i64 0, .int .i64 0]]) (by simp [results, Try.results14, go_sem, hcl]) rfl ?_
    have hb6 := ((Below.refl w.heap.size w).alloc (Nat.le_refl _) _).trans (hb5.mono (by simp))
    exact ⟨a, c, by rw [HO.out]; rfl, by rw [HO.out]; exact hnc, hc, Near.self _ _, by rw [HO.out]; exact hr.below (set5 hb6 (Nat.le_refl _) _ _ _ _ _), set5 hb6 (Nat.le_refl _) _ _ _ _ _⟩
  | false =>
    obtain rfl : ge = 0 := by simpa using h0
    by_cases hout : 0 < out
    · have HO : Hid (res = (withL ⟨id, 0, 0, 0, true⟩ ts, Ans.err 0)) := by rw [HP.out, if_neg (by simp), if_pos hout]; exact rfl
      clear HP h0
      go_enter Try.func14, Try.ntmps14
      go_wp2_with (first
        | (go_at_call 16; ((with_reducible refine (pget_any ts _ _ _ _ _ rfl hmax hr1).mono ?_); rw [HG.out]; rintro e w3 ⟨rfl, hb3⟩; have hcl := own_cells hb3; have hfz := own_frozen hb3))
        | (go_at_call 27; ((with_reducible refine (with_any ts _ _ _ ⟨id, 0, 0, 0, true⟩ _ rfl hl hc hnc (Row.alloc (hr1.below hb3) _)).mono ?_); rintro e w7 ⟨a7, c7, rfl, hle7, hn7, hnear7, hr7, hb7⟩; have hb37 := (hb3.alloc hb3.size (.cells #[.int .i64 0, .int .i64 grate, .int .i64 gburst, .int .i64 glease, .int .i64 gsize] 27)); have hb07 := hb37.trans (hb7.mono hb37.size); have hcl := own_cells hb07; have hfz := own_frozen hb07)))
      (try simp only [Exit.inBlock, Exit.then])
      refine bodyPost_ret (v := .tuple #[.slice a7 (withL ⟨id, 0, 0, 0, true⟩ ts).length c7, .agg #[.int .i64 0, .int .i64 0, .int .i64 0, .int .i64 0, .int .i64 0]]) (by simp [results, Try.results14, go_sem, hcl]) rfl ?_
      (try simp only [Exit.inBlock, Exit.then])
      have hb8 := ((Below.refl w.heap.size w).alloc (Nat.le_refl _) _).trans (hb07.mono (by simp))
      have hsz := hb3.size
      simp at hsz
      exact ⟨a7, c7, by rw [HO.out]; rfl, by rw [HO.out]; exact hle7, hn7, (hnear7.mono (by simp; omega)).trans' _, by rw [HO.out]; exact Row.set5 hr7 (hnear7.ne (by simp; omega)) _ _ _ _ _, set5 hb8 (Nat.le_refl _) _ _ _ _ _⟩
    · have HO : Hid (res = (withoutL id ts, Ans.err 0)) := by rw [HP.out, if_neg (by simp), if_neg hout]; exact rfl
      clear HP h0
      go_enter Try.func14, Try.ntmps14
      go_wp2_with (first
        | (go_at_call 16; ((with_reducible refine (pget_any ts _ _ _ _ _ rfl hmax hr1).mono ?_); rw [HG.out]; rintro e w3 ⟨rfl, hb3⟩; have hcl := own_cells hb3; have hfz := own_frozen hb3))
        | (go_at_call 38; ((with_reducible refine (without_any ts _ _ _ id _ rfl hl hc hnc (Row.alloc (hr1.below hb3) _)).mono ?_); rintro e w7 ⟨a7, c7, rfl, hle7, hn7, hnear7, hr7, hb7⟩; have hb37 := (hb3.alloc hb3.size (.cells #[.int .i64 0, .int .i64 grate, .int .i64 gburst, .int .i64 glease, .int .i64 gsize] 27)); have hb07 := hb37.trans (hb7.mono hb37.size); have hcl := own_cells hb07; have hfz := own_frozen hb07)))
      (try simp only [Exit.inBlock, Exit.then])
      refine bodyPost_ret (v := .tuple #[.slice a7 (withoutL id ts).length c7, .agg #[.int .i64 0, .int .i64 0, .int .i64 0, .int .i64 0, .int .i64 0]]) (by simp [results, Try.results14, go_sem, hcl]) rfl ?_
      (try simp only [Exit.inBlock, Exit.then])
      have hb8 := ((Below.refl w.heap.size w).alloc (Nat.le_refl _) _).trans (hb07.mono (by simp))
      have hsz := hb3.size
      simp at hsz
      exact ⟨a7, c7, by rw [HO.out]; rfl, by rw [HO.out]; exact hle7, hn7, hnear7.mono (by simp; omega), by rw [HO.out]; exact Near.apart hr hnear7 (by simp; omega) (fun h => by cases ts with | nil => rfl | cons x xs => simp [Tenant.cells] at h) hr7 _ _ _ _ _, set5 hb8 (Nat.le_refl _) _ _ _ _ _⟩
end Go.Proofs.Ytnpbajmpenpnbaa
