import Derived.Test.YtoofmofaimdhpaaRefRepSpend
import Derived.Test.YtoofmofaimdhpaaRefRepKeep
import Derived.Test.YtoofmofaimdhpaaRefRepGone
import Derived.Test.YtoofmofaimdhpaaRefRepBack
import Derived.Test.YtoofmofaimdhpaaLedWakes
import Derived.Test.YtoofmofaimdhpaaPackLedgerCap1
import Derived.Test.YtoofmofaimdhpaaLedReport
import Derived.Test.YtoofmofaimdhpaaPackA4
import Derived.Test.YtoofmofaimdhpaaPackLedgerReports1
import Derived.Deep.Cut
import Derived.Deep.RegionHeld3
import Derived.StillTailTactics
set_option linter.unusedVariables false
set_option linter.unusedSimpArgs false
/- weirref18.Report: what any state answers. -/
namespace Go.Proofs.Ytoofmofaimdhpaa
open Go.ChangeShapes Go.WideShapes Go.ChangeAt Go.RowKit
set_option maxRecDepth 100000

theorem refreport_st (s : St) (r : Raw) (B : Nat) (sh ep le sp : Int) (cl : Bool) (w : World) (h : StAt w B r s) (hl1 : s.tens.length ≤ 800) (hl2 : s.leas.length ≤ 900) (hl3 : s.sess.length ≤ 900) (hl4 : s.dsks.length ≤ 900) :
    Calls Try.prog 23 #[r.agg, .int .i64 sh, .int .i64 ep, .int .i64 le, .int .i64 sp, .bool cl] w (RetSE w (reportS s sh ep le sp cl)) := by
  cases hok : stOk s with
  | false =>
    rw [show reportS s sh ep le sp cl = (s, 2) by unfold reportS; rw [if_pos hok]]
    exact refreport_bad s r B sh ep le sp cl w h hl1 hl2 hl3 hl4 hok
  | true =>
    have hno : ¬ (stOk s = false) := by rw [hok]; simp
    obtain ⟨h1, h2, h3, h4⟩ := stOk_parts hok
    have hfit := leasOk_fits h1 h2
    have hfl := find_le hok sh ep le
    rcases hfs : findSt s le with ⟨⟨i0, i1, i2, i3, i4, i5, i6⟩, ok⟩
    rw [hfs] at hfl
    simp only at hfl
    have hunf : reportS s sh ep le sp cl = match s.leas.find? (leaIs sh ep le) with
        | none => (sweptS s, 180)
        | some x =>
          if sp < x.spent ∨ x.size < sp then (sweptS s, 2)
          else if cl = false ∧ sp < x.size then (sweptS { s with leas := spendL le sp s.leas }, 0)
          else (sweptS { s with leas := dropL le s.leas, tens := if cl = true ∧ (findT s.tens x.tenant).1.gone = false then (setS s.tens (backT s x sp)).1 else s.tens }, 0) := by
      unfold reportS; rw [if_neg hno]; rfl
    cases ok with
    | false =>
      rw [if_neg (by simp)] at hfl
      rw [hunf, hfl]
      exact refreport_none s r B sh ep le sp cl w h hl1 hl2 hl3 hl4 hok i0 i1 i2 i3 i4 i5 i6 hfs
    | true =>
      obtain ⟨-, hx, he0⟩ := findSt_mem hfs
      simp only at he0
      subst he0
      have hpos := List.length_pos_of_mem hx
      by_cases g1 : i2 = sh
      · subst g1
        by_cases g2 : i3 = ep
        · subst g2
          rw [if_pos (by simp)] at hfl
          rw [hunf, hfl]
          simp only
          obtain ⟨y1, y2, y3, y4, y5⟩ := lea_parts h2 hx
          simp only at y1 y2 y3 y4 y5
          by_cases c1 : sp < i6
          · rw [if_pos (.inl c1)]
            exact refreport_less s r B i2 i3 i0 sp cl w h hl1 hl2 hl3 hl4 hok i0 i1 i4 i5 i6 hfs c1
          by_cases c2 : i5 < sp
          · rw [if_pos (.inr c2)]
            exact refreport_more s r B i2 i3 i0 sp cl w h hl1 hl2 hl3 hl4 hok i0 i1 i4 i5 i6 hfs (by omega) c2
          rw [if_neg (by omega)]
          by_cases c3 : cl = false ∧ sp < i5
          · rw [if_pos c3]
            have hok2 := leasOk_spend h2 hx (show i6 ≤ sp by omega) c3.2
            exact refreport_spend s r B i2 i3 i0 sp cl w h hl1 hl2 hl3 hl4 hok i0 i1 i4 i5 i6 hfs c3.1 (by omega) c3.2 (leasOk_fits h1 hok2) hpos
          rw [if_neg c3]
          have hfd : findT s.tens i1 = ((findT s.tens i1).1, (findT s.tens i1).2) := rfl
          have hten := findT_mem h1 y1
          have hbk := (tensOk_iff.1 h1).1 _ hten.1
          have hbk2 := okT_parts hbk.2
          have hne : s.tens ≠ [] := List.ne_nil_of_mem hten.1
          unfold backT
          simp only
          generalize (findT s.tens i1).1 = t at hfd hbk2 ⊢
          generalize (findT s.tens i1).2 = fok at hfd
          obtain ⟨fid, frate, fburst, fbucket, fgone⟩ := t
          simp only at hbk2
          cases cl with
          | false =>
            rw [if_neg (by simp)]
            exact refreport_keep s r B i2 i3 i0 sp false w h hl1 hl2 hl3 hl4 hok i0 i1 i4 i5 i6 hfs fid frate fburst fbucket fgone fok hfd rfl (by omega) (by simp at c3; omega)
          | true =>
            cases fgone with
            | true =>
              rw [if_neg (by simp)]
              exact refreport_gone s r B i2 i3 i0 sp true w h hl1 hl2 hl3 hl4 hok i0 i1 i4 i5 i6 hfs fid frate fburst fbucket fok hfd rfl (by omega) (by omega)
            | false =>
              rw [if_pos (by simp)]
              exact refreport_back s r B i2 i3 i0 sp true w h hl1 hl2 hl3 hl4 hok i0 i1 i4 i5 i6 hfs fid frate fburst fbucket fok hfd rfl (by omega) (by omega) (by omega) (by omega) hbk2.2.2.1 hbk2.2.2.2.1 hne
        · rw [if_neg (by simp [g2])] at hfl
          rw [hunf, hfl]
          exact refreport_ep s r B i2 ep i0 sp cl w h hl1 hl2 hl3 hl4 hok i0 i1 i3 i4 i5 i6 hfs g2
      · rw [if_neg (by simp [g1])] at hfl
        rw [hunf, hfl]
        exact refreport_sh s r B sh ep i0 sp cl w h hl1 hl2 hl3 hl4 hok i0 i1 i2 i3 i4 i5 i6 hfs g1
end Go.Proofs.Ytoofmofaimdhpaa

/- LedgerReports: the walk. -/
namespace Go.Proofs.Ytoofmofaimdhpaa
open Go.ChangeShapes Go.WideShapes Go.ChangeAt Go.RowKit
set_option maxRecDepth 100000

theorem report_same (s : St) (sh ep le sp : Int) (cl : Bool) : (reportS s sh ep le sp cl).1.sess = s.sess ∧ (reportS s sh ep le sp cl).1.dsks = s.dsks := by
  unfold reportS
  repeat' (first | exact ⟨rfl, rfl⟩ | split)
theorem expire_same (s : St) (l : List Int) : (expireS s l).sess = s.sess ∧ (expireS s l).dsks = s.dsks := by
  unfold expireS
  split <;> exact ⟨rfl, rfl⟩
set_option maxHeartbeats 32000000 in
theorem lreports_great (s : St) (r : Raw) (sh ep le sp : Int) (cl : Bool) (za : Option Addr) (zs : List Int) (zn zc : Nat) (w : World) (h : StAt w 0 r s) (hzn : zs.length = zn) (hz : Row w za (zs.map (Value.int .i64))) (hg : greatB s = true) :
    Calls Try.prog 7 #[r.agg, .int .i64 sh, .int .i64 ep, .int .i64 le, .int .i64 sp, .bool cl, .slice za zn zc] w fun e w' => e = .returned (.bool true) ∧ Below w.heap.size w w' := by
  have HG := Lib.hid (fun w' (hb : Below w.heap.size w w') => great_st s r 0 w' (h.below hb))
  have HGG := Lib.hid hg
  obtain ⟨term, stamp, next, ⟨a1, n1, c1⟩, ⟨a2, n2, c2⟩, ⟨a3, n3, c3⟩, ⟨a4, n4, c4⟩⟩ := r
  have HBX : Hid (∀ w', Below (w.alloc (.cells #[.int .i64 term, .int .i64 stamp, .int .i64 next, .slice a1 n1 c1, .slice a2 n2 c2, .slice a3 n3 c3, .slice a4 n4 c4] 27)).heap.size (w.alloc (.cells #[.int .i64 term, .int .i64 stamp, .int .i64 next, .slice a1 n1 c1, .slice a2 n2 c2, .slice a3 n3 c3, .slice a4 n4 c4] 27)) w' → Box w' w.heap.size (Raw.cells ⟨term, stamp, next, ⟨a1, n1, c1⟩, ⟨a2, n2, c2⟩, ⟨a3, n3, c3⟩, ⟨a4, n4, c4⟩⟩)) := fun w' hb => Box.of_alloc hb
  clear h hg hz
  go_enter Try.func7, Try.ntmps7
  go_wp2_with (first
      | (have hgq := HB2; clear hgq; go_at_call 10; ((with_reducible refine (wakes_true _).mono ?_); rintro e w9 ⟨rfl, hb9⟩; have HB9 := Lib.hid (below_on HB2.out hb9)))
      | (go_at_call 9; ((with_reducible refine (HG.out _ (by repeat' (first | (with_reducible exact Below.refl _ _) | (with_reducible assumption) | (with_reducible refine Below.drew ?_) | (with_reducible refine Below.more ?_ _) | (with_reducible refine Below.put ?_ ?_ _) | (with_reducible refine Below.next ?_ (by with_reducible assumption)) | (with_reducible exact Nat.le_refl _) | (with_reducible refine Below.size' ?_) | omega))).mono ?_); rw [HGG.out]; rintro e w2 ⟨rfl, hb2⟩; have hb2' : Below w.heap.size w w2 := (by repeat' (first | (with_reducible exact Below.refl _ _) | (with_reducible assumption) | (with_reducible refine Below.drew ?_) | (with_reducible refine Below.more ?_ _) | (with_reducible refine Below.put ?_ ?_ _) | (with_reducible refine Below.next ?_ (by with_reducible assumption)) | (with_reducible exact Nat.le_refl _) | (with_reducible refine Below.size' ?_) | omega)); have HB2 := Lib.hid hb2'; have HX2 := Lib.hid (HBX.out w2 (by repeat' (first | (with_reducible exact Below.refl _ _) | (with_reducible assumption) | (with_reducible refine Below.drew ?_) | (with_reducible refine Below.more ?_ _) | (with_reducible refine Below.put ?_ ?_ _) | (with_reducible refine Below.next ?_ (by with_reducible assumption)) | (with_reducible exact Nat.le_refl _) | (with_reducible refine Below.size' ?_) | omega))); clear hb2'))
      | (refine wpList_load_as laySt rfl (.tmp 7) rfl w.heap.size 0 rfl ⟨term, stamp, next, ⟨a1, n1, c1⟩, ⟨a2, n2, c2⟩, ⟨a3, n3, c3⟩, ⟨a4, n4, c4⟩⟩ (.agg #[.int .i64 term, .int .i64 stamp, .int .i64 next, .slice a1 n1 c1, .slice a2 n2 c2, .slice a3 n3 c3, .slice a4 n4 c4]) rfl (HBX.out _ (by repeat' (first | (with_reducible exact Below.refl _ _) | (with_reducible assumption) | (with_reducible refine Below.drew ?_) | (with_reducible refine Below.more ?_ _) | (with_reducible refine Below.put ?_ ?_ _) | (with_reducible refine Below.next ?_ (by with_reducible assumption)) | (with_reducible exact Nat.le_refl _) | (with_reducible refine Below.size' ?_) | omega))).range ?_))
  go_returns
  exact ⟨rfl, HB9.out⟩
set_option maxHeartbeats 32000000 in
theorem lreports_long (s : St) (r : Raw) (sh ep le sp : Int) (cl : Bool) (za : Option Addr) (zs : List Int) (zn zc : Nat) (w : World) (h : StAt w 0 r s) (hzn : zs.length = zn) (hz : Row w za (zs.map (Value.int .i64))) (hg : greatB s = false) (hl : 100 < zn) :
    Calls Try.prog 7 #[r.agg, .int .i64 sh, .int .i64 ep, .int .i64 le, .int .i64 sp, .bool cl, .slice za zn zc] w fun e w' => e = .returned (.bool true) ∧ Below w.heap.size w w' := by
  have HG := Lib.hid (fun w' (hb : Below w.heap.size w w') => great_st s r 0 w' (h.below hb))
  have HGG := Lib.hid hg
  have d30 : decide ((100 : Int) < (zn : Int)) = true := decide_eq_true (by omega)
  obtain ⟨term, stamp, next, ⟨a1, n1, c1⟩, ⟨a2, n2, c2⟩, ⟨a3, n3, c3⟩, ⟨a4, n4, c4⟩⟩ := r
  have HBX : Hid (∀ w', Below (w.alloc (.cells #[.int .i64 term, .int .i64 stamp, .int .i64 next, .slice a1 n1 c1, .slice a2 n2 c2, .slice a3 n3 c3, .slice a4 n4 c4] 27)).heap.size (w.alloc (.cells #[.int .i64 term, .int .i64 stamp, .int .i64 next, .slice a1 n1 c1, .slice a2 n2 c2, .slice a3 n3 c3, .slice a4 n4 c4] 27)) w' → Box w' w.heap.size (Raw.cells ⟨term, stamp, next, ⟨a1, n1, c1⟩, ⟨a2, n2, c2⟩, ⟨a3, n3, c3⟩, ⟨a4, n4, c4⟩⟩)) := fun w' hb => Box.of_alloc hb
  clear h hg hz
  go_enter Try.func7, Try.ntmps7
  go_wp2_with (first
      | (have hgq := HB2; clear hgq; go_at_call 10; ((with_reducible refine (wakes_true _).mono ?_); rintro e w9 ⟨rfl, hb9⟩; have HB9 := Lib.hid (below_on HB2.out hb9)))
      | (go_at_call 9; ((with_reducible refine (HG.out _ (by repeat' (first | (with_reducible exact Below.refl _ _) | (with_reducible assumption) | (with_reducible refine Below.drew ?_) | (with_reducible refine Below.more ?_ _) | (with_reducible refine Below.put ?_ ?_ _) | (with_reducible refine Below.next ?_ (by with_reducible assumption)) | (with_reducible exact Nat.le_refl _) | (with_reducible refine Below.size' ?_) | omega))).mono ?_); rw [HGG.out]; rintro e w2 ⟨rfl, hb2⟩; have hb2' : Below w.heap.size w w2 := (by repeat' (first | (with_reducible exact Below.refl _ _) | (with_reducible assumption) | (with_reducible refine Below.drew ?_) | (with_reducible refine Below.more ?_ _) | (with_reducible refine Below.put ?_ ?_ _) | (with_reducible refine Below.next ?_ (by with_reducible assumption)) | (with_reducible exact Nat.le_refl _) | (with_reducible refine Below.size' ?_) | omega)); have HB2 := Lib.hid hb2'; have HX2 := Lib.hid (HBX.out w2 (by repeat' (first | (with_reducible exact Below.refl _ _) | (with_reducible assumption) | (with_reducible refine Below.drew ?_) | (with_reducible refine Below.more ?_ _) | (with_reducible refine Below.put ?_ ?_ _) | (with_reducible refine Below.next ?_ (by with_reducible assumption)) | (with_reducible exact Nat.le_refl _) | (with_reducible refine Below.size' ?_) | omega))); clear hb2'))
      | (refine wpList_load_as laySt rfl (.tmp 7) rfl w.heap.size 0 rfl ⟨term, stamp, next, ⟨a1, n1, c1⟩, ⟨a2, n2, c2⟩, ⟨a3, n3, c3⟩, ⟨a4, n4, c4⟩⟩ (.agg #[.int .i64 term, .int .i64 stamp, .int .i64 next, .slice a1 n1 c1, .slice a2 n2 c2, .slice a3 n3 c3, .slice a4 n4 c4]) rfl (HBX.out _ (by repeat' (first | (with_reducible exact Below.refl _ _) | (with_reducible assumption) | (with_reducible refine Below.drew ?_) | (with_reducible refine Below.more ?_ _) | (with_reducible refine Below.put ?_ ?_ _) | (with_reducible refine Below.next ?_ (by with_reducible assumption)) | (with_reducible exact Nat.le_refl _) | (with_reducible refine Below.size' ?_) | omega))).range ?_))
  go_returns
  exact ⟨rfl, HB9.out⟩
set_option maxHeartbeats 32000000 in
theorem lreports_small (s : St) (r : Raw) (sh ep le sp : Int) (cl : Bool) (za : Option Addr) (zs : List Int) (zn zc : Nat) (w : World) (h : StAt w 0 r s) (hzn : zs.length = zn) (hz : Row w za (zs.map (Value.int .i64))) (hg : greatB s = false) (hl : zn ≤ 100) :
    Calls Try.prog 7 #[r.agg, .int .i64 sh, .int .i64 ep, .int .i64 le, .int .i64 sp, .bool cl, .slice za zn zc] w fun e w' => e = .returned (.bool true) ∧ Below w.heap.size w w' := by
  have hsz : s.tens.length ≤ 60 ∧ s.leas.length ≤ 100 ∧ s.sess.length ≤ 60 ∧ s.dsks.length ≤ 60 := by
    have := of_decide_eq_false hg
    omega
  obtain ⟨z1, z2, z3, z4⟩ := hsz
  have HG := Lib.hid (fun w' (hb : Below w.heap.size w w') => great_st s r 0 w' (h.below hb))
  have HGG := Lib.hid hg
  have d30 : decide ((100 : Int) < (zn : Int)) = false := decide_eq_false (by omega)
  have c1' := (fun w' (hb : Below w.heap.size w w') => report_st s r 0 sh ep le sp cl w' (h.below hb) (by omega) (by omega) (by omega) (by omega))
  have c2' := (fun w' (hb : Below w.heap.size w w') => refreport_st s r 0 sh ep le sp cl w' (h.below hb) (by omega) (by omega) (by omega) (by omega))
  have c3' := (fun w' (hb : Below w.heap.size w w') => expire_st s r 0 zs za zn zc w' (h.below hb) (by omega) (by omega) (by omega) (by omega) hzn (by omega) (Row.below hz hb))
  have c4' := (fun w' (hb : Below w.heap.size w w') => refexpire_st s r 0 zs za zn zc w' (h.below hb) (by omega) (by omega) (by omega) (by omega) hzn (by omega) (Row.below hz hb))
  have l1 := report_lens s sh ep le sp cl
  have l2 := report_same s sh ep le sp cl
  have l3 := expire_lens s zs
  have l4 := expire_same s zs
  generalize reportS s sh ep le sp cl = ga at c1' c2' l1 l2
  generalize expireS s zs = d at c3' c4' l3 l4
  obtain ⟨a, ae⟩ := ga
  simp only at l1 l2
  have HL : Hid (a.tens.length ≤ 900 ∧ a.leas.length ≤ 900 ∧ a.sess.length ≤ 900 ∧ a.dsks.length ≤ 900) := ⟨by omega, by omega, by rw [l2.1]; omega, by rw [l2.2]; omega⟩
  have HLD : Hid (d.tens.length ≤ 900 ∧ d.leas.length ≤ 900 ∧ d.sess.length ≤ 900 ∧ d.dsks.length ≤ 900) := ⟨by omega, by omega, by rw [l4.1]; omega, by rw [l4.2]; omega⟩
  have HC1 := Lib.hid c1'
  have HC2 := Lib.hid c2'
  have HC3 := Lib.hid c3'
  have HC4 := Lib.hid c4'
  obtain ⟨term, stamp, next, ⟨a1, n1, c1⟩, ⟨a2, n2, c2⟩, ⟨a3, n3, c3⟩, ⟨a4, n4, c4⟩⟩ := r
  have HBX : Hid (∀ w', Below (w.alloc (.cells #[.int .i64 term, .int .i64 stamp, .int .i64 next, .slice a1 n1 c1, .slice a2 n2 c2, .slice a3 n3 c3, .slice a4 n4 c4] 27)).heap.size (w.alloc (.cells #[.int .i64 term, .int .i64 stamp, .int .i64 next, .slice a1 n1 c1, .slice a2 n2 c2, .slice a3 n3 c3, .slice a4 n4 c4] 27)) w' → Box w' w.heap.size (Raw.cells ⟨term, stamp, next, ⟨a1, n1, c1⟩, ⟨a2, n2, c2⟩, ⟨a3, n3, c3⟩, ⟨a4, n4, c4⟩⟩)) := fun w' hb => Box.of_alloc hb
  clear h hg z1 z2 z3 z4 c1' c2' c3' c4' l1 l2 l3 l4 hz
  go_enter Try.func7, Try.ntmps7
  go_upto_region 5 with (first
      | (have hgq := HB5; clear hgq; refine wpList_store_box laySt rfl (.tmp 17) (.tmp 45) rfl ⟨tb, sb, nb, ⟨x1b, m1b, y1b⟩, ⟨x2b, m2b, y2b⟩, ⟨x3b, m3b, y3b⟩, ⟨x4b, m4b, y4b⟩⟩ rfl rfl rfl ?_; intro w6 hw6 ht6 hb6 hs6; have PB6 : Hid (Box w6 w5.heap.size (Raw.cells ⟨tb, sb, nb, ⟨x1b, m1b, y1b⟩, ⟨x2b, m2b, y2b⟩, ⟨x3b, m3b, y3b⟩, ⟨x4b, m4b, y4b⟩⟩)) := ⟨hw6, ht6⟩; have HB6 := Lib.hid (below_on HB5.out hb6); have HX6 := Lib.hid (HX5.out.next (show 0 < 7 by decide) hb6); have PA6 := Lib.hid (PA5.out.next (show 0 < 7 by decide) hb6); have TA6 := Lib.hid (TA5.out.below hb6); have TB6 := Lib.hid (TB5.out.below hb6); clear hw6 ht6 hs6)
      | (have hgq := HB4; clear hgq; go_at_call 23; ((with_reducible refine (HC2.out w4 HB4.out).mono ?_); rintro e w5 ⟨⟨tb, sb, nb, ⟨x1b, m1b, y1b⟩, ⟨x2b, m2b, y2b⟩, ⟨x3b, m3b, y3b⟩, ⟨x4b, m4b, y4b⟩⟩, rfl, hs5, hb5⟩; have TB5 := Lib.hid hs5; have HB5 := Lib.hid (below_on HB4.out hb5); have HX5 := Lib.hid (HX4.out.next (show 0 < 7 by decide) hb5); have PA5 := Lib.hid (PA4.out.next (show 0 < 7 by decide) hb5); have TA5 := Lib.hid (TA4.out.below hb5); clear hs5))
      | (have hgq := HB4; clear hgq; refine wpList_load_as laySt rfl (.tmp 7) rfl w.heap.size 0 rfl ⟨term, stamp, next, ⟨a1, n1, c1⟩, ⟨a2, n2, c2⟩, ⟨a3, n3, c3⟩, ⟨a4, n4, c4⟩⟩ (.agg #[.int .i64 term, .int .i64 stamp, .int .i64 next, .slice a1 n1 c1, .slice a2 n2 c2, .slice a3 n3 c3, .slice a4 n4 c4]) rfl HX4.out.range ?_)
      | (have hgq := HB3; clear hgq; refine wpList_store_box laySt rfl (.tmp 15) (.tmp 35) rfl ⟨ta, sa, na, ⟨x1a, m1a, y1a⟩, ⟨x2a, m2a, y2a⟩, ⟨x3a, m3a, y3a⟩, ⟨x4a, m4a, y4a⟩⟩ rfl rfl rfl ?_; intro w4 hw4 ht4 hb4 hs4; have PA4 : Hid (Box w4 w3.heap.size (Raw.cells ⟨ta, sa, na, ⟨x1a, m1a, y1a⟩, ⟨x2a, m2a, y2a⟩, ⟨x3a, m3a, y3a⟩, ⟨x4a, m4a, y4a⟩⟩)) := ⟨hw4, ht4⟩; have HB4 := Lib.hid (below_on HB3.out hb4); have HX4 := Lib.hid (HX3.out.next (show 0 < 7 by decide) hb4); have TA4 := Lib.hid (TA3.out.below hb4); clear hw4 ht4 hs4)
      | (have hgq := HB2; clear hgq; go_at_call 22; ((with_reducible refine (HC1.out w2 HB2.out).mono ?_); rintro e w3 ⟨⟨ta, sa, na, ⟨x1a, m1a, y1a⟩, ⟨x2a, m2a, y2a⟩, ⟨x3a, m3a, y3a⟩, ⟨x4a, m4a, y4a⟩⟩, rfl, hs3, hb3⟩; have TA3 := Lib.hid hs3; have HB3 := Lib.hid (below_on HB2.out hb3); have HX3 := Lib.hid (HX2.out.next (show 0 < 7 by decide) hb3); clear hs3))
      | (have hgq := HB2; clear hgq; refine wpList_load_as laySt rfl (.tmp 7) rfl w.heap.size 0 rfl ⟨term, stamp, next, ⟨a1, n1, c1⟩, ⟨a2, n2, c2⟩, ⟨a3, n3, c3⟩, ⟨a4, n4, c4⟩⟩ (.agg #[.int .i64 term, .int .i64 stamp, .int .i64 next, .slice a1 n1 c1, .slice a2 n2 c2, .slice a3 n3 c3, .slice a4 n4 c4]) rfl HX2.out.range ?_)
      | (go_at_call 9; ((with_reducible refine (HG.out _ (by repeat' (first | (with_reducible exact Below.refl _ _) | (with_reducible assumption) | (with_reducible refine Below.drew ?_) | (with_reducible refine Below.more ?_ _) | (with_reducible refine Below.put ?_ ?_ _) | (with_reducible refine Below.next ?_ (by with_reducible assumption)) | (with_reducible exact Nat.le_refl _) | (with_reducible refine Below.size' ?_) | omega))).mono ?_); rw [HGG.out]; rintro e w2 ⟨rfl, hb2⟩; have hb2' : Below w.heap.size w w2 := (by repeat' (first | (with_reducible exact Below.refl _ _) | (with_reducible assumption) | (with_reducible refine Below.drew ?_) | (with_reducible refine Below.more ?_ _) | (with_reducible refine Below.put ?_ ?_ _) | (with_reducible refine Below.next ?_ (by with_reducible assumption)) | (with_reducible exact Nat.le_refl _) | (with_reducible refine Below.size' ?_) | omega)); have HB2 := Lib.hid hb2'; have HX2 := Lib.hid (HBX.out w2 (by repeat' (first | (with_reducible exact Below.refl _ _) | (with_reducible assumption) | (with_reducible refine Below.drew ?_) | (with_reducible refine Below.more ?_ _) | (with_reducible refine Below.put ?_ ?_ _) | (with_reducible refine Below.next ?_ (by with_reducible assumption)) | (with_reducible exact Nat.le_refl _) | (with_reducible refine Below.size' ?_) | omega))); clear hb2'))
      | (refine wpList_load_as laySt rfl (.tmp 7) rfl w.heap.size 0 rfl ⟨term, stamp, next, ⟨a1, n1, c1⟩, ⟨a2, n2, c2⟩, ⟨a3, n3, c3⟩, ⟨a4, n4, c4⟩⟩ (.agg #[.int .i64 term, .int .i64 stamp, .int .i64 next, .slice a1 n1 c1, .slice a2 n2 c2, .slice a3 n3 c3, .slice a4 n4 c4]) rfl (HBX.out _ (by repeat' (first | (with_reducible exact Below.refl _ _) | (with_reducible assumption) | (with_reducible refine Below.drew ?_) | (with_reducible refine Below.more ?_ _) | (with_reducible refine Below.put ?_ ?_ _) | (with_reducible refine Below.next ?_ (by with_reducible assumption)) | (with_reducible exact Nat.le_refl _) | (with_reducible refine Below.size' ?_) | omega))).range ?_))
  have HK : Hid (∀ w', Box w' w.heap.size (Raw.cells ⟨term, stamp, next, ⟨a1, n1, c1⟩, ⟨a2, n2, c2⟩, ⟨a3, n3, c3⟩, ⟨a4, n4, c4⟩⟩) → Box w' w3.heap.size (Raw.cells ⟨ta, sa, na, ⟨x1a, m1a, y1a⟩, ⟨x2a, m2a, y2a⟩, ⟨x3a, m3a, y3a⟩, ⟨x4a, m4a, y4a⟩⟩) → Box w' w5.heap.size (Raw.cells ⟨tb, sb, nb, ⟨x1b, m1b, y1b⟩, ⟨x2b, m2b, y2b⟩, ⟨x3b, m3b, y3b⟩, ⟨x4b, m4b, y4b⟩⟩) → (w'.cell? ⟨w.heap.size, 0, none⟩ = some (.int .i64 term) ∧ w'.cell? ⟨w.heap.size, 1, none⟩ = some (.int .i64 stamp) ∧ w'.cell? ⟨w.heap.size, 2, none⟩ = some (.int .i64 next) ∧ w'.cell? ⟨w.heap.size, 3, none⟩ = some (.slice a1 n1 c1) ∧ w'.cell? ⟨w.heap.size, 4, none⟩ = some (.slice a2 n2 c2) ∧ w'.cell? ⟨w.heap.size, 5, none⟩ = some (.slice a3 n3 c3) ∧ w'.cell? ⟨w.heap.size, 6, none⟩ = some (.slice a4 n4 c4) ∧ w'.cell? ⟨w3.heap.size, 0, none⟩ = some (.int .i64 ta) ∧ w'.cell? ⟨w3.heap.size, 1, none⟩ = some (.int .i64 sa) ∧ w'.cell? ⟨w3.heap.size, 2, none⟩ = some (.int .i64 na) ∧ w'.cell? ⟨w3.heap.size, 3, none⟩ = some (.slice x1a m1a y1a) ∧ w'.cell? ⟨w3.heap.size, 4, none⟩ = some (.slice x2a m2a y2a) ∧ w'.cell? ⟨w3.heap.size, 5, none⟩ = some (.slice x3a m3a y3a) ∧ w'.cell? ⟨w3.heap.size, 6, none⟩ = some (.slice x4a m4a y4a) ∧ w'.cell? ⟨w5.heap.size, 0, none⟩ = some (.int .i64 tb) ∧ w'.cell? ⟨w5.heap.size, 1, none⟩ = some (.int .i64 sb) ∧ w'.cell? ⟨w5.heap.size, 2, none⟩ = some (.int .i64 nb) ∧ w'.cell? ⟨w5.heap.size, 3, none⟩ = some (.slice x1b m1b y1b) ∧ w'.cell? ⟨w5.heap.size, 4, none⟩ = some (.slice x2b m2b y2b) ∧ w'.cell? ⟨w5.heap.size, 5, none⟩ = some (.slice x3b m3b y3b) ∧ w'.cell? ⟨w5.heap.size, 6, none⟩ = some (.slice x4b m4b y4b))) := fun w' x y z => ⟨x.cell (j := 0) rfl, x.cell (j := 1) rfl, x.cell (j := 2) rfl, x.cell (j := 3) rfl, x.cell (j := 4) rfl, x.cell (j := 5) rfl, x.cell (j := 6) rfl, y.cell (j := 0) rfl, y.cell (j := 1) rfl, y.cell (j := 2) rfl, y.cell (j := 3) rfl, y.cell (j := 4) rfl, y.cell (j := 5) rfl, y.cell (j := 6) rfl, z.cell (j := 0) rfl, z.cell (j := 1) rfl, z.cell (j := 2) rfl, z.cell (j := 3) rfl, z.cell (j := 4) rfl, z.cell (j := 5) rfl, z.cell (j := 6) rfl⟩
  refine wp_region_held_drew (S := (fun w' => (w'.cell? ⟨w.heap.size, 0, none⟩ = some (.int .i64 term) ∧ w'.cell? ⟨w.heap.size, 1, none⟩ = some (.int .i64 stamp) ∧ w'.cell? ⟨w.heap.size, 2, none⟩ = some (.int .i64 next) ∧ w'.cell? ⟨w.heap.size, 3, none⟩ = some (.slice a1 n1 c1) ∧ w'.cell? ⟨w.heap.size, 4, none⟩ = some (.slice a2 n2 c2) ∧ w'.cell? ⟨w.heap.size, 5, none⟩ = some (.slice a3 n3 c3) ∧ w'.cell? ⟨w.heap.size, 6, none⟩ = some (.slice a4 n4 c4) ∧ w'.cell? ⟨w3.heap.size, 0, none⟩ = some (.int .i64 ta) ∧ w'.cell? ⟨w3.heap.size, 1, none⟩ = some (.int .i64 sa) ∧ w'.cell? ⟨w3.heap.size, 2, none⟩ = some (.int .i64 na) ∧ w'.cell? ⟨w3.heap.size, 3, none⟩ = some (.slice x1a m1a y1a) ∧ w'.cell? ⟨w3.heap.size, 4, none⟩ = some (.slice x2a m2a y2a) ∧ w'.cell? ⟨w3.heap.size, 5, none⟩ = some (.slice x3a m3a y3a) ∧ w'.cell? ⟨w3.heap.size, 6, none⟩ = some (.slice x4a m4a y4a) ∧ w'.cell? ⟨w5.heap.size, 0, none⟩ = some (.int .i64 tb) ∧ w'.cell? ⟨w5.heap.size, 1, none⟩ = some (.int .i64 sb) ∧ w'.cell? ⟨w5.heap.size, 2, none⟩ = some (.int .i64 nb) ∧ w'.cell? ⟨w5.heap.size, 3, none⟩ = some (.slice x1b m1b y1b) ∧ w'.cell? ⟨w5.heap.size, 4, none⟩ = some (.slice x2b m2b y2b) ∧ w'.cell? ⟨w5.heap.size, 5, none⟩ = some (.slice x3b m3b y3b) ∧ w'.cell? ⟨w5.heap.size, 6, none⟩ = some (.slice x4b m4b y4b)))) (by kernel_rfl) (HK.out _ HX6.out.drew PA6.out.drew PB6.out.drew) (fun hHeld => ?_)
  refine wpAnyH_take (i := 0) (oi := _) (v := ?v0_1) rfl (by kernel_rfl) (by kernel_rfl) (by kernel_rfl) (fun _ _ _ h => h) (Or.inl ⟨by rfl, ?hy0_1⟩) (by assumption) ?rest0_1
  case hy0_1 =>
    intro w hSw
    (try dsimp only at hSw)
    go_simp
    rfl
  case' rest0_1 => try simp only [Act.put, List.setIfInBounds_toArray, List.set_cons_zero, List.set_cons_succ, List.getElem_toArray, List.getElem_cons_zero, List.getElem_cons_succ]
  refine wpAnyH_take (i := 1) (oi := _) (v := ?v1_2) rfl (by kernel_rfl) (by kernel_rfl) (by kernel_rfl) (fun _ _ _ h => h) (Or.inl ⟨by rfl, ?hy1_2⟩) (by assumption) ?rest1_2
  case hy1_2 =>
    intro w hSw
    (try dsimp only at hSw)
    go_simp
    rfl
  case' rest1_2 => try simp only [Act.put, List.setIfInBounds_toArray, List.set_cons_zero, List.set_cons_succ, List.getElem_toArray, List.getElem_cons_zero, List.getElem_cons_succ]
  refine wpAnyH_ready (rs := [2]) (by kernel_rfl) (by simp) ?_
  refine AllReadyH.cons (o := _) rfl (fun K hK => ?_) AllReadyH.nil
  go_simp
  go_at_call 13
  with_reducible refine (same_st a ⟨ta, sa, na, ⟨x1a, m1a, y1a⟩, ⟨x2a, m2a, y2a⟩, ⟨x3a, m3a, y3a⟩, ⟨x4a, m4a, y4a⟩⟩ ⟨tb, sb, nb, ⟨x1b, m1b, y1b⟩, ⟨x2b, m2b, y2b⟩, ⟨x3b, m3b, y3b⟩, ⟨x4b, m4b, y4b⟩⟩ 0 0 w6.drew (TA6.out.below (Below.refl _ _).drew) (TB6.out.below (Below.refl _ _).drew) HL.out.1 HL.out.2.1 HL.out.2.2.1 HL.out.2.2.2).mono ?_
  rintro e w7 ⟨rfl, hb7a⟩
  have hb7 : Below w6.heap.size w6 w7 := ⟨hb7a.os, hb7a.tape, hb7a.output, hb7a.size, hb7a.block⟩
  clear hb7a
  have HB7 := Lib.hid (below_on HB6.out hb7)
  have HX7 := Lib.hid (HX6.out.next (show 0 < 7 by decide) hb7)
  have PA7 := Lib.hid (PA6.out.next (show 0 < 7 by decide) hb7)
  have PB7 := Lib.hid (PB6.out.next (show 0 < 7 by decide) hb7)
  clear hHeld
  refine hK.out _ _ (HK.out _ HX7.out PA7.out PB7.out) (fun hHeld => ?_)
  clear hK K
  try simp only [Act.put, List.setIfInBounds_toArray, List.set_cons_zero, List.set_cons_succ, List.getElem_toArray, List.getElem_cons_zero, List.getElem_cons_succ]
  refine wpAnyH_take (i := 3) (oi := _) (v := ?v3_3) rfl (by kernel_rfl) (by kernel_rfl) (by kernel_rfl) (fun _ _ _ h => h) (Or.inl ⟨by rfl, ?hy3_3⟩) (by assumption) ?rest3_3
  case hy3_3 =>
    intro w hSw
    (try dsimp only at hSw)
    go_simp
    rfl
  case' rest3_3 => try simp only [Act.put, List.setIfInBounds_toArray, List.set_cons_zero, List.set_cons_succ, List.getElem_toArray, List.getElem_cons_zero, List.getElem_cons_succ]
  refine wpAnyH_take (i := 4) (oi := _) (v := ?v4_4) rfl (by kernel_rfl) (by kernel_rfl) (by kernel_rfl) (fun _ _ _ h => h) (Or.inl ⟨by rfl, ?hy4_4⟩) (by assumption) ?rest4_4
  case hy4_4 =>
    intro w hSw
    (try dsimp only at hSw)
    go_simp
    rfl
  case' rest4_4 => try simp only [Act.put, List.setIfInBounds_toArray, List.set_cons_zero, List.set_cons_succ, List.getElem_toArray, List.getElem_cons_zero, List.getElem_cons_succ]
  refine wpAnyH_take (i := 5) (oi := _) (v := ?v5_5) rfl (by kernel_rfl) (by kernel_rfl) (by kernel_rfl) (fun _ _ _ h => h) (Or.inl ⟨by rfl, ?hy5_5⟩) (by assumption) ?rest5_5
  case hy5_5 =>
    intro w hSw
    (try dsimp only at hSw)
    go_simp
    rfl
  case' rest5_5 => try simp only [Act.put, List.setIfInBounds_toArray, List.set_cons_zero, List.set_cons_succ, List.getElem_toArray, List.getElem_cons_zero, List.getElem_cons_succ]
  refine wpAnyH_take (i := 6) (oi := _) (v := ?v6_6) rfl (by kernel_rfl) (by kernel_rfl) (by kernel_rfl) (fun _ _ _ h => h) (Or.inl ⟨by rfl, ?hy6_6⟩) (by assumption) ?rest6_6
  case hy6_6 =>
    intro w hSw
    (try dsimp only at hSw)
    go_simp
    rfl
  case' rest6_6 => try simp only [Act.put, List.setIfInBounds_toArray, List.set_cons_zero, List.set_cons_succ, List.getElem_toArray, List.getElem_cons_zero, List.getElem_cons_succ]
  refine wpAnyH_take (i := 7) (oi := _) (v := ?v7_7) rfl (by kernel_rfl) (by kernel_rfl) (by kernel_rfl) (fun _ _ _ h => h) (Or.inl ⟨by rfl, ?hy7_7⟩) (by assumption) ?rest7_7
  case hy7_7 =>
    intro w hSw
    (try dsimp only at hSw)
    go_simp
    rfl
  case' rest7_7 => try simp only [Act.put, List.setIfInBounds_toArray, List.set_cons_zero, List.set_cons_succ, List.getElem_toArray, List.getElem_cons_zero, List.getElem_cons_succ]
  refine wpAnyH_take (i := 8) (oi := _) (v := ?v8_8) rfl (by kernel_rfl) (by kernel_rfl) (by kernel_rfl) (fun _ _ _ h => h) (Or.inl ⟨by rfl, ?hy8_8⟩) (by assumption) ?rest8_8
  case hy8_8 =>
    intro w hSw
    (try dsimp only at hSw)
    go_simp
    rfl
  case' rest8_8 => try simp only [Act.put, List.setIfInBounds_toArray, List.set_cons_zero, List.set_cons_succ, List.getElem_toArray, List.getElem_cons_zero, List.getElem_cons_succ]
  refine wpAnyH_take (i := 9) (oi := _) (v := ?v9_9) rfl (by kernel_rfl) (by kernel_rfl) (by kernel_rfl) (fun _ _ _ h => h) (Or.inl ⟨by rfl, ?hy9_9⟩) (by assumption) ?rest9_9
  case hy9_9 =>
    intro w hSw
    (try dsimp only at hSw)
    go_simp
    rfl
  case' rest9_9 => try simp only [Act.put, List.setIfInBounds_toArray, List.set_cons_zero, List.set_cons_succ, List.getElem_toArray, List.getElem_cons_zero, List.getElem_cons_succ]
  refine wpAnyH_take (i := 10) (oi := _) (v := ?v10_10) rfl (by kernel_rfl) (by kernel_rfl) (by kernel_rfl) (fun _ _ _ h => h) (Or.inl ⟨by rfl, ?hy10_10⟩) (by assumption) ?rest10_10
  case hy10_10 =>
    intro w hSw
    (try dsimp only at hSw)
    go_simp
    rfl
  case' rest10_10 => try simp only [Act.put, List.setIfInBounds_toArray, List.set_cons_zero, List.set_cons_succ, List.getElem_toArray, List.getElem_cons_zero, List.getElem_cons_succ]
  refine wpAnyH_take (i := 12) (oi := _) (v := ?v12_11) rfl (by kernel_rfl) (by kernel_rfl) (by kernel_rfl) (fun _ _ _ h => h) (Or.inl ⟨by rfl, ?hy12_11⟩) (by assumption) ?rest12_11
  case hy12_11 =>
    intro w hSw
    (try dsimp only at hSw)
    go_simp
    rfl
  case' rest12_11 => try simp only [Act.put, List.setIfInBounds_toArray, List.set_cons_zero, List.set_cons_succ, List.getElem_toArray, List.getElem_cons_zero, List.getElem_cons_succ]
  refine wpAnyH_take (i := 13) (oi := _) (v := ?v13_12) rfl (by kernel_rfl) (by kernel_rfl) (by kernel_rfl) (fun _ _ _ h => h) (Or.inl ⟨by rfl, ?hy13_12⟩) (by assumption) ?rest13_12
  case hy13_12 =>
    intro w hSw
    (try dsimp only at hSw)
    go_simp
    rfl
  case' rest13_12 => try simp only [Act.put, List.setIfInBounds_toArray, List.set_cons_zero, List.set_cons_succ, List.getElem_toArray, List.getElem_cons_zero, List.getElem_cons_succ]
  refine wpAnyH_ready (rs := [11]) (by kernel_rfl) (by simp) ?_
  refine AllReadyH.cons (o := _) rfl (fun K hK => ?_) AllReadyH.nil
  go_simp
  go_at_call 24
  with_reducible refine (HC3.out w7 HB7.out).mono ?_
  rintro e w8 ⟨u1, rfl, hu1, hb8a⟩
  have hb8 : Below w7.heap.size w7 w8 := ⟨hb8a.os, hb8a.tape, hb8a.output, hb8a.size, hb8a.block⟩
  clear hb8a
  have HB8 := Lib.hid (below_on HB7.out hb8)
  have HX8 := Lib.hid (HX7.out.next (show 0 < 7 by decide) hb8)
  have PA8 := Lib.hid (PA7.out.next (show 0 < 7 by decide) hb8)
  have PB8 := Lib.hid (PB7.out.next (show 0 < 7 by decide) hb8)
  have HU1 := Lib.hid hu1
  clear hu1
  clear hHeld
  refine hK.out _ _ (HK.out _ HX8.out PA8.out PB8.out) (fun hHeld => ?_)
  clear hK K
  try simp only [Act.put, List.setIfInBounds_toArray, List.set_cons_zero, List.set_cons_succ, List.getElem_toArray, List.getElem_cons_zero, List.getElem_cons_succ]
  refine wpAnyH_ready (rs := [14]) (by kernel_rfl) (by simp) ?_
  refine AllReadyH.cons (o := _) rfl (fun K hK => ?_) AllReadyH.nil
  go_simp
  go_at_call 25
  with_reducible refine (HC4.out w8 HB8.out).mono ?_
  rintro e w9 ⟨u2, rfl, hu2, hb9a⟩
  have hb9 : Below w8.heap.size w8 w9 := ⟨hb9a.os, hb9a.tape, hb9a.output, hb9a.size, hb9a.block⟩
  clear hb9a
  have HB9 := Lib.hid (below_on HB8.out hb9)
  have HX9 := Lib.hid (HX8.out.next (show 0 < 7 by decide) hb9)
  have PA9 := Lib.hid (PA8.out.next (show 0 < 7 by decide) hb9)
  have PB9 := Lib.hid (PB8.out.next (show 0 < 7 by decide) hb9)
  have HU2 := Lib.hid hu2
  clear hu2
  have HU1b := Lib.hid (HU1.out.below hb9)
  clear hHeld
  refine hK.out _ _ (HK.out _ HX9.out PA9.out PB9.out) (fun hHeld => ?_)
  clear hK K
  try simp only [Act.put, List.setIfInBounds_toArray, List.set_cons_zero, List.set_cons_succ, List.getElem_toArray, List.getElem_cons_zero, List.getElem_cons_succ]
  refine wpAnyH_ready (rs := [15]) (by kernel_rfl) (by simp) ?_
  refine AllReadyH.cons (o := _) rfl (fun K hK => ?_) AllReadyH.nil
  go_simp
  go_at_call 13
  with_reducible refine (same_st d u1 u2 0 0 w9 HU1b.out HU2.out HLD.out.1 HLD.out.2.1 HLD.out.2.2.1 HLD.out.2.2.2).mono ?_
  rintro e w10 ⟨rfl, hb10a⟩
  have hb10 : Below w9.heap.size w9 w10 := ⟨hb10a.os, hb10a.tape, hb10a.output, hb10a.size, hb10a.block⟩
  clear hb10a
  have HB10 := Lib.hid (below_on HB9.out hb10)
  have HX10 := Lib.hid (HX9.out.next (show 0 < 7 by decide) hb10)
  have PA10 := Lib.hid (PA9.out.next (show 0 < 7 by decide) hb10)
  have PB10 := Lib.hid (PB9.out.next (show 0 < 7 by decide) hb10)
  clear hHeld
  refine hK.out _ _ (HK.out _ HX10.out PA10.out PB10.out) (fun hHeld => ?_)
  clear hK K
  try simp only [Act.put, List.setIfInBounds_toArray, List.set_cons_zero, List.set_cons_succ, List.getElem_toArray, List.getElem_cons_zero, List.getElem_cons_succ]
  refine wpAnyH_take (i := 16) (oi := _) (v := ?v16_13) rfl (by kernel_rfl) (by kernel_rfl) (by kernel_rfl) (fun _ _ _ h => h) (Or.inl ⟨by rfl, ?hy16_13⟩) (by assumption) ?rest16_13
  case hy16_13 =>
    intro w hSw
    (try dsimp only at hSw)
    go_simp
    rfl
  case' rest16_13 => try simp only [Act.put, List.setIfInBounds_toArray, List.set_cons_zero, List.set_cons_succ, List.getElem_toArray, List.getElem_cons_zero, List.getElem_cons_succ]
  refine wpAnyH_take (i := 17) (oi := _) (v := ?v17_14) rfl (by kernel_rfl) (by kernel_rfl) (by kernel_rfl) (fun _ _ _ h => h) (Or.inl ⟨by rfl, ?hy17_14⟩) (by assumption) ?rest17_14
  case hy17_14 =>
    intro w hSw
    (try dsimp only at hSw)
    go_simp
    rfl
  case' rest17_14 => try simp only [Act.put, List.setIfInBounds_toArray, List.set_cons_zero, List.set_cons_succ, List.getElem_toArray, List.getElem_cons_zero, List.getElem_cons_succ]
  refine wpAnyH_ready (rs := [18]) (by kernel_rfl) (by simp) ?_
  refine AllReadyH.cons (o := _) rfl (fun K hK => ?_) AllReadyH.nil
  go_simp
  go_at_call 10
  with_reducible refine (wakes_true _).mono ?_
  rintro e w11 ⟨rfl, hb11a⟩
  have hb11 : Below w10.heap.size w10 w11 := ⟨hb11a.os, hb11a.tape, hb11a.output, hb11a.size, hb11a.block⟩
  clear hb11a
  have HB11 := Lib.hid (below_on HB10.out hb11)
  have HX11 := Lib.hid (HX10.out.next (show 0 < 7 by decide) hb11)
  have PA11 := Lib.hid (PA10.out.next (show 0 < 7 by decide) hb11)
  have PB11 := Lib.hid (PB10.out.next (show 0 < 7 by decide) hb11)
  clear hHeld
  refine hK.out _ _ (HK.out _ HX11.out PA11.out PB11.out) (fun hHeld => ?_)
  clear hK K
  try simp only [Act.put, List.setIfInBounds_toArray, List.set_cons_zero, List.set_cons_succ, List.getElem_toArray, List.getElem_cons_zero, List.getElem_cons_succ]
  refine wpAnyH_take (i := 19) (oi := _) (v := ?v19_15) rfl (by kernel_rfl) (by kernel_rfl) (by kernel_rfl) (fun _ _ _ h => h) (Or.inl ⟨by rfl, ?hy19_15⟩) (by assumption) ?rest19_15
  case hy19_15 =>
    intro w hSw
    (try dsimp only at hSw)
    go_simp
    rfl
  case' rest19_15 => try simp only [Act.put, List.setIfInBounds_toArray, List.set_cons_zero, List.set_cons_succ, List.getElem_toArray, List.getElem_cons_zero, List.getElem_cons_succ]
  refine wpAnyH_take (i := 20) (oi := _) (v := ?v20_16) rfl (by kernel_rfl) (by kernel_rfl) (by kernel_rfl) (fun _ _ _ h => h) (Or.inl ⟨by rfl, ?hy20_16⟩) (by assumption) ?rest20_16
  case hy20_16 =>
    intro w hSw
    (try dsimp only at hSw)
    go_simp
    rfl
  case' rest20_16 => try simp only [Act.put, List.setIfInBounds_toArray, List.set_cons_zero, List.set_cons_succ, List.getElem_toArray, List.getElem_cons_zero, List.getElem_cons_succ]
  refine wpAnyH_done (by kernel_rfl) ?_ _
  clear hHeld
  go_wp2_with fail
  go_returns
  exact ⟨rfl, HB11.out⟩
theorem law_lreports (s : St) (r : Raw) (sh ep le sp : Int) (cl : Bool) (za : Option Addr) (zs : List Int) (zn zc : Nat) (w : World) (h : StAt w 0 r s) (hzn : zs.length = zn) (hz : Row w za (zs.map (Value.int .i64))) :
    Calls Try.prog 7 #[r.agg, .int .i64 sh, .int .i64 ep, .int .i64 le, .int .i64 sp, .bool cl, .slice za zn zc] w fun e w' => e = .returned (.bool true) ∧ Below w.heap.size w w' := by
  cases hg : greatB s with
  | true => exact lreports_great s r sh ep le sp cl za zs zn zc w h hzn hz hg
  | false =>
    by_cases hl : 100 < zn
    · exact lreports_long s r sh ep le sp cl za zs zn zc w h hzn hz hg hl
    · exact lreports_small s r sh ep le sp cl za zs zn zc w h hzn hz hg (by omega)
end Go.Proofs.Ytoofmofaimdhpaa
