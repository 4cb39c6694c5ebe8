import Derived.Test.YtoofmofaimdhpaaLedGrant
import Derived.Test.YtoofmofaimdhpaaLedGrantOk
import Derived.Test.YtoofmofaimdhpaaPackA3
import Derived.Test.YtoofmofaimdhpaaLedReport
set_option linter.unusedVariables false
set_option linter.unusedSimpArgs false
/- Grant: what any state answers. -/
namespace Go.Proofs.Ytoofmofaimdhpaa
open Go.ChangeShapes Go.WideShapes Go.ChangeAt Go.RowKit
set_option maxRecDepth 100000

theorem grant_st (s : St) (r : Raw) (B : Nat) (sh ep nu te sz : Int) (w : World) (h : StAt w B r s) (hl1' : s.tens.length ≤ 800) (hl2 : s.leas.length ≤ 900) (hl3 : s.sess.length ≤ 900) (hl4 : s.dsks.length ≤ 900) :
    Calls Try.prog 11 #[r.agg, .int .i64 sh, .int .i64 ep, .int .i64 nu, .int .i64 te, .int .i64 sz] w (RetSA w (grantS s sh ep nu te sz)) := by
  by_cases hng : stOk s = true → (1 ≤ sh ∧ sh ≤ 8 ∧ 1 ≤ ep ∧ 1 ≤ nu ∧ 1 ≤ sz ∧ sz ≤ 1000000) → (findT s.tens te).2 = true → (findT s.tens te).1.gone = false → s.leas.length < 64 → s.next < 1099511627776 → (takeI (findT s.tens te).1.bucket sz).2 ≠ 0
  · exact grant_not s r B sh ep nu te sz w h hl1' hl2 hl3 hl4 hng
  · simp only [Classical.not_imp, Decidable.not_not] at hng
    obtain ⟨hok, ⟨g1, g2, g3, g4, g5, g6⟩, hf, hgo, g7, g8, htk⟩ := hng
    obtain ⟨h1, h2, h3, h4⟩ := stOk_parts hok
    obtain ⟨t1, t2⟩ := findT_range h1 hf
    have hfit : Fits (s.leas ++ [⟨s.next, te, sh, ep, nu, sz, 0⟩]) := by
      intro x hx
      rcases List.mem_append.1 hx with hx | hx
      · exact leasOk_fits h1 h2 x hx
      · rw [List.mem_singleton.1 hx]; simp only; omega
    have hres : grantS s sh ep nu te sz = (sweptS (grownS s { (findT s.tens te).1 with bucket := (takeI (findT s.tens te).1.bucket sz).1 } ⟨s.next, te, sh, ep, nu, sz, 0⟩), ⟨0, (findT s.tens te).1.rate, (findT s.tens te).1.burst, s.next, sz⟩) := by
      unfold grantS
      rw [if_neg (by rw [hok]; simp), if_neg (by unfold argsBad; omega), if_neg (by rw [hf, hgo]; simp), if_neg (by omega), if_neg (by rw [htk]; simp)]
      rfl
    rw [hres]
    have hfd : findT s.tens te = ((findT s.tens te).1, true) := by rw [← hf]
    generalize (findT s.tens te).1 = x at *
    obtain ⟨fid, frate, fburst, fbucket, fgone⟩ := x
    simp only at hgo htk
    subst hgo
    rcases takeI_ways fbucket sz with ht | ht
    · rw [ht] at htk; simp at htk
    · rw [ht]
      exact grant_good s r B sh ep nu te sz fid frate fburst fbucket w h hl1' hl2 hl3 hl4 hok hfd g1 g2 g3 g4 g5 g6 g7 g8 ht h3.2.1 hfit
end Go.Proofs.Ytoofmofaimdhpaa

/- weirlaw18's start: a state of one tenant; what becomes of it, in plain Lean. -/
namespace Go.Proofs.Ytoofmofaimdhpaa
open Go.ChangeShapes Go.WideShapes Go.ChangeAt Go.RowKit
set_option maxRecDepth 100000

abbrev sw0 : St := ⟨0, 0, 1, [⟨3, 1000, 20, 7000, false⟩], [], [], []⟩
abbrev sw1 : St := ⟨0, 0, 2, [⟨3, 1000, 20, 2000, false⟩], [⟨1, 3, 1, 1, 1, 5, 0⟩], [], []⟩
abbrev sw2 : St := ⟨0, 0, 2, [⟨3, 1000, 20, 2000, false⟩], [⟨1, 3, 1, 1, 1, 5, 2⟩], [], []⟩
abbrev sw3 : St := ⟨0, 0, 2, [⟨3, 1000, 20, 4000, false⟩], [], [], []⟩
theorem sw1_eq : grantS sw0 1 1 1 3 5 = (sw1, ⟨0, 1000, 20, 1, 5⟩) := by kernel_rfl
theorem sw2_eq : reportS sw1 1 1 1 2 false = (sw2, 0) := by kernel_rfl
theorem sw3_eq : reportS sw2 1 1 1 3 true = (sw3, 0) := by kernel_rfl
theorem sw4_eq : reportS sw3 1 1 1 3 true = (sw3, 180) := by kernel_rfl
theorem row_new1 {w : World} : LRow layTen (w.alloc (.cells #[.int .i64 3, .int .i64 1000, .int .i64 20, .int .i64 7000, .bool false] 55)) (some ⟨w.heap.size, 0, none⟩) [⟨3, 1000, 20, 7000, false⟩] := Row.new _ _ _ _

theorem SliAt.none {P : Program} {e : TypeId} {α : Type} {L : Lay P e α} {w : World} {B : Nat} : SliAt L w B ⟨.none, 0, 0⟩ [] := ⟨rfl, Nat.le_refl _, fun _ => rfl, Near.nil _ _, .inl rfl⟩

set_option maxHeartbeats 4000000 in
theorem start_any (w : World) : Calls Try.prog 28 #[] w (RetSt w 0 sw0) := by
  go_enter Try.func28, Try.ntmps28
  go_wp2_with fail
  refine ⟨rfl, Raw.agg ⟨0, 0, 1, ⟨some ⟨w.heap.size + 1, 0, none⟩, 1, 1⟩, ⟨none, 0, 0⟩, ⟨none, 0, 0⟩, ⟨none, 0, 0⟩⟩, ?_, _, rfl, ⟨rfl, rfl, rfl, ⟨rfl, Nat.le_refl _, fun h => by simp at h, fun b _ _ _ => .inl (Nat.zero_le b), ?_⟩, SliAt.none, SliAt.none, SliAt.none⟩, (by repeat' (first | (with_reducible exact Below.refl _ _) | (with_reducible assumption) | (with_reducible refine Below.drew ?_) | (with_reducible refine Below.more ?_ _) | (with_reducible refine Below.put ?_ ?_ _) | (with_reducible refine Below.next ?_ (by with_reducible assumption)) | (with_reducible exact Nat.le_refl _) | (with_reducible refine Below.size' ?_) | omega))⟩
  · simp [results, Try.results28, go_sem]
  · have := row_new1 (w := w.alloc (.cells #[.int .i64 0, .int .i64 0, .int .i64 1, .slice (some ⟨w.heap.size + 1, 0, none⟩) 1 1, .slice none 0 0, .slice none 0 0, .slice none 0 0] 27))
    rw [World.size_alloc] at this
    exact this

def RetTrue (w : World) (e : Ending) (w' : World) : Prop := e = .returned (.bool true) ∧ Below w.heap.size w w'
theorem wkGrant (w : World) (r : Raw) (h : StAt w 0 r sw0) : Calls Try.prog 11 #[r.agg, .int .i64 1, .int .i64 1, .int .i64 1, .int .i64 3, .int .i64 5] w (RetSA w (sw1, ⟨0, 1000, 20, 1, 5⟩)) := by
  rw [← sw1_eq]; exact grant_st sw0 r 0 1 1 1 3 5 w h (by decide) (by decide) (by decide) (by decide)
theorem wkRep1 (w : World) (r : Raw) (h : StAt w 0 r sw1) : Calls Try.prog 22 #[r.agg, .int .i64 1, .int .i64 1, .int .i64 1, .int .i64 2, .bool false] w (RetSE w (sw2, 0)) := by
  rw [← sw2_eq]; exact report_st sw1 r 0 1 1 1 2 false w h (by decide) (by decide) (by decide) (by decide)
theorem wkRep2 (w : World) (r : Raw) (h : StAt w 0 r sw2) : Calls Try.prog 22 #[r.agg, .int .i64 1, .int .i64 1, .int .i64 1, .int .i64 3, .bool true] w (RetSE w (sw3, 0)) := by
  rw [← sw3_eq]; exact report_st sw2 r 0 1 1 1 3 true w h (by decide) (by decide) (by decide) (by decide)
theorem wkRep3 (w : World) (r : Raw) (h : StAt w 0 r sw3) : Calls Try.prog 22 #[r.agg, .int .i64 1, .int .i64 1, .int .i64 1, .int .i64 3, .bool true] w (RetSE w (sw3, 180)) := by
  rw [← sw4_eq]; exact report_st sw3 r 0 1 1 1 3 true w h (by decide) (by decide) (by decide) (by decide)
theorem wf3 : (Lit.int .i64 3).wf = true := by decide
theorem wkOut1 (w : World) (r : Raw) (h : StAt w 0 r sw1) : Calls Try.prog 17 #[r.agg, .int .i64 3] w fun e w' => e = .returned (.int .i64 5) ∧ Below w.heap.size w w' :=
  out_any sw1 r 0 3 w h (leasOk_fits (ts := sw1.tens) (next := 2) (by decide) (by decide)) (by decide) wf3
theorem wkOut2 (w : World) (r : Raw) (h : StAt w 0 r sw2) : Calls Try.prog 17 #[r.agg, .int .i64 3] w fun e w' => e = .returned (.int .i64 3) ∧ Below w.heap.size w w' :=
  out_any sw2 r 0 3 w h (leasOk_fits (ts := sw2.tens) (next := 2) (by decide) (by decide)) (by decide) wf3
end Go.Proofs.Ytoofmofaimdhpaa
