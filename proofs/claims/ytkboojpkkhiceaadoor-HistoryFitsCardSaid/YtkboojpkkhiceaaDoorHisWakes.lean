import Derived.Test.YtkboojpkkhiceaaDoorHisFits
set_option linter.unusedVariables false
set_option linter.unusedSimpArgs false
/- What the document says of a put and a get; the same tables (weirlaw29's own). -/
namespace Go.Proofs.YtkboojpkkhiceaaDoor
open Go.ChangeShapes Go.WideShapes Go.ChangeAt Go.RowKit
set_option maxRecDepth 100000

def callP (p : Bool) (f t : Int) : HCall := if p then ⟨⟨1, 0, 0, 1, 5, 6, 0, 0, 0, 0, 0, false, ⟨none, 0, 0⟩⟩, f, t, ⟨0, 5, 6, 0, 0⟩⟩ else ⟨⟨2, 0, 0, 1, 0, 0, 0, 0, 0, 0, 0, false, ⟨none, 0, 0⟩⟩, f, t, ⟨161, 0, 0, 0, 0⟩⟩
theorem results_cal {fn : Func} {p : Tmp} (h : fn.results = #[.cell p 41]) (tmps : Array Value) (w : World) (b : Nat) (y : HCall) (hp : tmps.getD p undef = .pointer (some ⟨b, 0, none⟩)) (hc : w.rangeAt b 0 (layCal.cells y)) :
    (results fn tmps).run Tryd.prog w = .ok y.agg w := by
  have hl : (loadVar 41 ⟨b, 0, none⟩).run Tryd.prog w = .ok (layCal.val y) w := by
    have h1 := layCal.load w b 0 y hc
    simpa only [Instr.loadAt, Instr.sureAddr, Sem.run_bind, Sem.run_pure, Result.andThen_ok] using h1
  have hp2 : (tmps[p]?).getD undef = .pointer (some ⟨b, 0, none⟩) := by rw [← hp]; simp
  simp only [results, h]
  simp [Sem.run_bind, Result.andThen, hp2, asAddr, hl]
  rfl
theorem call_any (p : Bool) (f t : Int) (w : World) : Calls Tryd.prog 18 #[.bool p, .int .i64 f, .int .i64 t] w fun e w' => e = .returned (callP p f t).agg ∧ Below w.heap.size w w' := by
  cases p
  · go_enter Tryd.func18, Tryd.ntmps18
    go_wp2_with (refine wpList_store_box layCal rfl (.tmp 6) (.tmp 17) rfl (callP false f t) rfl rfl rfl ?_; intro w2 hw2 ht2 hb2 hs2; have HX := Lib.hid hw2; have HB := Lib.hid hb2; clear hw2 ht2 hb2 hs2)
    (try simp only [Exit.inBlock, Exit.then])
    refine bodyPost_ret (results_cal rfl _ _ w.heap.size (callP false f t) rfl HX.out) rfl ?_
    exact ⟨rfl, HB.out⟩
  · go_enter Tryd.func18, Tryd.ntmps18
    go_wp2_with (refine wpList_store_box layCal rfl (.tmp 6) (.tmp 12) rfl (callP true f t) rfl rfl rfl ?_; intro w2 hw2 ht2 hb2 hs2; have HX := Lib.hid hw2; have HB := Lib.hid hb2; clear hw2 ht2 hb2 hs2)
    (try simp only [Exit.inBlock, Exit.then])
    refine bodyPost_ret (results_cal rfl _ _ w.heap.size (callP true f t) rfl HX.out) rfl ?_
    exact ⟨rfl, HB.out⟩
theorem fits_one : fitsF [callP true 1 2, callP false 3 4] = ([], false, 0) := by decide +kernel
theorem fits_two : fitsF [callP true 1 4, callP false 2 3] = ([1, 0], true, 0) := by decide +kernel
/-- Fits of two calls that lie in a new row. -/
theorem fits_pair (x y : HCall) (w : World) (te : TypeId) (htab : Lib.TabIs Tryd.prog w "internal/strconv.uint64pow10" .u64 Lib.pow10Tab) :
    Calls Tryd.prog 14 #[.slice (some ⟨w.heap.size, 0, none⟩) 2 2] (w.alloc (.cells (x.cells ++ y.cells).toArray te)) (RetFits [x, y] (w.alloc (.cells (x.cells ++ y.cells).toArray te))) := by
  have hb : Below w.heap.size w (w.alloc (.cells (x.cells ++ y.cells).toArray te)) := (Below.refl _ _).alloc (Nat.le_refl _) _
  refine hfits_any [x, y] _ 2 2 _ rfl (by decide) ?_ (.inr fun b o s e => ?_) ((Lib.tabBelow_of_tabIs htab).on hb).here
  · have h : Row (w.alloc (.cells (x.cells ++ y.cells).toArray te)) (some ⟨w.heap.size, 0, none⟩) (x.cells ++ y.cells) := Row.new _ _ _ _
    have e : [x, y].flatMap layCal.cells = x.cells ++ y.cells := by simp; rfl
    show Row _ _ _
    rw [e]; exact h
  · simp only [Option.some.injEq, Addr.mk.injEq] at e
    rw [← e.1]; simp
set_option maxHeartbeats 8000000 in
theorem wakes_any (w : World) (htab : Lib.TabIs Tryd.prog w "internal/strconv.uint64pow10" .u64 Lib.pow10Tab) :
    Calls Tryd.prog 8 #[] w fun e w' => e = .returned (.bool true) ∧ Below w.heap.size w w' := by
  have HT := Lib.hid (Lib.tabBelow_of_tabIs htab)
  clear htab
  have HC := Lib.hid call_any
  have HF1 : Hid (∀ w1 te, Below w.heap.size w w1 → Calls Tryd.prog 14 #[.slice (some ⟨w1.heap.size, 0, none⟩) 2 2] (w1.alloc (.cells ((callP true 1 2).cells ++ (callP false 3 4).cells).toArray te)) (RetFits [callP true 1 2, callP false 3 4] (w1.alloc (.cells ((callP true 1 2).cells ++ (callP false 3 4).cells).toArray te)))) := fun w1 te hb => fits_pair _ _ w1 te (HT.out.on hb).here
  have HF2 : Hid (∀ w1 te, Below w.heap.size w w1 → Calls Tryd.prog 14 #[.slice (some ⟨w1.heap.size, 0, none⟩) 2 2] (w1.alloc (.cells ((callP true 1 4).cells ++ (callP false 2 3).cells).toArray te)) (RetFits [callP true 1 4, callP false 2 3] (w1.alloc (.cells ((callP true 1 4).cells ++ (callP false 2 3).cells).toArray te)))) := fun w1 te hb => fits_pair _ _ w1 te (HT.out.on hb).here
  go_enter Tryd.func8, Tryd.ntmps8
  go_wp2_with fail
  (with_reducible refine (HC.out true 1 2 w).mono ?_)
  rintro e w1 ⟨rfl, hb1⟩
  have HB1 := Lib.hid hb1
  clear hb1
  go_wp2_with fail
  (with_reducible refine (HC.out false 3 4 w1).mono ?_)
  rintro e w2 ⟨rfl, hb2⟩
  have HB2 := Lib.hid (HB1.out.trans (hb2.mono HB1.out.size))
  clear hb2
  go_wp2_with fail
  refine (HF1.out w2 _ HB2.out).mono ?_
  intro e w3 hret
  rw [RetFits, fits_one] at hret
  obtain ⟨a3, c3, rfl, -, -, hb3⟩ := hret
  have HB3 := Lib.hid (HB2.out.trans ((mid_alloc' hb3).mono HB2.out.size))
  clear hb3
  go_wp2_with fail
  (with_reducible refine (HC.out true 1 4 w3).mono ?_)
  rintro e w4 ⟨rfl, hb4⟩
  have HB4 := Lib.hid (HB3.out.trans (hb4.mono HB3.out.size))
  clear hb4
  go_wp2_with fail
  (with_reducible refine (HC.out false 2 3 w4).mono ?_)
  rintro e w5 ⟨rfl, hb5⟩
  have HB5 := Lib.hid (HB4.out.trans (hb5.mono HB4.out.size))
  clear hb5
  go_wp2_with fail
  refine (HF2.out w5 _ HB5.out).mono ?_
  intro e w6 hret
  rw [RetFits, fits_two] at hret
  obtain ⟨a6, c6, rfl, hr6, -, hb6⟩ := hret
  have HB6 := Lib.hid (HB5.out.trans ((mid_alloc' hb6).mono HB5.out.size))
  rcases hr6 with h | ⟨b, o, rfl, hc⟩
  · cases h
  have e0 : w6.cell? ⟨b, o, none⟩ = some (.int .i64 1) := hc 0 (by decide)
  have e1 : w6.cell? ⟨b, o + 1, none⟩ = some (.int .i64 0) := hc 1 (by decide)
  clear hb6 hc
  go_wp2
  go_returns
  exact ⟨rfl, HB6.out⟩
set_option maxHeartbeats 4000000 in
theorem table_any (xs : List Force) (a1 a2 : Option Addr) (n c1 c2 : Nat) (w : World) (hn : xs.length = n) (hl : n ≤ 1000000) (h1 : LRow layFce w a1 xs) (h2 : LRow layFce w a2 xs) :
    Calls Tryd.prog 11 #[.slice a1 n c1, .slice a2 n c2] w fun e w' => e = .returned (.bool true) ∧ Below w.heap.size w w' := by
  have HN := Lib.hid hn
  have H1 := Lib.hid (fun k (hk : k < xs.length) => atFce h1 hk)
  have H2 := Lib.hid (fun k (hk : k < xs.length) => atFce h2 hk)
  clear hn h1 h2
  go_enter Tryd.func11, Tryd.ntmps11
  go_wp2_with fail
  go_loopw [13] (fun i wr => ∃ k : Nat, k ≤ n ∧ i = .int .i64 k ∧ Hid (Below w.heap.size w wr)) (fun i _ => n - (intOf i).toNat)
  case atStart => exact ⟨0, Nat.zero_le _, rfl, Below.refl _ _⟩
  case round =>
    obtain ⟨k, hk, rfl, HB⟩ := hrel
    by_cases hlt : k < n
    · have hke : k < xs.length := by rw [HN.out]; exact hlt
      obtain ⟨b1, o1, ha1, hc1⟩ := H1.out k hke
      obtain ⟨b2, o2, ha2, hc2⟩ := H2.out k hke
      subst ha1 ha2
      have ⟨i0, i1, i2, i3⟩ := hc1 _ HB.out
      have ⟨j0, j1, j2, j3⟩ := hc2 _ HB.out
      clear hc1 hc2 H1 H2
      have hq := fun w' => neqFce_run xs[k] xs[k] w'
      rw [decide_eq_true rfl] at hq
      generalize xs[k] = x at i0 i1 i2 i3 j0 j1 j2 j3 hq
      obtain ⟨x0, x1, x2, x3⟩ := x
      simp only at i0 i1 i2 i3 j0 j1 j2 j3 hq
      have g1 : (0 : Int) ≤ (k : Int) := by omega
      have g2 : (k : Int) < (n : Int) := by omega
      go_wp2_with fail
      go_quiet (fail)
      go_wp2_with fail
      go_roundw
      case rel => exact ⟨k + 1, by omega, by go_num, below_drewN HB.out _⟩
      case measure => simp [intOf]; omega
    · obtain rfl : k = n := by omega
      go_wp2_with fail
      go_ret
      exact ⟨rfl, HB.out⟩
end Go.Proofs.YtkboojpkkhiceaaDoor
