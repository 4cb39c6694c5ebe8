import Derived.Test.YtmihgdjnjfjjcaaRwCheck
import Derived.IntWalk
import Derived.Deep.CutRange
import Derived.Deep.CutBlock
import Derived.Test.YtmihgdjnjfjjcaaPackFollowAsks2
import Derived.Test.YtmihgdjnjfjjcaaPackFollowAsks1
import Derived.Test.YtmihgdjnjfjjcaaPackFollowAsks3
import Derived.Deep.Cut
import Derived.Deep.RegionHeld3
import Derived.Laws.BytesArg
import Derived.Laws.IdiomStrings
set_option linter.unusedVariables false
set_option linter.unusedSimpArgs false
/- The last index and term of rows; the term at an index: the program and the document. (printed by gen_rwlast.py) -/
namespace Go.Proofs.Ytmihgdjnjfjjcaa
open Go.ChangeShapes Go.WideShapes Go.ChangeAt Go.RowKit
set_option maxRecDepth 100000

def RetLast (w : World) (b t : Int) (es : List WEnt) (e : Ending) (w' : World) : Prop := ∃ i : Int, e = .returned (.tuple #[.int .i64 i, .int .i64 (lastT t es)]) ∧ (0 ≤ b → b ≤ 1099511627776 → i = b + es.length) ∧ ∃ nd, w' = w.drewN nd
def RetII (w : World) (r : Int × Int) (e : Ending) (w' : World) : Prop := e = .returned (.tuple #[.int .i64 r.1, .int .i64 r.2]) ∧ Below w.heap.size w w'
def RetIB (w : World) (r : Int × Bool) (e : Ending) (w' : World) : Prop := e = .returned (.tuple #[.int .i64 r.1, .bool r.2]) ∧ Below w.heap.size w w'
def lastF (b t : Int) (es : List WEnt) : Int × Int := if okR b t es = true then (b + es.length, lastT t es) else (0, 0)
def termF (b t : Int) (es : List WEnt) (i : Int) : Int × Bool := if okR b t es = true ∧ hasR b es i = true then (termR b t es i, true) else (0, false)
theorem lastF_ok {b t : Int} {es : List WEnt} (h : okR b t es = true) : lastF b t es = (b + es.length, lastT t es) := if_pos h
theorem lastF_not {b t : Int} {es : List WEnt} (h : okR b t es = false) : lastF b t es = (0, 0) := if_neg (by rw [h]; exact Bool.false_ne_true)
theorem ok_bounds {b t : Int} {es : List WEnt} (h : okR b t es = true) : 0 ≤ b ∧ es.length ≤ 4096 ∧ b + es.length ≤ 1099511627776 ∧ 0 ≤ t := by
  obtain ⟨h1, -⟩ := okR_iff.1 h
  obtain ⟨h2, h3, h4, h5, -⟩ := headR_iff.1 h1
  exact ⟨h2, h3, by omega, h5⟩
theorem termF_not {b t : Int} {es : List WEnt} {i : Int} (h : okR b t es = false) : termF b t es i = (0, false) := if_neg (fun h1 => by rw [h] at h1; exact Bool.false_ne_true h1.1)
theorem termF_low {b t : Int} {es : List WEnt} {i : Int} (h : i < b) : termF b t es i = (0, false) := if_neg (fun h1 => by have := of_decide_eq_true h1.2; omega)
theorem termF_high {b t : Int} {es : List WEnt} {i : Int} (h : b + es.length < i) : termF b t es i = (0, false) := if_neg (fun h1 => by have := of_decide_eq_true h1.2; omega)
theorem termF_base {b t : Int} {es : List WEnt} {i : Int} (h : okR b t es = true) (hi : i = b) : termF b t es i = (t, true) := by
  subst hi
  unfold termF termR hasR
  rw [if_pos ⟨h, decide_eq_true (by omega)⟩, if_pos (by omega)]
  rw [Int.sub_self]; rfl
theorem termF_in {b t : Int} {es : List WEnt} {i : Int} {k : Nat} (h : okR b t es = true) (hi : i = b + k + 1) (hk : k < es.length) : termF b t es i = (es[k].term, true) := by
  subst hi
  unfold termF termR hasR
  rw [if_pos ⟨h, decide_eq_true (by omega)⟩, if_pos (by omega)]
  have e : (b + (k : Int) + 1 - b).toNat = k + 1 := by omega
  rw [e, terms_succ hk]
set_option maxHeartbeats 4000000 in
theorem last_any (es : List RwE) (b t : Int) (a : Option Addr) (n c g : Nat) (w : World) (hn : es.length = n) (hl : n ≤ 1000000) (hr : Row w a (es.flatMap cellsRw)) (hx : Box w g [.int .i64 b, .int .i64 t, .slice a n c]) :
    Calls Try.prog 42 #[.pointer (some ⟨g, 0, none⟩)] w (RetLast w b t (ents es)) := by
  have hlen : (ents es).length = n := by rw [← hn]; exact List.length_map _
  have k0 := hx.cell (j := 0) rfl
  have k1 := hx.cell (j := 1) rfl
  have k2 := hx.cell (j := 2) rfl
  clear hx
  by_cases h0 : n = 0
  · have HL := Lib.hid (lastT_nil (t := t) (es := ents es) (by omega))
    have HLN := Lib.hid hlen
    clear hlen hr hn
    subst h0
    go_enter Try.func42, Try.ntmps42
    go_wp2_with fail
    go_quiet (fail)
    go_wp2_with fail
    go_ret2
    exact ⟨b, by rw [HL.out]; rfl, fun _ _ => by rw [HLN.out]; omega, _, rfl⟩
  · have hke : n - 1 < es.length := by omega
    have hkl : (ents es).length - 1 < (ents es).length := by omega
    obtain ⟨bb, oo, ha, hE⟩ := entAt hr hke
    have j0 := hE.c0
    have HL : Hid (lastT t (ents es) = es[n - 1].1.term) := by
      show _ = _
      rw [lastT_get (by omega)]
      have e1 : (ents es)[(ents es).length - 1]'hkl = es[n - 1].1 := by
        have e2 : (ents es).length - 1 = n - 1 := by omega
        simp only [e2]; exact List.getElem_map _
      rw [e1]
    generalize es[n - 1].1.term = x at j0 HL
    subst ha
    have HLN := Lib.hid hlen
    clear hlen hr hn hE hkl hke
    have hn1 : 0 < n := by omega
    have g1 : IntKind.i64.wrap ((n : Int) - 1) = (n : Int) - 1 := IntWalk.i64_in _ (by omega)
    have g2 : (0 : Int) ≤ (n : Int) - 1 := by omega
    have g3 : (n : Int) - 1 < (n : Int) := by omega
    have g4 : ((n : Int) - 1).toNat = n - 1 := by omega
    have g5 : decide ((0 : Int) < (n : Int)) = true := decide_eq_true (by omega)
    have HW : Hid (0 ≤ b → b ≤ 1099511627776 → IntKind.i64.wrap (b + (n : Int)) = b + n) := fun h1 h2 => IntWalk.i64_in _ (by omega)
    obtain ⟨iw, hiw⟩ : ∃ i, IntKind.i64.wrap (b + (n : Int)) = i := ⟨_, rfl⟩
    rw [hiw] at HW
    clear h0 hl
    go_enter Try.func42, Try.ntmps42
    go_wp2_with fail
    go_quiet (fail)
    go_wp2_with fail
    go_ret2
    exact ⟨iw, by rw [HL.out]; rfl, fun h1 h2 => by rw [HLN.out]; exact HW.out h1 h2, _, rfl⟩
set_option maxHeartbeats 4000000 in
theorem lastV_any (es : List RwE) (b t : Int) (a : Option Addr) (n c : Nat) (w : World) (hn : es.length = n) (hl : n ≤ 1000000) (hr : Row w a (es.flatMap cellsRw)) :
    Calls Try.prog 29 #[.agg #[.int .i64 b, .int .i64 t, .slice a n c]] w (RetII w (lastF b t (ents es))) := by
  have hlen : (ents es).length = n := by rw [← hn]; exact List.length_map _
  have HB0 : Hid (Below w.heap.size w (w.alloc (.cells #[.int .i64 b, .int .i64 t, .slice a n c] 24))) := mid_alloc' (Below.refl _ _)
  have HX0 : Hid (Box (w.alloc (.cells #[.int .i64 b, .int .i64 t, .slice a n c] 24)) w.heap.size [.int .i64 b, .int .i64 t, .slice a n c]) := Box.of_alloc (w := w) (cs := [.int .i64 b, .int .i64 t, .slice a n c]) (t := 24) (Below.refl _ _)
  have HN := Lib.hid hn
  have HLN := Lib.hid hlen
  have HR := Lib.hid hr
  have HC := Lib.hid (fun w' (hb : Below w.heap.size w w') => check_any es b t a n c w' hn hl (hr.mono_below hb))
  rcases hok : okR b t (ents es) with _ | _
  · rw [chk_not hok] at HC
    rw [lastF_not hok]
    clear hok hlen hr hn
    go_enter Try.func29, Try.ntmps29
    go_wp2_with (go_at_call 28; ((with_reducible refine (HC.out _ HB0.out).mono ?_); rintro e w1 ⟨rfl, hb⟩; have HX1 := Lib.hid (HX0.out.next (by simp) hb); have HB1 := Lib.hid (HB0.out.trans (hb.mono HB0.out.size)); clear hb))
    go_ret2
    exact ⟨rfl, HB1.out⟩
  · have HOK := Lib.hid (ok_bounds hok)
    rw [chk_ok hok] at HC
    rw [lastF_ok hok]
    clear hok hlen
    have HL := Lib.hid (fun w' g (hb : Below w.heap.size w w') (hx : Box w' g [.int .i64 b, .int .i64 t, .slice a n c]) => last_any es b t a n c g w' hn hl (hr.mono_below hb) hx)
    clear hr hn
    go_enter Try.func29, Try.ntmps29
    go_wp2_with (first
      | (have hgq := HX1; clear hgq; go_at_call 42; ((with_reducible refine (HL.out _ _ HB1.out HX1.out).mono ?_); rintro e w2 ⟨i, rfl, hi, nd, rfl⟩; have HI := Lib.hid hi; clear hi))
      | (go_at_call 28; ((with_reducible refine (HC.out _ HB0.out).mono ?_); rintro e w1 ⟨rfl, hb⟩; have HX1 := Lib.hid (HX0.out.next (by simp) hb); have HB1 := Lib.hid (HB0.out.trans (hb.mono HB0.out.size)); clear hb)))
    go_ret2
    exact ⟨by rw [HI.out HOK.out.1 (by have := HOK.out; omega)]; rfl, below_drewN HB1.out nd⟩
set_option maxHeartbeats 4000000 in
theorem refLast_any (es : List RwE) (b t : Int) (a : Option Addr) (n c : Nat) (w : World) (hn : es.length = n) (hl : n ≤ 1000000) (hr : Row w a (es.flatMap cellsRw)) :
    Calls Try.prog 13 #[.agg #[.int .i64 b, .int .i64 t, .slice a n c]] w (RetII w (lastF b t (ents es))) := by
  have hlen : (ents es).length = n := by rw [← hn]; exact List.length_map _
  have HB0 : Hid (Below w.heap.size w (w.alloc (.cells #[.int .i64 b, .int .i64 t, .slice a n c] 24))) := mid_alloc' (Below.refl _ _)
  have HX0 : Hid (Box (w.alloc (.cells #[.int .i64 b, .int .i64 t, .slice a n c] 24)) w.heap.size [.int .i64 b, .int .i64 t, .slice a n c]) := Box.of_alloc (w := w) (cs := [.int .i64 b, .int .i64 t, .slice a n c]) (t := 24) (Below.refl _ _)
  have HN := Lib.hid hn
  have HLN := Lib.hid hlen
  have HR := Lib.hid hr
  have HC := Lib.hid (fun w' (hb : Below w.heap.size w w') => refcheck_any es b t a n c w' hn hl (hr.mono_below hb))
  rcases hok : okR b t (ents es) with _ | _
  · rw [chk_not hok] at HC
    rw [lastF_not hok]
    clear hok hlen hr hn
    go_enter Try.func13, Try.ntmps13
    go_wp2_with (go_at_call 12; ((with_reducible refine (HC.out _ HB0.out).mono ?_); rintro e w1 ⟨rfl, hb⟩; have HX1 := Lib.hid (HX0.out.next (by simp) hb); have HB1 := Lib.hid (HB0.out.trans (hb.mono HB0.out.size)); have k0 := HX1.out.cell (j := 0) rfl; have k1 := HX1.out.cell (j := 1) rfl; have k2 := HX1.out.cell (j := 2) rfl; clear hb))
    go_ret2
    exact ⟨rfl, HB1.out⟩
  · have HOK := Lib.hid (ok_bounds hok)
    rw [chk_ok hok] at HC
    rw [lastF_ok hok]
    clear hok hlen
    by_cases h0 : n = 0
    · have HL := Lib.hid (lastT_nil (t := t) (es := ents es) (by rw [HLN.out]; exact h0))
      have HOK2 := HOK
      clear HOK hr hn
      subst h0
      go_enter Try.func13, Try.ntmps13
      go_upto_region 5 with (go_at_call 12; ((with_reducible refine (HC.out _ HB0.out).mono ?_); rintro e w1 ⟨rfl, hb⟩; have HX1 := Lib.hid (HX0.out.next (by simp) hb); have HB1 := Lib.hid (HB0.out.trans (hb.mono HB0.out.size)); have k0 := HX1.out.cell (j := 0) rfl; have k1 := HX1.out.cell (j := 1) rfl; have k2 := HX1.out.cell (j := 2) rfl; clear hb))
      go_quiet (fail)
      go_wp2_with fail
      go_ret2
      exact ⟨by rw [HL.out, HLN.out]; simp, below_drewN HB1.out _⟩
    · have hke : n - 1 < es.length := by rw [HN.out]; omega
      have hkl : (ents es).length - 1 < (ents es).length := by rw [HLN.out]; omega
      have HE := Lib.hid (fun w' (hb : Below w.heap.size w w') => entAt (hr.mono_below hb) hke)
      have HL : Hid (lastT t (ents es) = es[n - 1].1.term) := by
        show _ = _
        rw [lastT_get (by rw [HLN.out]; omega)]
        have e1 : (ents es)[(ents es).length - 1]'hkl = es[n - 1].1 := by
          have e2 : (ents es).length - 1 = n - 1 := by rw [HLN.out]
          simp only [e2]; exact List.getElem_map _
        rw [e1]
      generalize es[n - 1] = x at HE HL
      obtain ⟨x, p⟩ := x
      have hn1 : 0 < n := by omega
      have g1 : IntKind.i64.wrap ((n : Int) - 1) = (n : Int) - 1 := IntWalk.i64_in _ (by omega)
      have g2 : (0 : Int) ≤ (n : Int) - 1 := by omega
      have g3 : (n : Int) - 1 < (n : Int) := by omega
      have g4 : ((n : Int) - 1).toNat = n - 1 := by omega
      have g5 : ((n : Int) == 0) = false := by simp; omega
      have g6 : IntKind.i64.wrap (b + (n : Int)) = b + n := IntWalk.i64_in _ (by have := HOK.out; rw [HLN.out] at this; omega)
      have HG := Lib.hid (And.intro g1 (And.intro g2 (And.intro g3 (And.intro g4 (And.intro g5 g6)))))
      have g5' := g5
      clear g1 g2 g3 g4 g5 g6 h0 hl hke hkl hr hn HOK
      go_enter Try.func13, Try.ntmps13
      go_upto_region 6 with (go_at_call 12; ((with_reducible refine (HC.out _ HB0.out).mono ?_); rintro e w1 ⟨rfl, hb⟩; have HX1 := Lib.hid (HX0.out.next (by simp) hb); have HB1 := Lib.hid (HB0.out.trans (hb.mono HB0.out.size)); have k0 := HX1.out.cell (j := 0) rfl; have k1 := HX1.out.cell (j := 1) rfl; have k2 := HX1.out.cell (j := 2) rfl; clear hb))
      have g6 := HG.out.2.2.2.2.2
      obtain ⟨g1, g2, g3, g4, g5, -⟩ := HG.out
      obtain ⟨bb, oo, ha, hE⟩ := HE.out _ HB1.out
      have j0 := hE.c0
      try simp only at j0 HL
      subst ha
      clear hE HE HX0 HX1 HG
      go_quiet (fail)
      go_wp2_with fail
      go_ret2
      exact ⟨by rw [HL.out, HLN.out]; rfl, below_drewN HB1.out _⟩
set_option maxHeartbeats 4000000 in
theorem term_any (es : List RwE) (b t : Int) (a : Option Addr) (n c : Nat) (w : World) (hn : es.length = n) (hl : n ≤ 1000000) (hr : Row w a (es.flatMap cellsRw)) (i : Int) (hi : InI i) :
    Calls Try.prog 32 #[.agg #[.int .i64 b, .int .i64 t, .slice a n c], .int .i64 i] w (RetIB w (termF b t (ents es) i)) := by
  have hlen : (ents es).length = n := by rw [← hn]; exact List.length_map _
  have HB0 : Hid (Below w.heap.size w (w.alloc (.cells #[.int .i64 b, .int .i64 t, .slice a n c] 24))) := mid_alloc' (Below.refl _ _)
  have HX0 : Hid (Box (w.alloc (.cells #[.int .i64 b, .int .i64 t, .slice a n c] 24)) w.heap.size [.int .i64 b, .int .i64 t, .slice a n c]) := Box.of_alloc (w := w) (cs := [.int .i64 b, .int .i64 t, .slice a n c]) (t := 24) (Below.refl _ _)
  have HN := Lib.hid hn
  have HLN := Lib.hid hlen
  have HR := Lib.hid hr
  unfold InI at hi
  have HC := Lib.hid (fun w' (hb : Below w.heap.size w w') => check_any es b t a n c w' hn hl (hr.mono_below hb))
  have HL := Lib.hid (fun w' g (hb : Below w.heap.size w w') (hx : Box w' g [.int .i64 b, .int .i64 t, .slice a n c]) => last_any es b t a n c g w' hn hl (hr.mono_below hb) hx)
  have HRB := Lib.hid (fun w' (hb : Below w.heap.size w w') => hr.mono_below hb)
  rcases hok : okR b t (ents es) with _ | _
  · rw [chk_not hok] at HC
    rw [termF_not hok]
    skip
    clear hok hlen hr hn
    go_enter Try.func32, Try.ntmps32
    go_wp2_with (first
      | (have hgq := HX1; clear hgq; go_at_call 28; ((with_reducible refine (HC.out _ HB1.out).mono ?_); rintro e w2 ⟨rfl, hb⟩; have HX2 := Lib.hid (HX1.out.next (by simp) hb); have HB2 := Lib.hid (HB1.out.trans (hb.mono HB1.out.size)); clear hb; have k0 := HX2.out.cell (j := 0) rfl; have k1 := HX2.out.cell (j := 1) rfl; have k2 := HX2.out.cell (j := 2) rfl))
      | (go_at_call 42; ((with_reducible refine (HL.out _ _ HB0.out HX0.out).mono ?_); rintro e w1 ⟨iv, rfl, hiv, nd, rfl⟩; clear hiv; have HX1 := Lib.hid (HX0.out.below (below_drewN (Below.refl _ _) nd) (HX0.out.lt (by simp))); have HB1 := Lib.hid (below_drewN HB0.out nd); have k0 := HX1.out.cell (j := 0) rfl; have k1 := HX1.out.cell (j := 1) rfl; have k2 := HX1.out.cell (j := 2) rfl)))
    go_ret2
    exact ⟨rfl, HB2.out⟩
  · have HOK := Lib.hid (ok_bounds hok)
    have hbd : 0 ≤ b ∧ b + (n : Int) ≤ 1099511627776 := ⟨HOK.out.1, by have := HOK.out.2.2.1; rw [hlen] at this; exact this⟩
    obtain ⟨hb1, hb2⟩ := hbd
    rw [chk_ok hok] at HC
    have HIV : Hid (∀ iv : Int, (0 ≤ b → b ≤ 1099511627776 → iv = b + ((ents es).length : Int)) → iv = b + (n : Int)) := fun iv h => by rw [h hb1 (by omega), hlen]
    have HT1 := Lib.hid (fun h => termF_low (t := t) (es := ents es) (i := i) (b := b) h)
    have HT2 := Lib.hid (fun (h : b + (n : Int) < i) => termF_high (t := t) (es := ents es) (i := i) (b := b) (by rw [hlen]; exact h))
    have HT3 := Lib.hid (fun h => termF_base (i := i) hok h)
    have HT4 := Lib.hid (fun k (h1 : i = b + (k : Nat) + 1) (h2 : k < (ents es).length) => termF_in hok h1 h2)
    clear hok hlen hr hn
    generalize termF b t (ents es) i = r at HT1 HT2 HT3 HT4 ⊢
    rcases d1 : decide (i < b) with _ | _
    rotate_left
    · obtain rfl := HT1.out (of_decide_eq_true d1)
      go_enter Try.func32, Try.ntmps32
      go_wp2_with (first
        | (have hgq := HX1; clear hgq; go_at_call 28; ((with_reducible refine (HC.out _ HB1.out).mono ?_); rintro e w2 ⟨rfl, hb⟩; have HX2 := Lib.hid (HX1.out.next (by simp) hb); have HB2 := Lib.hid (HB1.out.trans (hb.mono HB1.out.size)); clear hb; have k0 := HX2.out.cell (j := 0) rfl; have k1 := HX2.out.cell (j := 1) rfl; have k2 := HX2.out.cell (j := 2) rfl))
        | (go_at_call 42; ((with_reducible refine (HL.out _ _ HB0.out HX0.out).mono ?_); rintro e w1 ⟨iv, rfl, hiv, nd, rfl⟩; obtain rfl := HIV.out iv hiv; clear hiv; have HX1 := Lib.hid (HX0.out.below (below_drewN (Below.refl _ _) nd) (HX0.out.lt (by simp))); have HB1 := Lib.hid (below_drewN HB0.out nd); have k0 := HX1.out.cell (j := 0) rfl; have k1 := HX1.out.cell (j := 1) rfl; have k2 := HX1.out.cell (j := 2) rfl)))
      go_ret2
      exact ⟨rfl, HB2.out⟩
    rcases d2 : decide (b + (n : Int) < i) with _ | _
    rotate_left
    · obtain rfl := HT2.out (of_decide_eq_true d2)
      go_enter Try.func32, Try.ntmps32
      go_wp2_with (first
        | (have hgq := HX1; clear hgq; go_at_call 28; ((with_reducible refine (HC.out _ HB1.out).mono ?_); rintro e w2 ⟨rfl, hb⟩; have HX2 := Lib.hid (HX1.out.next (by simp) hb); have HB2 := Lib.hid (HB1.out.trans (hb.mono HB1.out.size)); clear hb; have k0 := HX2.out.cell (j := 0) rfl; have k1 := HX2.out.cell (j := 1) rfl; have k2 := HX2.out.cell (j := 2) rfl))
        | (go_at_call 42; ((with_reducible refine (HL.out _ _ HB0.out HX0.out).mono ?_); rintro e w1 ⟨iv, rfl, hiv, nd, rfl⟩; obtain rfl := HIV.out iv hiv; clear hiv; have HX1 := Lib.hid (HX0.out.below (below_drewN (Below.refl _ _) nd) (HX0.out.lt (by simp))); have HB1 := Lib.hid (below_drewN HB0.out nd); have k0 := HX1.out.cell (j := 0) rfl; have k1 := HX1.out.cell (j := 1) rfl; have k2 := HX1.out.cell (j := 2) rfl)))
      go_ret2
      exact ⟨rfl, HB2.out⟩
    have h1 : b ≤ i := by have := of_decide_eq_false d1; omega
    have h2 : i ≤ b + (n : Int) := by have := of_decide_eq_false d2; omega
    rcases d3 : (i == b) with _ | _
    rotate_left
    · obtain rfl := HT3.out (by simpa using d3)
      go_enter Try.func32, Try.ntmps32
      go_wp2_with (first
        | (have hgq := HX1; clear hgq; go_at_call 28; ((with_reducible refine (HC.out _ HB1.out).mono ?_); rintro e w2 ⟨rfl, hb⟩; have HX2 := Lib.hid (HX1.out.next (by simp) hb); have HB2 := Lib.hid (HB1.out.trans (hb.mono HB1.out.size)); clear hb; have k0 := HX2.out.cell (j := 0) rfl; have k1 := HX2.out.cell (j := 1) rfl; have k2 := HX2.out.cell (j := 2) rfl))
        | (go_at_call 42; ((with_reducible refine (HL.out _ _ HB0.out HX0.out).mono ?_); rintro e w1 ⟨iv, rfl, hiv, nd, rfl⟩; obtain rfl := HIV.out iv hiv; clear hiv; have HX1 := Lib.hid (HX0.out.below (below_drewN (Below.refl _ _) nd) (HX0.out.lt (by simp))); have HB1 := Lib.hid (below_drewN HB0.out nd); have k0 := HX1.out.cell (j := 0) rfl; have k1 := HX1.out.cell (j := 1) rfl; have k2 := HX1.out.cell (j := 2) rfl)))
      go_ret2
      exact ⟨rfl, HB2.out⟩
    have h3 : b < i := by have : ¬ i = b := by simpa using d3
                          omega
    have g2 : (0 : Int) ≤ i - b - 1 := by omega
    have g3 : i - b - 1 < (n : Int) := by omega
    obtain ⟨k, g4⟩ : ∃ k, (i - b - 1).toNat = k := ⟨_, rfl⟩
    have hke : k < es.length := by rw [HN.out]; omega
    have hT4 := HT4.out k (by omega) (by rw [HLN.out]; omega)
    have hxe : (ents es)[k]'(by rw [HLN.out]; omega) = es[k].1 := List.getElem_map _
    rw [hxe] at hT4
    obtain ⟨bb, oo, ha, hE⟩ := entAt HR.out hke
    subst ha
    have HJ := Lib.hid (fun w' (hb : Below w.heap.size w w') => cell_next hb hE.c0)
    generalize es[k] = x at HJ hT4 hE
    obtain ⟨x, p⟩ := x
    obtain rfl := hT4
    simp only at HJ
    clear HT1 HT2 HT3 HT4 hke hxe hE
    go_enter Try.func32, Try.ntmps32
    go_wp2_with (first
      | (have hgq := HX1; clear hgq; go_at_call 28; ((with_reducible refine (HC.out _ HB1.out).mono ?_); rintro e w2 ⟨rfl, hb⟩; have HX2 := Lib.hid (HX1.out.next (by simp) hb); have HB2 := Lib.hid (HB1.out.trans (hb.mono HB1.out.size)); clear hb; have k0 := HX2.out.cell (j := 0) rfl; have k1 := HX2.out.cell (j := 1) rfl; have k2 := HX2.out.cell (j := 2) rfl; have j0 := HJ.out _ HB2.out))
      | (go_at_call 42; ((with_reducible refine (HL.out _ _ HB0.out HX0.out).mono ?_); rintro e w1 ⟨iv, rfl, hiv, nd, rfl⟩; obtain rfl := HIV.out iv hiv; clear hiv; have HX1 := Lib.hid (HX0.out.below (below_drewN (Below.refl _ _) nd) (HX0.out.lt (by simp))); have HB1 := Lib.hid (below_drewN HB0.out nd); have k0 := HX1.out.cell (j := 0) rfl; have k1 := HX1.out.cell (j := 1) rfl; have k2 := HX1.out.cell (j := 2) rfl)))
    go_ret2
    exact ⟨rfl, HB2.out⟩
set_option maxHeartbeats 4000000 in
theorem refTerm_any (es : List RwE) (b t : Int) (a : Option Addr) (n c : Nat) (w : World) (hn : es.length = n) (hl : n ≤ 1000000) (hr : Row w a (es.flatMap cellsRw)) (i : Int) (hi : InI i) :
    Calls Try.prog 14 #[.agg #[.int .i64 b, .int .i64 t, .slice a n c], .int .i64 i] w (RetIB w (termF b t (ents es) i)) := by
  have hlen : (ents es).length = n := by rw [← hn]; exact List.length_map _
  have HB0 : Hid (Below w.heap.size w (w.alloc (.cells #[.int .i64 b, .int .i64 t, .slice a n c] 24))) := mid_alloc' (Below.refl _ _)
  have HX0 : Hid (Box (w.alloc (.cells #[.int .i64 b, .int .i64 t, .slice a n c] 24)) w.heap.size [.int .i64 b, .int .i64 t, .slice a n c]) := Box.of_alloc (w := w) (cs := [.int .i64 b, .int .i64 t, .slice a n c]) (t := 24) (Below.refl _ _)
  have HN := Lib.hid hn
  have HLN := Lib.hid hlen
  have HR := Lib.hid hr
  unfold InI at hi
  have HC := Lib.hid (fun w' (hb : Below w.heap.size w w') => refcheck_any es b t a n c w' hn hl (hr.mono_below hb))
  have HL := Lib.hid (fun w' (hb : Below w.heap.size w w') => refLast_any es b t a n c w' hn hl (hr.mono_below hb))
  have HRB := Lib.hid (fun w' (hb : Below w.heap.size w w') => hr.mono_below hb)
  rcases hok : okR b t (ents es) with _ | _
  · rw [chk_not hok] at HC
    rw [termF_not hok]
    rw [lastF_not hok] at HL
    clear hok hlen hr hn
    go_enter Try.func14, Try.ntmps14
    go_wp2_with (first
      | (have hgq := HX1; clear hgq; go_at_call 12; ((with_reducible refine (HC.out _ HB1.out).mono ?_); rintro e w2 ⟨rfl, hb⟩; have HX2 := Lib.hid (HX1.out.next (by simp) hb); have HB2 := Lib.hid (HB1.out.trans (hb.mono HB1.out.size)); clear hb; have k0 := HX2.out.cell (j := 0) rfl; have k1 := HX2.out.cell (j := 1) rfl; have k2 := HX2.out.cell (j := 2) rfl))
      | (go_at_call 13; ((with_reducible refine (HL.out _ HB0.out).mono ?_); rintro e w1 ⟨rfl, hb⟩; have HX1 := Lib.hid (HX0.out.next (by simp) hb); have HB1 := Lib.hid (HB0.out.trans (hb.mono HB0.out.size)); clear hb; have k0 := HX1.out.cell (j := 0) rfl; have k1 := HX1.out.cell (j := 1) rfl; have k2 := HX1.out.cell (j := 2) rfl)))
    go_ret2
    exact ⟨rfl, HB2.out⟩
  · have HOK := Lib.hid (ok_bounds hok)
    have hbd : 0 ≤ b ∧ b + (n : Int) ≤ 1099511627776 := ⟨HOK.out.1, by have := HOK.out.2.2.1; rw [hlen] at this; exact this⟩
    obtain ⟨hb1, hb2⟩ := hbd
    rw [chk_ok hok] at HC
    rw [lastF_ok hok, hlen] at HL
    have HT1 := Lib.hid (fun h => termF_low (t := t) (es := ents es) (i := i) (b := b) h)
    have HT2 := Lib.hid (fun (h : b + (n : Int) < i) => termF_high (t := t) (es := ents es) (i := i) (b := b) (by rw [hlen]; exact h))
    have HT3 := Lib.hid (fun h => termF_base (i := i) hok h)
    have HT4 := Lib.hid (fun k (h1 : i = b + (k : Nat) + 1) (h2 : k < (ents es).length) => termF_in hok h1 h2)
    clear hok hlen hr hn
    generalize termF b t (ents es) i = r at HT1 HT2 HT3 HT4 ⊢
    rcases d1 : decide (i < b) with _ | _
    rotate_left
    · obtain rfl := HT1.out (of_decide_eq_true d1)
      go_enter Try.func14, Try.ntmps14
      go_wp2_with (first
        | (have hgq := HX1; clear hgq; go_at_call 12; ((with_reducible refine (HC.out _ HB1.out).mono ?_); rintro e w2 ⟨rfl, hb⟩; have HX2 := Lib.hid (HX1.out.next (by simp) hb); have HB2 := Lib.hid (HB1.out.trans (hb.mono HB1.out.size)); clear hb; have k0 := HX2.out.cell (j := 0) rfl; have k1 := HX2.out.cell (j := 1) rfl; have k2 := HX2.out.cell (j := 2) rfl))
        | (go_at_call 13; ((with_reducible refine (HL.out _ HB0.out).mono ?_); rintro e w1 ⟨rfl, hb⟩; have HX1 := Lib.hid (HX0.out.next (by simp) hb); have HB1 := Lib.hid (HB0.out.trans (hb.mono HB0.out.size)); clear hb; have k0 := HX1.out.cell (j := 0) rfl; have k1 := HX1.out.cell (j := 1) rfl; have k2 := HX1.out.cell (j := 2) rfl)))
      go_ret2
      exact ⟨rfl, HB2.out⟩
    rcases d2 : decide (b + (n : Int) < i) with _ | _
    rotate_left
    · obtain rfl := HT2.out (of_decide_eq_true d2)
      go_enter Try.func14, Try.ntmps14
      go_wp2_with (first
        | (have hgq := HX1; clear hgq; go_at_call 12; ((with_reducible refine (HC.out _ HB1.out).mono ?_); rintro e w2 ⟨rfl, hb⟩; have HX2 := Lib.hid (HX1.out.next (by simp) hb); have HB2 := Lib.hid (HB1.out.trans (hb.mono HB1.out.size)); clear hb; have k0 := HX2.out.cell (j := 0) rfl; have k1 := HX2.out.cell (j := 1) rfl; have k2 := HX2.out.cell (j := 2) rfl))
        | (go_at_call 13; ((with_reducible refine (HL.out _ HB0.out).mono ?_); rintro e w1 ⟨rfl, hb⟩; have HX1 := Lib.hid (HX0.out.next (by simp) hb); have HB1 := Lib.hid (HB0.out.trans (hb.mono HB0.out.size)); clear hb; have k0 := HX1.out.cell (j := 0) rfl; have k1 := HX1.out.cell (j := 1) rfl; have k2 := HX1.out.cell (j := 2) rfl)))
      go_ret2
      exact ⟨rfl, HB2.out⟩
    have h1 : b ≤ i := by have := of_decide_eq_false d1; omega
    have h2 : i ≤ b + (n : Int) := by have := of_decide_eq_false d2; omega
    rcases d3 : (i == b) with _ | _
    rotate_left
    · obtain rfl := HT3.out (by simpa using d3)
      go_enter Try.func14, Try.ntmps14
      go_wp2_with (first
        | (have hgq := HX1; clear hgq; go_at_call 12; ((with_reducible refine (HC.out _ HB1.out).mono ?_); rintro e w2 ⟨rfl, hb⟩; have HX2 := Lib.hid (HX1.out.next (by simp) hb); have HB2 := Lib.hid (HB1.out.trans (hb.mono HB1.out.size)); clear hb; have k0 := HX2.out.cell (j := 0) rfl; have k1 := HX2.out.cell (j := 1) rfl; have k2 := HX2.out.cell (j := 2) rfl))
        | (go_at_call 13; ((with_reducible refine (HL.out _ HB0.out).mono ?_); rintro e w1 ⟨rfl, hb⟩; have HX1 := Lib.hid (HX0.out.next (by simp) hb); have HB1 := Lib.hid (HB0.out.trans (hb.mono HB0.out.size)); clear hb; have k0 := HX1.out.cell (j := 0) rfl; have k1 := HX1.out.cell (j := 1) rfl; have k2 := HX1.out.cell (j := 2) rfl)))
      go_ret2
      exact ⟨rfl, HB2.out⟩
    have h3 : b < i := by have : ¬ i = b := by simpa using d3
                          omega
    have g2 : (0 : Int) ≤ i - b - 1 := by omega
    have g3 : i - b - 1 < (n : Int) := by omega
    obtain ⟨k, g4⟩ : ∃ k, (i - b - 1).toNat = k := ⟨_, rfl⟩
    have hke : k < es.length := by rw [HN.out]; omega
    have hT4 := HT4.out k (by omega) (by rw [HLN.out]; omega)
    have hxe : (ents es)[k]'(by rw [HLN.out]; omega) = es[k].1 := List.getElem_map _
    rw [hxe] at hT4
    obtain ⟨bb, oo, ha, hE⟩ := entAt HR.out hke
    subst ha
    have HJ := Lib.hid (fun w' (hb : Below w.heap.size w w') => cell_next hb hE.c0)
    generalize es[k] = x at HJ hT4 hE
    obtain ⟨x, p⟩ := x
    obtain rfl := hT4
    simp only at HJ
    clear HT1 HT2 HT3 HT4 hke hxe hE
    go_enter Try.func14, Try.ntmps14
    go_wp2_with (first
      | (have hgq := HX1; clear hgq; go_at_call 12; ((with_reducible refine (HC.out _ HB1.out).mono ?_); rintro e w2 ⟨rfl, hb⟩; have HX2 := Lib.hid (HX1.out.next (by simp) hb); have HB2 := Lib.hid (HB1.out.trans (hb.mono HB1.out.size)); clear hb; have k0 := HX2.out.cell (j := 0) rfl; have k1 := HX2.out.cell (j := 1) rfl; have k2 := HX2.out.cell (j := 2) rfl; have j0 := HJ.out _ HB2.out))
      | (go_at_call 13; ((with_reducible refine (HL.out _ HB0.out).mono ?_); rintro e w1 ⟨rfl, hb⟩; have HX1 := Lib.hid (HX0.out.next (by simp) hb); have HB1 := Lib.hid (HB0.out.trans (hb.mono HB0.out.size)); clear hb; have k0 := HX1.out.cell (j := 0) rfl; have k1 := HX1.out.cell (j := 1) rfl; have k2 := HX1.out.cell (j := 2) rfl)))
    go_ret2
    exact ⟨rfl, HB2.out⟩
end Go.Proofs.Ytmihgdjnjfjjcaa

/- Is a node in a set (follow.has, weirref11.bit). -/
namespace Go.Proofs.Ytmihgdjnjfjjcaa
open Go.ChangeShapes Go.WideShapes Go.ChangeAt Go.RowKit
set_option maxRecDepth 100000

theorem bit_and : ∀ (n : Fin 256) (d : Fin 7), (bits .and .u8 ((n.val : Int) / ((2 ^ d.val : Nat) : Int)) 1 == 1) = decide (n.val / 2 ^ d.val % 2 = 1) := by decide +kernel
theorem inSet_at (s : UInt8) (k : Nat) (h1 : 1 ≤ k) (h2 : k ≤ 7) : inSet s.toNat k = (bits .and .u8 ((s.toNat : Int) / ((2 ^ (k - 1) : Nat) : Int)) 1 == 1) := by
  rw [bit_and ⟨s.toNat, s.toNat_lt⟩ ⟨k - 1, by omega⟩]
  unfold inSet
  rw [decide_eq_decide]
  exact ⟨fun h => h.2.2, fun h => ⟨h1, h2, h⟩⟩
def RetB0 (w : World) (r : Bool) (e : Ending) (w' : World) : Prop := e = .returned (.bool r) ∧ w' = w
theorem has_any (s : UInt8) (k : Nat) (w : World) (h1 : 1 ≤ k) (h2 : k ≤ 7) : Calls Try.prog 30 #[B s, .int .i64 k] w (RetB0 w (inSet s.toNat k)) := by
  have HI := Lib.hid (inSet_at s k h1 h2)
  generalize inSet s.toNat k = r at HI ⊢
  obtain rfl | rfl | rfl | rfl | rfl | rfl | rfl : k = 1 ∨ k = 2 ∨ k = 3 ∨ k = 4 ∨ k = 5 ∨ k = 6 ∨ k = 7 := by omega
  all_goals
    go_enter Try.func30, Try.ntmps30
    go_wp2_with fail
    go_ret
    exact ⟨congrArg (fun b => Ending.returned (.bool b)) (by first | exact HI.out.symm | (rw [HI.out]; simp)), rfl⟩
theorem bit_any (s : UInt8) (k : Nat) (w : World) (h1 : 1 ≤ k) (h2 : k ≤ 7) : Calls Try.prog 33 #[B s, .int .i64 k] w (RetB0 w (inSet s.toNat k)) := by
  have HI := Lib.hid (inSet_at s k h1 h2)
  generalize inSet s.toNat k = r at HI ⊢
  obtain rfl | rfl | rfl | rfl | rfl | rfl | rfl : k = 1 ∨ k = 2 ∨ k = 3 ∨ k = 4 ∨ k = 5 ∨ k = 6 ∨ k = 7 := by omega
  all_goals
    go_enter Try.func33, Try.ntmps33
    go_wp2_with fail
    go_ret
    exact ⟨congrArg (fun b => Ending.returned (.bool b)) (by first | exact HI.out.symm | (rw [HI.out]; simp)), rfl⟩
end Go.Proofs.Ytmihgdjnjfjjcaa

/- Numbers compared, from the greatest on (cmp.Compare, follow.down's closure); bits.Len of small numbers. -/
namespace Go.Proofs.Ytmihgdjnjfjjcaa
open Go.ChangeShapes Go.WideShapes Go.ChangeAt Go.RowKit
set_option maxRecDepth 100000

def cmpI (x y : Int) : Int := if x < y then -1 else if y < x then 1 else 0
theorem cmpI_neg (x y : Int) : decide (cmpI x y < 0) = decide (x < y) := by
  unfold cmpI
  by_cases h : x < y
  · simp [h]
  · rw [if_neg h]; split <;> simp [h]
theorem nan_any (x : Int) (w : World) : Calls Try.prog 52 #[.int .i64 x] w (RetB0 w false) := by
  go_enter Try.func52, Try.ntmps52
  go_wp2_with fail
  go_ret
  exact ⟨by simp, rfl⟩
def RetN0 (w : World) (r : Int) (e : Ending) (w' : World) : Prop := e = .returned (.int .i64 r) ∧ w' = w
theorem compare_any (x y : Int) (w : World) : Calls Try.prog 45 #[.int .i64 x, .int .i64 y] w (RetN0 w (cmpI x y)) := by
  have HE : Hid (∀ r : Int, (x < y → r = -1) → (y < x → r = 1) → (¬ x < y → ¬ y < x → r = 0) → cmpI x y = r) := fun r h1 h2 h3 => by
    unfold cmpI
    by_cases a : x < y
    · rw [if_pos a, h1 a]
    · rw [if_neg a]
      by_cases b : y < x
      · rw [if_pos b, h2 b]
      · rw [if_neg b, h3 a b]
  generalize cmpI x y = r at HE ⊢
  go_enter Try.func45, Try.ntmps45
  go_wp2_with (go_at_call 52; ((with_reducible refine (nan_any _ _).mono ?_); rintro e w' ⟨rfl, rfl⟩))
  all_goals (go_ret; exact ⟨ret_int (HE.out _ (fun _ => by first | rfl | (exfalso; omega)) (fun _ => by first | rfl | (exfalso; omega)) (fun _ _ => by first | rfl | (exfalso; omega))).symm, rfl⟩)
theorem enter_down (args : Array Value) (w : World) : (callFunc 44 args).run Try.prog w = .ok (.enter 44 args) w := by kernel_rfl
theorem downc_any (x y : Int) (w : World) : Calls Try.prog 44 #[.int .i64 x, .int .i64 y] w (RetN0 w (cmpI y x)) := by
  have HC := Lib.hid (fun w' => compare_any y x w')
  generalize cmpI y x = r at HC ⊢
  go_enter Try.func44, Try.ntmps44
  go_wp2_with (go_at_call 45; ((with_reducible refine (HC.out _).mono ?_); rintro e w' ⟨rfl, rfl⟩))
  go_ret
  exact ⟨rfl, rfl⟩
end Go.Proofs.Ytmihgdjnjfjjcaa

/- A node's progress looked up (follow.Find, weirref11.Find). -/
namespace Go.Proofs.Ytmihgdjnjfjjcaa
open Go.ChangeShapes Go.WideShapes Go.ChangeAt Go.RowKit
set_option maxRecDepth 100000

def prgOf (l : List Prg) (k : Int) : Prg := match l.find? (fun p => decide (p.node = k)) with | some p => p | none => ⟨0, 0, 0⟩
def hasP (l : List Prg) (k : Int) : Bool := (l.find? (fun p => decide (p.node = k))).isSome
theorem prgOf_mat (l : List Prg) (k : Int) : (prgOf l k).mat = matOf l k := by
  induction l with
  | nil => rfl
  | cons p l ih =>
    unfold prgOf at *
    rw [List.find?_cons]
    show _ = if p.node = k then p.mat else matOf l k
    by_cases h : p.node = k
    · simp [h]
    · simp only [h, decide_false, if_false]; exact ih
def RetFind (w : World) (p : Prg) (b : Bool) (e : Ending) (w' : World) : Prop := e = .returned (.tuple #[p.agg, .bool b]) ∧ Below w.heap.size w w'
theorem of_any (k : Int) (w : World) : Calls Try.prog 36 #[.int .i64 k] w fun e w' => e = .returned (.func (.func 46) #[] #[.pointer (some ⟨w.heap.size, 0, none⟩)]) ∧ w' = w.alloc (.cells #[.int .i64 k] 3) := by
  go_enter Try.func36, Try.ntmps36
  go_wp2_with fail
  go_ret
  exact ⟨rfl, rfl⟩
theorem enter_ofc (args : Array Value) (w : World) : (callFunc 46 args).run Try.prog w = .ok (.enter 46 args) w := by kernel_rfl
theorem ofc_any (p : Prg) (g : Nat) (k : Int) (w : World) (hg : w.cell? ⟨g, 0, none⟩ = some (.int .i64 k)) : Calls Try.prog 46 #[p.agg, .pointer (some ⟨g, 0, none⟩)] w (RetSame w (decide (p.node = k))) := by
  obtain ⟨p0, p1, p2⟩ := p
  have hlt := World.block_lt_of_cell? w _ hg
  simp only at hlt
  go_enter Try.func46, Try.ntmps46
  go_wp2_with fail
  go_ret
  refine ⟨congrArg (fun b => Ending.returned (.bool b)) ?_, mid_alloc' (Below.refl _ _)⟩
  show (p0 == k) = decide (p0 = k)
  rw [Bool.eq_iff_iff]; simp
set_option maxHeartbeats 4000000 in
theorem find_any (l : List Prg) (a : Option Addr) (n c : Nat) (k : Int) (w : World) (hn : l.length = n) (hl : n ≤ 1000000) (hr : LRow layPrg w a l) :
    Calls Try.prog 17 #[.slice a n c, .int .i64 k] w (RetFind w (prgOf l k) (hasP l k)) := by
  have HR := Lib.hid (fun w' (hb : Below w.heap.size w w') => LRow.below hr hb)
  have HO := Lib.hid (fun w' => of_any k w')
  have HX := Lib.hid (fun g w' (hb : Below w.heap.size w w') (hg : w'.cell? ⟨g, 0, none⟩ = some (.int .i64 k)) => indexFuncPrg l a n c 46 #[.pointer (some ⟨g, 0, none⟩)] (fun p => decide (p.node = k)) w' hn (by unfold maxLen; omega) (LRow.below hr hb) enter_ofc (fun x _ w'' hb2 => (ofc_any x g k w'' (cell_next hb2 hg)).mono fun _ _ h => h))
  have HFD := Lib.hid (idxL_find (fun p : Prg => decide (p.node = k)) l)
  obtain ⟨r, hrr⟩ : ∃ r, prgOf l k = r := ⟨_, rfl⟩
  obtain ⟨hb, hhb⟩ : ∃ r, hasP l k = r := ⟨_, rfl⟩
  rw [hrr, hhb]
  obtain ⟨q, hq⟩ : ∃ q, idxL (fun p : Prg => decide (p.node = k)) l = q := ⟨_, rfl⟩
  rw [hq] at HX HFD
  have HZ : Hid (Below w.heap.size w (w.alloc (.cells #[.int .i64 0, .int .i64 0, .int .i64 0] 39))) := mid_alloc' (Below.refl _ _)
  rcases HFD.out with ⟨h1, h2⟩ | ⟨j, hj, h1, h2⟩
  · have er : r = ⟨0, 0, 0⟩ := by rw [← hrr]; unfold prgOf; rw [h2]
    have eb : hb = false := by rw [← hhb]; unfold hasP; rw [h2]; rfl
    clear hrr hhb hq h2 hr hn HFD
    subst er eb h1
    go_enter Try.func17, Try.ntmps17
    go_wp2_with (first
      | (have hgq := HOC; clear hgq; go_at_call 35; ((with_reducible refine (HX.out _ _ HB1.out HOC.out).mono ?_); rintro e w2 ⟨rfl, hb2⟩; have HB2 := Lib.hid (HB1.out.trans (hb2.mono HB1.out.size)); have hbx := Box.of_alloc (w := w) (cs := [.int .i64 0, .int .i64 0, .int .i64 0]) (t := 39) (HBX.out.trans (hb2.mono HBX.out.size)); have z0 := hbx.cell (j := 0) rfl; have z1 := hbx.cell (j := 1) rfl; have z2 := hbx.cell (j := 2) rfl; have y0 := hbx.froz (j := 0) (by simp); have y1 := hbx.froz (j := 1) (by simp); have y2 := hbx.froz (j := 2) (by simp); clear hbx hb2))
      | (go_at_call 36; ((with_reducible refine (HO.out _).mono ?_); rintro e w1 ⟨rfl, hw⟩; have hbz : Below (w.alloc (.cells #[.int .i64 0, .int .i64 0, .int .i64 0] 39)).heap.size (w.alloc (.cells #[.int .i64 0, .int .i64 0, .int .i64 0] 39)) w1 := by { rw [hw]; exact (Below.refl _ _).alloc (Nat.le_refl _) _ }; have HOC : Hid (w1.cell? ⟨w.heap.size + 1, 0, none⟩ = some (.int .i64 k)) := by { show _ = _; rw [hw]; simp }; have HBX := Lib.hid hbz; have HB1 := Lib.hid (HZ.out.trans (hbz.mono HZ.out.size)); clear hw hbz)))
    refine bodyPost_ret (v := .tuple #[.agg #[.int .i64 0, .int .i64 0, .int .i64 0], .bool false]) (by simp [results, Try.results17, go_sem, z0, z1, z2, y0, y1, y2]) rfl ⟨rfl, ((HB2.out.setCell (Nat.le_refl _) _).setCell (Nat.le_refl _) _).setCell (Nat.le_refl _) _⟩
  · have er : r = l[j] := by rw [← hrr]; unfold prgOf; rw [h2]
    have eb : hb = true := by rw [← hhb]; unfold hasP; rw [h2]; rfl
    obtain ⟨bb, oo, ha, hcs⟩ := atPrg hr hj
    subst ha
    have HJ := Lib.hid hcs
    have hjn : j < n := by omega
    clear hrr hhb hq h2 hn HFD hcs
    subst h1 eb
    generalize l[j] = x at er HJ
    obtain ⟨x0, x1, x2⟩ := x
    subst er
    clear hr
    go_enter Try.func17, Try.ntmps17
    go_wp2_with (first
      | (have hgq := HOC; clear hgq; go_at_call 35; ((with_reducible refine (HX.out _ _ HB1.out HOC.out).mono ?_); rintro e w2 ⟨rfl, hb2⟩; have HB2 := Lib.hid (HB1.out.trans (hb2.mono HB1.out.size)); have hbx := Box.of_alloc (w := w) (cs := [.int .i64 0, .int .i64 0, .int .i64 0]) (t := 39) (HBX.out.trans (hb2.mono HBX.out.size)); have z0 := hbx.cell (j := 0) rfl; have z1 := hbx.cell (j := 1) rfl; have z2 := hbx.cell (j := 2) rfl; have y0 := hbx.froz (j := 0) (by simp); have y1 := hbx.froz (j := 1) (by simp); have y2 := hbx.froz (j := 2) (by simp); have ⟨j0, j1, j2⟩ := HJ.out _ HB2.out; clear hbx hb2))
      | (go_at_call 36; ((with_reducible refine (HO.out _).mono ?_); rintro e w1 ⟨rfl, hw⟩; have hbz : Below (w.alloc (.cells #[.int .i64 0, .int .i64 0, .int .i64 0] 39)).heap.size (w.alloc (.cells #[.int .i64 0, .int .i64 0, .int .i64 0] 39)) w1 := by { rw [hw]; exact (Below.refl _ _).alloc (Nat.le_refl _) _ }; have HOC : Hid (w1.cell? ⟨w.heap.size + 1, 0, none⟩ = some (.int .i64 k)) := by { show _ = _; rw [hw]; simp }; have HBX := Lib.hid hbz; have HB1 := Lib.hid (HZ.out.trans (hbz.mono HZ.out.size)); clear hw hbz)))
    refine bodyPost_ret (v := .tuple #[.agg #[.int .i64 x0, .int .i64 x1, .int .i64 x2], .bool true]) (by simp [results, Try.results17, go_sem, z0, z1, z2, y0, y1, y2]) rfl ⟨rfl, ((HB2.out.setCell (Nat.le_refl _) _).setCell (Nat.le_refl _) _).setCell (Nat.le_refl _) _⟩
end Go.Proofs.Ytmihgdjnjfjjcaa

/- A node's progress looked up by the document (weirref11.Find). -/
namespace Go.Proofs.Ytmihgdjnjfjjcaa
open Go.ChangeShapes Go.WideShapes Go.ChangeAt Go.RowKit
set_option maxRecDepth 100000

theorem drop_hit {l : List Prg} {k : Int} {j : Nat} (hj : j < l.length) (h : (l.drop j).find? (fun p => decide (p.node = k)) = l.find? (fun p => decide (p.node = k))) (hp : l[j].node = k) : prgOf l k = l[j] ∧ hasP l k = true := by
  rw [List.drop_eq_getElem_cons hj, List.find?_cons, decide_eq_true hp] at h
  unfold prgOf hasP
  rw [← h]; exact ⟨rfl, rfl⟩
theorem drop_miss {l : List Prg} {k : Int} {j : Nat} (hj : j < l.length) (h : (l.drop j).find? (fun p => decide (p.node = k)) = l.find? (fun p => decide (p.node = k))) (hp : ¬ l[j].node = k) : (l.drop (j + 1)).find? (fun p => decide (p.node = k)) = l.find? (fun p => decide (p.node = k)) := by
  rw [List.drop_eq_getElem_cons hj, List.find?_cons, decide_eq_false hp] at h
  exact h
theorem drop_end {l : List Prg} {k : Int} {j : Nat} (hj : l.length ≤ j) (h : (l.drop j).find? (fun p => decide (p.node = k)) = l.find? (fun p => decide (p.node = k))) : prgOf l k = ⟨0, 0, 0⟩ ∧ hasP l k = false := by
  rw [List.drop_of_length_le hj] at h
  unfold prgOf hasP
  rw [← h]; exact ⟨rfl, rfl⟩
set_option maxHeartbeats 4000000 in
theorem reffind_any (l : List Prg) (a : Option Addr) (n c : Nat) (k : Int) (w : World) (hn : l.length = n) (hl : n ≤ 1000000) (hr : LRow layPrg w a l) :
    Calls Try.prog 15 #[.slice a n c, .int .i64 k] w (RetFind w (prgOf l k) (hasP l k)) := by
  subst hn
  obtain ⟨r, hrr⟩ : ∃ r, prgOf l k = r := ⟨_, rfl⟩
  obtain ⟨hb, hhb⟩ : ∃ r, hasP l k = r := ⟨_, rfl⟩
  have HD1 := Lib.hid (fun j (hj : j < l.length) h hp => drop_hit (k := k) hj h hp)
  have HD2 := Lib.hid (fun j (hj : j < l.length) h hp => drop_miss (k := k) hj h hp)
  have HD3 := Lib.hid (fun j (hj : l.length ≤ j) h => drop_end (k := k) hj h)
  rw [hrr, hhb] at HD1 HD3 ⊢
  clear hrr hhb
  have HZ : Hid (Below w.heap.size w (w.alloc (.cells #[.int .i64 0, .int .i64 0, .int .i64 0] 39))) := mid_alloc' (Below.refl _ _)
  have HR := Lib.hid hr
  go_enter Try.func15, Try.ntmps15
  go_wp2_with fail
  go_loop [6] (fun i => ∃ j : Nat, j ≤ l.length ∧ i = .int .i64 j ∧ Hid ((l.drop j).find? (fun p => decide (p.node = k)) = l.find? (fun p => decide (p.node = k)))) (fun i => l.length - (intOf i).toNat)
  case atStart => exact ⟨0, Nat.zero_le _, rfl, rfl⟩
  case round =>
    obtain ⟨j, hj, rfl, HF⟩ := hrel
    by_cases hlt : j < l.length
    · obtain ⟨bb, oo, ha, hcs⟩ := atPrg hr hlt
      subst ha
      have ⟨j0, j1, j2⟩ := hcs _ HZ.out
      clear hcs hr
      have H1 := Lib.hid (HD1.out j hlt HF.out)
      have H2 := Lib.hid (HD2.out j hlt HF.out)
      generalize l[j] = x at j0 j1 j2 H1 H2
      obtain ⟨x0, x1, x2⟩ := x
      simp only at j0 j1 j2 H1 H2
      have hd : decide (j < l.length) = true := decide_eq_true hlt
      rcases he : (x0 == k) with _ | _
      · have H3 := Lib.hid (H2.out (by simpa using he))
        go_wp2_with fail
        go_round
        case rel => exact ⟨j + 1, by omega, by go_num, H3.out⟩
        case measure => simp [intOf]; omega
      · have ⟨e1, e2⟩ := H1.out (by simpa using he)
        subst e1 e2
        go_wp2_with fail
        go_returns
        exact ⟨rfl, mid_alloc' (Below.refl _ _)⟩
    · have ⟨e1, e2⟩ := HD3.out j (by omega) HF.out
      subst e1 e2
      have hd : decide (j < l.length) = false := decide_eq_false hlt
      go_wp2_with fail
      go_returns
      exact ⟨rfl, mid_alloc' (Below.refl _ _)⟩
end Go.Proofs.Ytmihgdjnjfjjcaa

/- Bytes copied (slices.Clone). -/
namespace Go.Proofs.Ytmihgdjnjfjjcaa
open Go.ChangeShapes Go.WideShapes Go.ChangeAt Go.RowKit
set_option maxRecDepth 100000

theorem el_bytes : Elem Try.prog 56 5 1 1 where
  under := Try.underlying56
  info := by
    have h : (Try.prog.info? 5).map (fun i => (i.zero, i.size, i.bytes)) = some (some (.int .u8 0), 1, 1) := by kernel_rfl
    obtain ⟨i, hi, h0, h1, h2⟩ := info_parts h
    exact ⟨i, _, hi, h0, h1, h2, rfl⟩
  pos := by decide
  bpos := by decide
theorem bytes_one (l : List UInt8) : ∀ u ∈ l.map B, u.oneCell' = true := by
  intro u hu
  obtain ⟨x, -, rfl⟩ := List.mem_map.1 hu
  rfl
/-- The same bytes, in new memory where there are any. -/
def RetBy (w : World) (l : List UInt8) (e : Ending) (w' : World) : Prop := ∃ a c, e = .returned (.slice a l.length c) ∧ RowB w' a l ∧ Below w.heap.size w w' ∧ l.length ≤ c ∧ (l ≠ [] → ∀ b o s, a = some ⟨b, o, s⟩ → w.heap.size ≤ b)
theorem cloneB (l : List UInt8) (a : Option Addr) (n c : Nat) (w : World) (hn : l.length = n) (hl : n ≤ 1000000) (hc : a = none → c = 0) (hnc : n ≤ c) (hr : RowB w a l) :
    Calls Try.prog 54 #[.slice a n c] w (RetBy w l) := by
  subst hn
  cases a with
  | none =>
    obtain rfl := hc rfl
    have h0 : l.length = 0 := by omega
    obtain rfl : l = [] := List.eq_nil_of_length_eq_zero h0
    have hnil := Lib.run_eql_slice_nil (P := Try.prog) w 56 5 none 0 0 0 0 Try.underlying56
    go_enter Try.func54, Try.ntmps54
    go_wp2
    go_returns
    exact ⟨none, 0, rfl, .inl rfl, Below.refl _ _, Nat.le_refl _, fun h => absurd rfl h⟩
  | some x =>
    have HR := Lib.hid hr
    clear hr
    go_enter Try.func54, Try.ntmps54
    have hnil := Lib.run_eql_slice_nil (P := Try.prog) w 56 5 (some x) l.length c 0 0 Try.underlying56
    go_wp2_with (at_builtin; refine wpList_can el_bytes rfl _ _ rfl w.heap.size _ 0 _ _ rfl (Can.empty _ _ _ _ _) _ l.length _ (l.map B) rfl (by rw [List.length_map, Nat.mul_one]) (Row.alloc HR.out _) (bytes_one _) (by omega) (by simp) ?_; intro a' c' w3 hcan3 _ hb3 hown)
    go_returns
    rw [Nat.zero_add, List.nil_append] at hcan3 hown
    exact ⟨a', c', rfl, hcan3.row, ((Below.refl _ _).alloc (Nat.le_refl _) _).trans hb3, hcan3.le, fun h0 b o s e => own_block (hown.1 (List.length_pos_iff.2 h0)) b o s e⟩
end Go.Proofs.Ytmihgdjnjfjjcaa

/- Entries copied by the document (weirref09.copied). -/
namespace Go.Proofs.Ytmihgdjnjfjjcaa
open Go.ChangeShapes Go.WideShapes Go.ChangeAt Go.RowKit
set_option maxRecDepth 100000

theorem el_ent : Elem Try.prog 22 58 5 56 := layRw.elem Try.underlying22
/-- An entry's bytes, apart from the row at a1. -/
structure Ap (w : World) (a1 : Option Addr) (y : RwE) : Prop where
  row : RowB w y.2.1 y.1.data
  apart : y.1.data ≠ [] → ∀ b o s, y.2.1 = some ⟨b, o, s⟩ → ∀ o' s', a1 ≠ some ⟨b, o', s'⟩
theorem rowB_block {w w' : World} {a : Option Addr} {l : List UInt8} (h : RowB w a l) (hb : ∀ b o s, a = some ⟨b, o, s⟩ → b < w.heap.size → l ≠ [] → w'.heap[b]? = w.heap[b]?) : RowB w' a l := by
  by_cases h0 : l = []
  · rw [h0]; exact .inl rfl
  · have hne : l.map B ≠ [] := by simpa using h0
    rcases h with h1 | ⟨b, o, rfl, hc⟩
    · exact absurd h1 hne
    · have hlt := Row.lt (.inr ⟨b, o, rfl, hc⟩) hne
      refine .inr ⟨b, o, rfl, fun i hi => ?_⟩
      rw [World.cell?_of_block (a := ⟨b, o + i, none⟩) (hb b o none rfl hlt h0)]
      exact hc i hi
theorem Ap.below {w w' : World} {B : Nat} {a1 : Option Addr} {y : RwE} (h : Ap w a1 y) (hb : Below B w w') (hB : w.heap.size ≤ B) : Ap w' a1 y :=
  ⟨rowB_block h.row (fun b _ _ _ hlt _ => hb.block b (by omega)), h.apart⟩
theorem Ap.grown {w w' : World} {a1 a' : Option Addr} {n c : Nat} {y : RwE} (h : Ap w a1 y) (hg : w.grownBy w' (Value.slice a1 n c).ownBlock) (hn : Near w.heap.size a1 a') : Ap w' a' y := by
  refine ⟨rowB_block h.row (fun b o s e hlt h0 => hg.block b hlt (fun e2 => ?_)), fun h0 b o s e o' s' e2 => ?_⟩
  · cases a1 with
    | none => simp [Value.ownBlock] at e2
    | some ad =>
      obtain ⟨y1, u, v⟩ := ad
      simp [Value.ownBlock] at e2
      subst e2
      exact h.apart h0 b o s e u v rfl
  · have hlt : b < w.heap.size := by
      have hne : y.1.data.map B ≠ [] := by simpa using h0
      rcases h.row with h1 | ⟨b1, o1, h1, hc⟩
      · exact absurd h1 hne
      · rw [e] at h1
        simp only [Option.some.injEq, Addr.mk.injEq] at h1
        obtain ⟨rfl, rfl, rfl⟩ := h1
        exact Row.lt (.inr ⟨b, o, rfl, hc⟩) hne
    rcases hn b o' s' e2 with h1 | ⟨o2, s2, h1⟩
    · omega
    · exact h.apart h0 b o s e o2 s2 h1
theorem canNext {w w' : World} {B n c : Nat} {e : TypeId} {size : Nat} {a : Option Addr} {xs : List Value} (h : Can w B e size a n c xs) (hb : Below w.heap.size w w') : Can w' B e size a n c xs :=
  ⟨h.1, h.2.1, h.2.2.imp (fun h1 => ⟨h1.1, Row.below h1.2 hb⟩) (fun h1 => own_mid (B := 0) h1 (Mid.below hb (Nat.le_refl _)) (Nat.zero_le _) (Nat.le_refl _))⟩
/-- What an append onto a far row leaves as it was. -/
theorem grown_below {w w' : World} {B n c : Nat} {a : Option Addr} (hg : w.grownBy w' (Value.slice a n c).ownBlock) (hB : B ≤ w.heap.size) (ha : ∀ b o s, a = some ⟨b, o, s⟩ → B ≤ b) : Below B w w' :=
  ⟨hg.os, hg.tape, hg.output, hg.size, fun k hk => hg.block k (by omega) (fun e => by
    cases a with
    | none => simp [Value.ownBlock] at e
    | some ad =>
      obtain ⟨y, u, v⟩ := ad
      simp [Value.ownBlock] at e
      subst e
      have := ha k u v rfl; omega)⟩
/-- The same entries, in new memory. -/
def RetCp (w : World) (es : List RwE) (e : Ending) (w' : World) : Prop := ∃ (a : Option Addr) (c : Nat) (fs : List RwE), e = .returned (.slice a fs.length c) ∧ ents fs = ents es ∧ Row w' a (fs.flatMap cellsRw) ∧ (∀ y ∈ fs, RowB w' y.2.1 y.1.data) ∧ Below w.heap.size w w'
set_option maxHeartbeats 8000000 in
theorem refcopied_any (es : List RwE) (a : Option Addr) (n c : Nat) (w : World) (hn : es.length = n) (hl : n ≤ 1000000) (hle : ∀ y ∈ es, RowB w y.2.1 y.1.data ∧ y.1.data.length ≤ 1000000) (hr : Row w a (es.flatMap cellsRw)) :
    Calls Try.prog 48 #[.slice a n c] w (RetCp w es) := by
  have HN := Lib.hid hn
  have HR := Lib.hid hr
  have HLE := Lib.hid hle
  have HLN : Hid ((ents es).length = n) := by show _ = _; rw [← hn]; exact List.length_map _
  clear hn hr hle
  go_enter Try.func48, Try.ntmps48
  go_wp2_with fail
  go_loopw [3, 4] (fun ov iv wr => ∃ (k : Nat) (fs : List RwE) (a1 : Option Addr) (c1 : Nat), k ≤ n ∧ iv = .int .i64 k ∧ ov = .slice a1 fs.length c1 ∧ fs.length ≤ k ∧ Hid (ents fs = (ents es).take k) ∧ Hid (Can wr w.heap.size 58 5 a1 fs.length c1 (fs.flatMap cellsRw)) ∧ Hid (∀ y ∈ fs, Ap wr a1 y) ∧ Hid (∀ b o s, a1 = some ⟨b, o, s⟩ → w.heap.size ≤ b ∧ b < wr.heap.size) ∧ Hid (Below w.heap.size w wr)) (fun _ iv _ => n - (intOf iv).toNat)
  case atStart => exact ⟨0, [], none, 0, Nat.zero_le _, rfl, rfl, Nat.le_refl _, rfl, Can.nil _ _ _ _, (fun y hy => by cases hy), (fun b o s h => by cases h), Below.refl _ _⟩
  case round =>
    obtain ⟨k, fs, a1, c1, hk, rfl, rfl, hfs, HE, HC, HA, HFA, HB⟩ := hrel
    have hsz := HB.out.size
    by_cases hlt : k < n
    · have hke : k < es.length := by rw [HN.out]; exact hlt
      have hkl : k < (ents es).length := by rw [HLN.out]; exact hlt
      obtain ⟨bb, oo, ha, hE⟩ := entAt (HR.out.mono_below HB.out) hke
      have HX := Lib.hid (HLE.out _ (List.getElem_mem hke))
      have HTK : Hid ((ents es).take (k + 1) = (ents es).take k ++ [es[k].1]) := by
        show _ = _
        rw [List.take_succ_eq_append_getElem hkl]
        congr 2
        exact List.getElem_map _
      subst ha
      generalize es[k] = x at hE HX HTK
      obtain ⟨⟨x0, x1, x2, x3, x4⟩, ⟨q0, q1⟩⟩ := x
      obtain ⟨j0, j1, j2, j3, j4⟩ := hE
      simp only at j0 j1 j2 j3 j4 HX HTK
      have hx4 := HX.out.2
      have HXR := Lib.hid (HX.out.1.below HB.out)
      have i1 : (0 : Int) ≤ (k : Int) := by omega
      have i2 : (k : Int) < (n : Int) := by omega
      have hd : decide (k < n) = true := decide_eq_true hlt
      have hbb : bb < wr.heap.size := World.block_lt_of_cell? wr _ j4
      clear hke hkl HX
      go_wp2_with (first
        | (have hgq := HRY; clear hgq; at_builtin; refine wpList_nearE el_ent rfl (.tmp 26) (.tmp 28) rfl w.heap.size a1 fs.length c1 (fs.flatMap cellsRw) rfl ((canNext HC.out HWB.out).alloc _) (some ⟨w6.heap.size, 0, none⟩) 1 1 [.int .i64 x0, .int .i8 x1, .int .i64 x2, B x3, .slice a6 x4.length c6] rfl rfl (by rw [← HSZ.out]; exact Row.new _ _ _ _) (by simp [Value.oneCell']) (by omega) (Nat.le_trans hsz (Nat.le_trans HWB.out.size (by simp))) ?_; intro a8 c8 w8 hcan8 hg8 hn8; have HCAN8 := Lib.hid hcan8; have HG8 := Lib.hid hg8; have HN8 := Lib.hid hn8; clear hcan8 hg8 hn8)
        | (at_builtin; refine wpList_can el_bytes rfl (.tmp 17) (.tmp 22) rfl (wr.heap.size + 1) none 0 0 [] rfl (Can.nil _ _ _ _) q0 x4.length q1 (x4.map B) rfl (by rw [List.length_map, Nat.mul_one]) (HXR.out.below ((Below.refl _ _).alloc (Nat.le_refl _) _)) (bytes_one _) (by omega) (by simp) ?_; intro a6 c6 w6 hcan6 _ hb6 hown6; rw [Nat.zero_add, List.nil_append] at hcan6 hown6; have hbx : Box w6 wr.heap.size [.int .i64 x0, .int .i8 x1, .int .i64 x2, B x3, .slice q0 x4.length q1] := (Box.of_alloc (w := wr) (cs := [.int .i64 x0, .int .i8 x1, .int .i64 x2, B x3, .slice q0 x4.length q1]) (t := 58) (Below.refl _ _)).below hb6 (Nat.lt_succ_self _); have m0 := hbx.cell (j := 0) rfl; have m1 := hbx.cell (j := 1) rfl; have m2 := hbx.cell (j := 2) rfl; have m3 := hbx.cell (j := 3) rfl; have m4 := hbx.cell (j := 4) rfl; have y4 := hbx.froz (j := 4) (by simp); have HWB : Hid (Below wr.heap.size wr (w6.setCell ⟨wr.heap.size, 4, none⟩ (.slice a6 x4.length c6))) := (((Below.refl wr.heap.size wr).alloc (Nat.le_refl _) _).trans (hb6.mono (Nat.le_succ _))).setCell (Nat.le_refl _) _; have HSZ : Hid (((w6.setCell ⟨wr.heap.size, 4, none⟩ (.slice a6 x4.length c6))).heap.size = w6.heap.size) := by { show _ = _; simp }; have HOB : Hid (x4 ≠ [] → ∀ b o s, a6 = some ⟨b, o, s⟩ → wr.heap.size + 1 ≤ b) := fun h0 b o s e => own_block (hown6.1 (List.length_pos_iff.2 h0)) b o s e; have HRY : Hid (RowB (w6.setCell ⟨wr.heap.size, 4, none⟩ (.slice a6 x4.length c6)) a6 x4) := rowB_block hcan6.row (fun b o s e _ h0 => Below.heap_setCell _ _ _ _ (fun e2 => by have := HOB.out h0 b o s e; simp at e2; omega)); clear hcan6 hown6 hb6 hbx))
      go_roundw
      case rel =>
        have hW : Below wr.heap.size wr ((w6.setCell ⟨wr.heap.size, 4, none⟩ (.slice a6 x4.length c6)).alloc (.cells #[.int .i64 x0, .int .i8 x1, .int .i64 x2, B x3, .slice a6 x4.length c6] 58)) := HWB.out.trans ((Below.refl _ _).alloc HWB.out.size _)
        have hws := hW.size
        have hfa : ∀ b o s, a8 = some ⟨b, o, s⟩ → w.heap.size ≤ b := fun b o s e => by
          rcases HN8.out b o s e with h1 | ⟨o2, s2, h1⟩
          · omega
          · exact (HFA.out b o2 s2 h1).1
        have hrow := HCAN8.out.row
        have hap : ∀ y ∈ fs ++ [((⟨x0, x1, x2, x3, x4⟩, (a6, c6)) : RwE)], Ap w8 a8 y := fun y hy => by
          rcases List.mem_append.1 hy with hy | hy
          · exact ((HA.out y hy).below hW (Nat.le_refl _)).grown HG8.out HN8.out
          · rw [List.mem_singleton] at hy
            subst hy
            refine Ap.grown (a1 := a1) ⟨HRY.out.below ((Below.refl _ _).alloc (Nat.le_refl _) _), fun h0 b o s e o' s' e2 => ?_⟩ HG8.out HN8.out
            have h1 := HOB.out h0 b o s e
            have h2 := (HFA.out b o' s' e2).2
            omega
        have hlt8 : ∀ b o s, a8 = some ⟨b, o, s⟩ → b < w8.heap.size := fun b o s e => by
          rcases hrow with h1 | ⟨b1, o1, h1, hc⟩
          · have := congrArg List.length h1; simp at this
          · rw [e] at h1
            simp only [Option.some.injEq, Addr.mk.injEq] at h1
            obtain ⟨rfl, rfl, rfl⟩ := h1
            exact Row.lt (.inr ⟨b, o, rfl, hc⟩) (by simp)
        exact ⟨k + 1, fs ++ [(⟨x0, x1, x2, x3, x4⟩, (a6, c6))], a8, c8, by omega, by go_num, by simp, by simp; omega, (by show ents _ = _; rw [HTK.out, ← HE.out]; exact List.map_append), (by (show Can _ _ _ _ _ _ _ _); rw [List.length_append, List.flatMap_append]; exact HCAN8.out), Lib.hid hap, (fun b o s e => ⟨hfa b o s e, hlt8 b o s e⟩), (HB.out.trans (hW.mono hsz)).trans (grown_below HG8.out (Nat.le_trans hsz hws) (fun b o s e => (HFA.out b o s e).1))⟩
      case measure => simp [intOf]; omega
    · obtain rfl : k = n := by omega
      have hE : ents fs = ents es := by have := HE.out; rw [List.take_of_length_le (Nat.le_of_eq HLN.out)] at this; exact this
      have HE2 := Lib.hid hE
      clear hE
      go_wp2_with fail
      go_ret
      exact ⟨a1, c1, fs, rfl, HE2.out, HC.out.row, fun y hy => (HA.out y hy).row, HB.out⟩
end Go.Proofs.Ytmihgdjnjfjjcaa

/- Entries copied by the program (rows.copied). -/
namespace Go.Proofs.Ytmihgdjnjfjjcaa
open Go.ChangeShapes Go.WideShapes Go.ChangeAt Go.RowKit
set_option maxRecDepth 100000

section
variable {P : Program} {e : TypeId} {α : Type} {L : Lay P e α}
theorem flatSet {xs : List α} {k r : Nat} {v : Value} {z : α} (hk : k < xs.length) (hr : r < L.size) (hz : L.cells z = (L.cells xs[k]).set r v) : (xs.set k z).flatMap L.cells = (xs.flatMap L.cells).set (k * L.size + r) v := by
  have hp := L.pos
  refine List.ext_getElem? fun j => ?_
  have hjj : j / L.size * L.size + j % L.size = j := by rw [Nat.mul_comm]; exact Nat.div_add_mod j L.size
  have hj : j % L.size < L.size := Nat.mod_lt _ hp
  have h1 := L.at (xs.set k z) (k := j / L.size) hj
  have h2 := L.at xs (k := j / L.size) hj
  rw [hjj] at h1 h2
  rw [h1]
  by_cases e1 : j / L.size = k
  · rw [e1, List.getElem?_set_self hk, Option.bind_some, hz]
    rw [e1, List.getElem?_eq_getElem hk, Option.bind_some] at h2
    by_cases e2 : j % L.size = r
    · have hji : k * L.size + r = j := by rw [← e1, ← e2]; exact hjj
      have hlt : j < (xs.flatMap L.cells).length := by
        rw [L.length, ← hji]
        have := Nat.mul_le_mul_right L.size (Nat.succ_le_of_lt hk)
        rw [Nat.succ_mul] at this; omega
      rw [e2, hji, List.getElem?_set_self (by rw [L.len]; exact hr), List.getElem?_set_self hlt]
    · rw [List.getElem?_set_ne (fun h => e2 h.symm), List.getElem?_set_ne (fun h => e2 (by rw [← h, Nat.mul_comm, Nat.mul_add_mod, Nat.mod_eq_of_lt hr])), h2]
  · rw [List.getElem?_set_ne (fun h => e1 h.symm), ← h2, List.getElem?_set_ne]
    intro h
    apply e1
    rw [← h, Nat.mul_comm, Nat.mul_add_div hp, Nat.div_eq_of_lt hr]; rfl
theorem mineBox {w : World} {B g : Nat} {xs : List α} (h : Mine L w B g 0 xs) : Box w g (xs.flatMap L.cells) := ⟨h.2.1, by rw [L.length]; exact h.2.2⟩
theorem boxMine {w : World} {B g : Nat} {xs : List α} (hB : B ≤ g) (h : Box w g (xs.flatMap L.cells)) : Mine L w B g 0 xs := ⟨hB, h.range, by have := h.there; rw [L.length] at this; exact this⟩
end
/-- A copy of a row of entries that is not empty. -/
def RetClE (w : World) (l : List RwE) (n : Nat) (e : Ending) (w' : World) : Prop := ∃ g c3, e = .returned (.slice (some ⟨g, 0, none⟩) n c3) ∧ w.heap.size ≤ g ∧ Box w' g (l.flatMap cellsRw) ∧ Below w.heap.size w w'
theorem cloneBox {w : World} {l : List RwE} {n : Nat} (hn : l.length = n) (h0 : 0 < l.length) {e : Ending} {w' : World} (h : RetOwnRw w l e w') : RetClE w l n e w' := by
  subst hn
  obtain ⟨a3, c3, he, -, -, hown, -, hb⟩ := h
  obtain ⟨g, rfl, hB, -⟩ := own_head (hown h0) (by
    intro h1
    have h2 := congrArg List.length h1
    rw [layRw.length] at h2
    have : layRw.size = 5 := rfl
    rw [this] at h2
    simp at h2; omega)
  exact ⟨g, c3, he, hB, mineBox (Mine.of_own (hown h0)), hb⟩
theorem ap_set {w w' : World} {g : Nat} {y : RwE} (h : Ap w (some ⟨g, 0, none⟩) y) (hb : ∀ k, k < w.heap.size → k ≠ g → w'.heap[k]? = w.heap[k]?) : Ap w' (some ⟨g, 0, none⟩) y :=
  ⟨rowB_block h.row (fun b o s e hlt h0 => hb b hlt (fun e2 => by subst e2; exact h.apart h0 b o s e 0 none rfl)), h.apart⟩
set_option maxHeartbeats 8000000 in
theorem copied_any (es : List RwE) (a : Option Addr) (n c : Nat) (w : World) (hn : es.length = n) (hl : n ≤ 1000000) (hc : a = none → c = 0) (hnc : n ≤ c) (hle : ∀ y ∈ es, RowB w y.2.1 y.1.data ∧ y.1.data.length ≤ 1000000 ∧ y.1.data.length ≤ y.2.2 ∧ (y.2.1 = none → y.2.2 = 0)) (hr : Row w a (es.flatMap cellsRw)) :
    Calls Try.prog 47 #[.slice a n c] w (RetCp w es) := by
  have HCL := Lib.hid (cloneRw es a n c w hn (by show n * 56 ≤ _; omega) (by unfold maxLen; omega) hc hnc hr)
  have HN := Lib.hid hn
  have HLE := Lib.hid hle
  by_cases h0 : n = 0
  · have he : es = [] := List.eq_nil_of_length_eq_zero (by omega)
    clear hn hle hr hc hnc HN HLE
    subst he h0
    go_enter Try.func47, Try.ntmps47
    go_wp2_with (go_at_call 53; ((with_reducible refine HCL.out.mono ?_); rintro e w2 ⟨a3, c3, rfl, -, -, -, -, hb⟩; have HB2 := Lib.hid hb; clear hb))
    go_loopw [9] (fun i wr => i = .int .i64 0 ∧ Hid (Below w.heap.size w wr)) (fun _ _ => 0)
    case atStart => exact ⟨rfl, HB2.out⟩
    case round =>
      obtain ⟨rfl, HB⟩ := hrel
      go_wp2_with fail
      go_ret
      exact ⟨a3, c3, [], rfl, rfl, .inl rfl, (fun y hy => by cases hy), HB.out⟩
  have HCM := Lib.hid (HCL.out.mono (fun _ _ h => cloneBox hn (by omega) h))
  clear hn hle hr hc hnc HCL
  go_enter Try.func47, Try.ntmps47
  go_wp2_with (go_at_call 53; ((with_reducible refine HCM.out.mono ?_); rintro e w2 ⟨g, c3, rfl, hg, hx, hb⟩; have HX2 := Lib.hid hx; have HB2 := Lib.hid hb; have HG := Lib.hid hg; clear hx hb hg))
  go_loopw [9] (fun iv wr => ∃ (k : Nat) (zs : List RwE), k ≤ n ∧ iv = .int .i64 k ∧ Hid (zs.length = es.length) ∧ Hid (ents zs = ents es) ∧ Hid (∀ j (h1 : j < zs.length) (h2 : j < es.length), k ≤ j → zs[j] = es[j]) ∧ Hid (Box wr g (zs.flatMap cellsRw)) ∧ Hid (∀ y ∈ zs, Ap wr (some ⟨g, 0, none⟩) y) ∧ Hid (Below w.heap.size w wr)) (fun iv _ => n - (intOf iv).toNat)
  case atStart => exact ⟨0, es, Nat.zero_le _, rfl, rfl, rfl, (fun _ _ _ _ => rfl), HX2.out, (fun y hy => ⟨(HLE.out y hy).1.below HB2.out, fun h0 b o s e o' s' e2 => by
      simp only [Option.some.injEq, Addr.mk.injEq] at e2
      have h1 := (HLE.out y hy).1
      have hne : y.1.data.map B ≠ [] := by simpa using h0
      rcases h1 with h1 | ⟨b1, o1, h1, hc1⟩
      · exact absurd h1 hne
      · rw [e] at h1
        simp only [Option.some.injEq, Addr.mk.injEq] at h1
        obtain ⟨rfl, rfl, rfl⟩ := h1
        have := Row.lt (.inr ⟨b, o, rfl, hc1⟩) hne
        have := HG.out
        omega⟩), HB2.out⟩
  case round =>
    clear HX2 HB2 HCM
    obtain ⟨k, zs, hk, rfl, HZL, HZE, HZK, HX, HA, HB⟩ := hrel
    by_cases hlt : k < n
    · have hke : k < es.length := by rw [HN.out]; exact hlt
      have hkz : k < zs.length := by rw [HZL.out]; exact hke
      have hx := HZK.out k hkz hke (Nat.le_refl _)
      have hLE := HLE.out _ (List.getElem_mem hke)
      have hAP := HA.out _ (List.getElem_mem hkz)
      have hat : ∀ r, r < 5 → wr.cell? ⟨g, k * 5 + r, none⟩ = (cellsRw zs[k])[r]? := fun r hr => by
        have h1 := flatMap_at (cells := cellsRw) (size := 5) (fun _ => rfl) (xs := zs) (i := k) hr
        rw [List.getElem?_eq_getElem hkz, Option.bind_some] at h1
        have h2 : k * 5 + r < (zs.flatMap cellsRw).length := by
          rw [flatMap_len (size := 5) (fun _ => rfl)]; omega
        rw [HX.out.cell (List.getElem?_eq_getElem h2), ← h1, List.getElem?_eq_getElem h2]
      have hfl : k * 5 + 4 < (zs.flatMap cellsRw).length := by
        rw [flatMap_len (size := 5) (fun _ => rfl)]; omega
      have j4 := hat 4 (by decide)
      have y4 := HX.out.froz hfl
      have HSET := Lib.hid (fun (v : Value) (z : RwE) (hz : cellsRw z = (cellsRw zs[k]).set 4 v) => flatSet (L := layRw) (xs := zs) (k := k) (r := 4) (v := v) (z := z) hkz (by decide) hz)
      have HENT : Hid (∀ z : RwE, z.1 = zs[k].1 → ents (zs.set k z) = ents es) := fun z hz => by
        rw [← HZE.out]
        show (zs.set k z).map Prod.fst = zs.map Prod.fst
        rw [List.map_set]
        refine List.ext_getElem? fun i => ?_
        rw [List.getElem?_set]
        by_cases hi : k = i
        · subst hi
          rw [if_pos rfl, if_pos (by rw [List.length_map]; exact hkz), List.getElem?_map, List.getElem?_eq_getElem hkz, hz]; rfl
        · rw [if_neg hi]
      rw [← hx] at hLE
      have HLX := Lib.hid hLE
      have HAP := Lib.hid hAP
      generalize zs[k] = x at j4 HSET HENT HLX HAP
      obtain ⟨⟨x0, x1, x2, x3, x4⟩, ⟨q0, q1⟩⟩ := x
      rw [show (cellsRw ((⟨x0, x1, x2, x3, x4⟩, (q0, q1)) : RwE))[4]? = some (.slice q0 x4.length q1) from rfl] at j4
      simp only at HLX HAP
      have hx4 := HLX.out.2.1
      have HCB := Lib.hid (cloneB x4 q0 x4.length q1 wr rfl hx4 HLX.out.2.2.2 HLX.out.2.2.1 HAP.out.row)
      have hgl : g < wr.heap.size := World.block_lt_of_cell? wr _ j4
      have i1 : (0 : Int) ≤ (k : Int) := by omega
      have i2 : (k : Int) < (n : Int) := by omega
      have hd : decide (k < n) = true := decide_eq_true hlt
      have HFL := Lib.hid hfl
      have HKZ := Lib.hid hkz
      clear hat hx hLE hAP hke hkz hfl
      go_wp2_with (go_at_call 54; ((with_reducible refine HCB.out.mono ?_); rintro e w3 ⟨a6, c6, rfl, hr6, hb6, hl6, hf6⟩; have HF6 := Lib.hid hf6; have HR6 := Lib.hid hr6; have HB6 := Lib.hid hb6; have n4 := cell_next hb6 j4; have z4 : w3.frozen? ⟨g, k * 5 + 4, none⟩ = false := (hb6.frozen (p := ⟨g, k * 5 + 4, none⟩) hgl).trans y4; clear hr6 hb6 hf6))
      go_roundw
      case rel =>
        have hbox : Box (w3.setCell ⟨g, k * 5 + 4, none⟩ (.slice a6 x4.length c6)) g ((zs.set k ((⟨x0, x1, x2, x3, x4⟩, (a6, c6)) : RwE)).flatMap cellsRw) := by
          have e := HSET.out (.slice a6 x4.length c6) ((⟨x0, x1, x2, x3, x4⟩, (a6, c6)) : RwE) rfl
          show Box _ _ ((zs.set k ((⟨x0, x1, x2, x3, x4⟩, (a6, c6)) : RwE)).flatMap layRw.cells)
          rw [e]
          exact (HX.out.below HB6.out hgl).set (i := k * 5 + 4) HFL.out _
        have hkeep : ∀ q, q < w3.heap.size → q ≠ g → (w3.setCell ⟨g, k * 5 + 4, none⟩ (.slice a6 x4.length c6)).heap[q]? = w3.heap[q]? := fun q _ hq => Below.heap_setCell _ _ _ _ (fun e => hq e)
        have hap : ∀ y ∈ zs.set k ((⟨x0, x1, x2, x3, x4⟩, (a6, c6)) : RwE), Ap (w3.setCell ⟨g, k * 5 + 4, none⟩ (.slice a6 x4.length c6)) (some ⟨g, 0, none⟩) y := fun y hy => by
          rcases List.mem_or_eq_of_mem_set hy with hy | hy
          · exact ap_set ((HA.out y hy).below HB6.out (Nat.le_refl _)) hkeep
          · subst hy
            have hne : ∀ b o s, x4 ≠ [] → a6 = some ⟨b, o, s⟩ → b ≠ g := fun b o s h0 e e2 => by have := HF6.out h0 b o s e; omega
            exact ⟨rowB_block HR6.out (fun b o s e hlt h0 => hkeep b hlt (hne b o s h0 e)), fun h0 b o s e o' s' e2 => by
              simp only [Option.some.injEq, Addr.mk.injEq] at e2
              exact hne b o s h0 e e2.1.symm⟩
        exact ⟨k + 1, zs.set k ((⟨x0, x1, x2, x3, x4⟩, (a6, c6)) : RwE), by omega, by go_num, (by show _ = _; rw [List.length_set]; exact HZL.out), HENT.out _ rfl, (fun j h1 h2 hj => by rw [List.getElem_set_ne (by omega)]; exact HZK.out j (by simpa using h1) h2 (by omega)), hbox, Lib.hid hap, (HB.out.trans (HB6.out.mono HB.out.size)).setCell HG.out _⟩
      case measure => simp [intOf]; omega
    · obtain rfl : k = n := by omega
      have hd : decide (k < k) = false := decide_eq_false hlt
      go_wp2_with fail
      go_ret
      exact ⟨some ⟨g, 0, none⟩, c3, zs, by rw [HZL.out, HN.out]; rfl, HZE.out, .inr ⟨g, 0, rfl, fun i hi => by rw [Nat.zero_add]; exact HX.out.cell (List.getElem?_eq_getElem hi)⟩, fun y hy => (HA.out y hy).row, HB.out⟩
end Go.Proofs.Ytmihgdjnjfjjcaa

/- The same entries (weirref05.SameEntries). (printed by gen_rwsame.py) -/
namespace Go.Proofs.Ytmihgdjnjfjjcaa
open Go.ChangeShapes Go.WideShapes Go.ChangeAt Go.RowKit
set_option maxRecDepth 100000

abbrev PEnt := Option Addr × Nat
def valEnt (v : WEnt) (p : PEnt) : Value := .agg #[.int .i64 v.term, .int .i8 v.kind, .int .i64 v.stamp, B v.set, .slice p.1 v.data.length p.2]
theorem conv_bytes {a : Option Addr} {l : List UInt8} {n c : Nat} {w : World} (hr : RowB w a l) (hn : l.length = n) : (convert 56 9 (.slice a n c)).run Try.prog w = .ok (.string ⟨l.toArray⟩) w := by
  subst hn
  cases a with
  | none =>
    have h0 : l = [] := by
      rcases hr with h | ⟨b, o, h, _⟩
      · simpa using h
      · cases h
    subst h0
    exact run_convert_bytes_nil (w := w) 56 5 Try.underlying56 Try.underlying5 _ _ 9 Try.underlying9
  | some ad =>
    refine run_convert_bytes_back w 56 9 5 ad c l Try.underlying56 Try.underlying5 Try.underlying9 fun j hj => ?_
    exact hr.holds j _ (by rw [List.getElem?_map, List.getElem?_eq_getElem hj]; rfl)

theorem same_data (a b : Option Addr) (c d n m : Nat) (l : List UInt8) (w : World) (ha : RowB w a l) (hb : RowB w b l) (hn : l.length = n) (hm : l.length = m) :
    Calls Try.prog 49 #[.slice a n c, .slice b m d] w (fun e w' => e = .returned (.bool true) ∧ w = w') := by
  have h1 := conv_bytes (c := c) ha hn
  have h2 := conv_bytes (c := d) hb hm
  clear ha hb hn hm
  go_enter Try.func49, Try.ntmps49
  go_wp2
  go_ret
  exact ⟨rfl, rfl⟩
set_option maxHeartbeats 1000000 in
theorem same_entry (v : WEnt) (p q : PEnt) (w : World) (hp : RowB w p.1 v.data) (hq : RowB w q.1 v.data) :
    Calls Try.prog 40 #[valEnt v p, valEnt v q] w (fun e w' => e = .returned (.bool true) ∧ Below w.heap.size w w') := by
  obtain ⟨v0, v1, v2, v3, v4⟩ := v
  obtain ⟨p0, p1⟩ := p
  obtain ⟨q0, q1⟩ := q
  have hB : Below w.heap.size w ((w.alloc (.cells #[.int .i64 v0, .int .i8 v1, .int .i64 v2, B v3, .slice p0 v4.length p1] 58)).alloc (.cells #[.int .i64 v0, .int .i8 v1, .int .i64 v2, B v3, .slice q0 v4.length q1] 58)) := mid_alloc' (mid_alloc' (Below.refl _ _))
  have HS := Lib.hid (same_data p0 q0 p1 q1 v4.length v4.length v4 _ (hp.below hB) (hq.below hB) rfl rfl)
  have HB := Lib.hid hB
  clear hp hq hB
  unfold valEnt
  simp only
  go_enter Try.func40, Try.ntmps40
  go_wp2_with (go_at_call 49; ((with_reducible refine HS.out.mono ?_); rintro e w1 ⟨rfl, rfl⟩))
  go_ret
  exact ⟨rfl, HB.out⟩
/-- Rows of entries, each one's bytes. -/
structure RowEs (w : World) (a : Option Addr) (es : List RwE) : Prop where
  row : Row w a (es.flatMap cellsRw)
  each : ∀ y ∈ es, RowB w y.2.1 y.1.data
theorem RowEs.below {w w' : World} {a : Option Addr} {es : List RwE} (h : RowEs w a es) (hb : Below w.heap.size w w') : RowEs w' a es := ⟨h.row.below hb, fun y hy => (h.each y hy).below hb⟩
set_option maxHeartbeats 8000000 in
theorem same_entries (es fs : List RwE) (p q : Option Addr) (n c d : Nat) (w : World) (hm : es.map Prod.fst = fs.map Prod.fst) (hn : es.length = n) (he : RowEs w p es) (hf : RowEs w q fs) (hl : n ≤ 1000000) :
    Calls Try.prog 26 #[.slice p n c, .slice q n d] w (fun e w' => e = .returned (.bool true) ∧ Below w.heap.size w w') := by
  have hnf : fs.length = n := by rw [← hn, ← List.length_map Prod.fst, ← hm, List.length_map]
  have HN := Lib.hid (And.intro hn (And.intro hnf hm))
  have HE := Lib.hid he
  have HFS := Lib.hid hf
  clear hn hnf hm he hf
  go_enter Try.func26, Try.ntmps26
  go_wp2
  go_loopw [5] (fun i wr => ∃ k : Nat, k ≤ n ∧ i = .int .i64 k ∧ Hid (Below w.heap.size w wr)) (fun i _ => n - (intOf i).toNat)
  case atStart => exact ⟨0, by omega, rfl, Below.refl _ _⟩
  case round =>
    obtain ⟨k, hk, rfl, HB⟩ := hrel
    by_cases hlt : k < n
    · have h1 : k < es.length := by rw [HN.out.1]; exact hlt
      have h2 : k < fs.length := by rw [HN.out.2.1]; exact hlt
      have hfst : (es[k]'h1).1 = (fs[k]'h2).1 := by
        have h3 := congrArg (fun l => l[k]?) HN.out.2.2
        simp only [List.getElem?_map, List.getElem?_eq_getElem h1, List.getElem?_eq_getElem h2, Option.map_some, Option.some.injEq] at h3
        exact h3
      obtain ⟨b, o, rfl, hc⟩ := rowsAt (cells := cellsRw) (size := 5) (fun _ => rfl) (HE.out.row.below HB.out) h1 (by decide)
      obtain ⟨b2, o2, rfl, hc2⟩ := rowsAt (cells := cellsRw) (size := 5) (fun _ => rfl) (HFS.out.row.below HB.out) h2 (by decide)
      have he1 := (HE.out.each _ (List.getElem_mem h1)).below HB.out
      have he2 := (HFS.out.each _ (List.getElem_mem h2)).below HB.out
      generalize es[k]'h1 = x at hc he1 hfst
      generalize fs[k]'h2 = y at hc2 he2 hfst
      obtain ⟨⟨v0, v1, v2, v3, v4⟩, ⟨r0, r1⟩⟩ := x
      obtain ⟨z, ⟨s0, s1⟩⟩ := y
      simp only at hfst
      subst hfst
      have HSE := Lib.hid (fun W (hb : Below wr.heap.size wr W) => same_entry ⟨v0, v1, v2, v3, v4⟩ (r0, r1) (s0, s1) W (he1.below hb) (he2.below hb))
      unfold valEnt at HSE
      simp only at HSE
      clear h1 h2 he1 he2
      have a0 := hc 0 (by decide)
      rw [show (cellsRw ((⟨v0, v1, v2, v3, v4⟩, (r0, r1)) : RwE))[0]? = some (.int .i64 v0) from rfl] at a0
      have a1 := hc 1 (by decide)
      rw [show (cellsRw ((⟨v0, v1, v2, v3, v4⟩, (r0, r1)) : RwE))[1]? = some (.int .i8 v1) from rfl] at a1
      have a2 := hc 2 (by decide)
      rw [show (cellsRw ((⟨v0, v1, v2, v3, v4⟩, (r0, r1)) : RwE))[2]? = some (.int .i64 v2) from rfl] at a2
      have a3 := hc 3 (by decide)
      rw [show (cellsRw ((⟨v0, v1, v2, v3, v4⟩, (r0, r1)) : RwE))[3]? = some (B v3) from rfl] at a3
      have a4 := hc 4 (by decide)
      rw [show (cellsRw ((⟨v0, v1, v2, v3, v4⟩, (r0, r1)) : RwE))[4]? = some (.slice r0 v4.length r1) from rfl] at a4
      simp only [Nat.add_zero] at a0
      have c0 := hc2 0 (by decide)
      rw [show (cellsRw ((⟨v0, v1, v2, v3, v4⟩, (s0, s1)) : RwE))[0]? = some (.int .i64 v0) from rfl] at c0
      have c1 := hc2 1 (by decide)
      rw [show (cellsRw ((⟨v0, v1, v2, v3, v4⟩, (s0, s1)) : RwE))[1]? = some (.int .i8 v1) from rfl] at c1
      have c2 := hc2 2 (by decide)
      rw [show (cellsRw ((⟨v0, v1, v2, v3, v4⟩, (s0, s1)) : RwE))[2]? = some (.int .i64 v2) from rfl] at c2
      have c3 := hc2 3 (by decide)
      rw [show (cellsRw ((⟨v0, v1, v2, v3, v4⟩, (s0, s1)) : RwE))[3]? = some (B v3) from rfl] at c3
      have c4 := hc2 4 (by decide)
      rw [show (cellsRw ((⟨v0, v1, v2, v3, v4⟩, (s0, s1)) : RwE))[4]? = some (.slice s0 v4.length s1) from rfl] at c4
      simp only [Nat.add_zero] at c0
      clear hc hc2
      have hd : decide (k < n) = true := decide_eq_true hlt
      go_upto_region 6 with (fail)
      go_still_tail 8, (by kernel_rfl)
      have hbd : Below wr.heap.size wr wr.drew := (Below.refl _ _).drew
      have HBD := Lib.hid hbd
      clear hbd a0 a1 a2 a3 a4 c0 c1 c2 c3 c4
      go_wp2_with (go_at_call 40; ((with_reducible refine (HSE.out _ HBD.out).mono ?_); rintro e w2 ⟨rfl, hb⟩; have HB2 := Lib.hid (hb.mono HBD.out.size); clear hb))
      exact ⟨⟨k + 1, by omega, by go_num, (by show Below _ _ _; exact HB.out.trans ((HBD.out.trans HB2.out).mono HB.out.size))⟩, by simp [intOf]; omega⟩
    · obtain rfl : k = n := by omega
      have hd : decide (k < k) = false := decide_eq_false (by omega)
      go_wp2
      go_ret
      exact ⟨rfl, HB.out⟩
end Go.Proofs.Ytmihgdjnjfjjcaa
