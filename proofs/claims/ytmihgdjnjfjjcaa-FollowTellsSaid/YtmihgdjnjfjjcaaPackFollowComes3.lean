import Derived.Test.YtmihgdjnjfjjcaaRwCheck
import Derived.IntWalk
import Derived.Deep.CutRange
import Derived.Deep.CutBlock
import Derived.Test.YtmihgdjnjfjjcaaPackFollowComes2
import Derived.Test.YtmihgdjnjfjjcaaPackFollowComes1
set_option linter.unusedVariables false
set_option linter.unusedSimpArgs false
/- The last index and term of rows; the term at an index: the program and the document. (printed by gen_rwlast.py) -/
namespace Go.Proofs.Ytmihgdjnjfjjcaa
open Go.ChangeShapes Go.WideShapes Go.ChangeAt Go.RowKit
set_option maxRecDepth 100000

def RetLast (w : World) (b t : Int) (es : List WEnt) (e : Ending) (w' : World) : Prop := ∃ i : Int, e = .returned (.tuple #[.int .i64 i, .int .i64 (lastT t es)]) ∧ (0 ≤ b → b ≤ 1099511627776 → i = b + es.length) ∧ ∃ nd, w' = w.drewN nd
def RetII (w : World) (r : Int × Int) (e : Ending) (w' : World) : Prop := e = .returned (.tuple #[.int .i64 r.1, .int .i64 r.2]) ∧ Below w.heap.size w w'
def RetIB (w : World) (r : Int × Bool) (e : Ending) (w' : World) : Prop := e = .returned (.tuple #[.int .i64 r.1, .bool r.2]) ∧ Below w.heap.size w w'
def lastF (b t : Int) (es : List WEnt) : Int × Int := if okR b t es = true then (b + es.length, lastT t es) else (0, 0)
def termF (b t : Int) (es : List WEnt) (i : Int) : Int × Bool := if okR b t es = true ∧ hasR b es i = true then (termR b t es i, true) else (0, false)
theorem lastF_ok {b t : Int} {es : List WEnt} (h : okR b t es = true) : lastF b t es = (b + es.length, lastT t es) := if_pos h
theorem lastF_not {b t : Int} {es : List WEnt} (h : okR b t es = false) : lastF b t es = (0, 0) := if_neg (by rw [h]; exact Bool.false_ne_true)
theorem ok_bounds {b t : Int} {es : List WEnt} (h : okR b t es = true) : 0 ≤ b ∧ es.length ≤ 4096 ∧ b + es.length ≤ 1099511627776 ∧ 0 ≤ t := by
  obtain ⟨h1, -⟩ := okR_iff.1 h
  obtain ⟨h2, h3, h4, h5, -⟩ := headR_iff.1 h1
  exact ⟨h2, h3, by omega, h5⟩
theorem termF_not {b t : Int} {es : List WEnt} {i : Int} (h : okR b t es = false) : termF b t es i = (0, false) := if_neg (fun h1 => by rw [h] at h1; exact Bool.false_ne_true h1.1)
theorem termF_low {b t : Int} {es : List WEnt} {i : Int} (h : i < b) : termF b t es i = (0, false) := if_neg (fun h1 => by have := of_decide_eq_true h1.2; omega)
theorem termF_high {b t : Int} {es : List WEnt} {i : Int} (h : b + es.length < i) : termF b t es i = (0, false) := if_neg (fun h1 => by have := of_decide_eq_true h1.2; omega)
theorem termF_base {b t : Int} {es : List WEnt} {i : Int} (h : okR b t es = true) (hi : i = b) : termF b t es i = (t, true) := by
  subst hi
  unfold termF termR hasR
  rw [if_pos ⟨h, decide_eq_true (by omega)⟩, if_pos (by omega)]
  rw [Int.sub_self]; rfl
theorem termF_in {b t : Int} {es : List WEnt} {i : Int} {k : Nat} (h : okR b t es = true) (hi : i = b + k + 1) (hk : k < es.length) : termF b t es i = (es[k].term, true) := by
  subst hi
  unfold termF termR hasR
  rw [if_pos ⟨h, decide_eq_true (by omega)⟩, if_pos (by omega)]
  have e : (b + (k : Int) + 1 - b).toNat = k + 1 := by omega
  rw [e, terms_succ hk]
set_option maxHeartbeats 4000000 in
theorem last_any (es : List RwE) (b t : Int) (a : Option Addr) (n c g : Nat) (w : World) (hn : es.length = n) (hl : n ≤ 1000000) (hr : Row w a (es.flatMap cellsRw)) (hx : Box w g [.int .i64 b, .int .i64 t, .slice a n c]) :
    Calls Try.prog 42 #[.pointer (some ⟨g, 0, none⟩)] w (RetLast w b t (ents es)) := by
  have hlen : (ents es).length = n := by rw [← hn]; exact List.length_map _
  have k0 := hx.cell (j := 0) rfl
  have k1 := hx.cell (j := 1) rfl
  have k2 := hx.cell (j := 2) rfl
  clear hx
  by_cases h0 : n = 0
  · have HL := Lib.hid (lastT_nil (t := t) (es := ents es) (by omega))
    have HLN := Lib.hid hlen
    clear hlen hr hn
    subst h0
    go_enter Try.func42, Try.ntmps42
    go_wp2_with fail
    go_quiet (fail)
    go_wp2_with fail
    go_ret2
    exact ⟨b, by rw [HL.out]; rfl, fun _ _ => by rw [HLN.out]; omega, _, rfl⟩
  · have hke : n - 1 < es.length := by omega
    have hkl : (ents es).length - 1 < (ents es).length := by omega
    obtain ⟨bb, oo, ha, hE⟩ := entAt hr hke
    have j0 := hE.c0
    have HL : Hid (lastT t (ents es) = es[n - 1].1.term) := by
      show _ = _
      rw [lastT_get (by omega)]
      have e1 : (ents es)[(ents es).length - 1]'hkl = es[n - 1].1 := by
        have e2 : (ents es).length - 1 = n - 1 := by omega
        simp only [e2]; exact List.getElem_map _
      rw [e1]
    generalize es[n - 1].1.term = x at j0 HL
    subst ha
    have HLN := Lib.hid hlen
    clear hlen hr hn hE hkl hke
    have hn1 : 0 < n := by omega
    have g1 : IntKind.i64.wrap ((n : Int) - 1) = (n : Int) - 1 := IntWalk.i64_in _ (by omega)
    have g2 : (0 : Int) ≤ (n : Int) - 1 := by omega
    have g3 : (n : Int) - 1 < (n : Int) := by omega
    have g4 : ((n : Int) - 1).toNat = n - 1 := by omega
    have g5 : decide ((0 : Int) < (n : Int)) = true := decide_eq_true (by omega)
    have HW : Hid (0 ≤ b → b ≤ 1099511627776 → IntKind.i64.wrap (b + (n : Int)) = b + n) := fun h1 h2 => IntWalk.i64_in _ (by omega)
    obtain ⟨iw, hiw⟩ : ∃ i, IntKind.i64.wrap (b + (n : Int)) = i := ⟨_, rfl⟩
    rw [hiw] at HW
    clear h0 hl
    go_enter Try.func42, Try.ntmps42
    go_wp2_with fail
    go_quiet (fail)
    go_wp2_with fail
    go_ret2
    exact ⟨iw, by rw [HL.out]; rfl, fun h1 h2 => by rw [HLN.out]; exact HW.out h1 h2, _, rfl⟩
set_option maxHeartbeats 4000000 in
theorem lastV_any (es : List RwE) (b t : Int) (a : Option Addr) (n c : Nat) (w : World) (hn : es.length = n) (hl : n ≤ 1000000) (hr : Row w a (es.flatMap cellsRw)) :
    Calls Try.prog 29 #[.agg #[.int .i64 b, .int .i64 t, .slice a n c]] w (RetII w (lastF b t (ents es))) := by
  have hlen : (ents es).length = n := by rw [← hn]; exact List.length_map _
  have HB0 : Hid (Below w.heap.size w (w.alloc (.cells #[.int .i64 b, .int .i64 t, .slice a n c] 24))) := mid_alloc' (Below.refl _ _)
  have HX0 : Hid (Box (w.alloc (.cells #[.int .i64 b, .int .i64 t, .slice a n c] 24)) w.heap.size [.int .i64 b, .int .i64 t, .slice a n c]) := Box.of_alloc (w := w) (cs := [.int .i64 b, .int .i64 t, .slice a n c]) (t := 24) (Below.refl _ _)
  have HN := Lib.hid hn
  have HLN := Lib.hid hlen
  have HR := Lib.hid hr
  have HC := Lib.hid (fun w' (hb : Below w.heap.size w w') => check_any es b t a n c w' hn hl (hr.mono_below hb))
  rcases hok : okR b t (ents es) with _ | _
  · rw [chk_not hok] at HC
    rw [lastF_not hok]
    clear hok hlen hr hn
    go_enter Try.func29, Try.ntmps29
    go_wp2_with (go_at_call 28; ((with_reducible refine (HC.out _ HB0.out).mono ?_); rintro e w1 ⟨rfl, hb⟩; have HX1 := Lib.hid (HX0.out.next (by simp) hb); have HB1 := Lib.hid (HB0.out.trans (hb.mono HB0.out.size)); clear hb))
    go_ret2
    exact ⟨rfl, HB1.out⟩
  · have HOK := Lib.hid (ok_bounds hok)
    rw [chk_ok hok] at HC
    rw [lastF_ok hok]
    clear hok hlen
    have HL := Lib.hid (fun w' g (hb : Below w.heap.size w w') (hx : Box w' g [.int .i64 b, .int .i64 t, .slice a n c]) => last_any es b t a n c g w' hn hl (hr.mono_below hb) hx)
    clear hr hn
    go_enter Try.func29, Try.ntmps29
    go_wp2_with (first
      | (have hgq := HX1; clear hgq; go_at_call 42; ((with_reducible refine (HL.out _ _ HB1.out HX1.out).mono ?_); rintro e w2 ⟨i, rfl, hi, nd, rfl⟩; have HI := Lib.hid hi; clear hi))
      | (go_at_call 28; ((with_reducible refine (HC.out _ HB0.out).mono ?_); rintro e w1 ⟨rfl, hb⟩; have HX1 := Lib.hid (HX0.out.next (by simp) hb); have HB1 := Lib.hid (HB0.out.trans (hb.mono HB0.out.size)); clear hb)))
    go_ret2
    exact ⟨by rw [HI.out HOK.out.1 (by have := HOK.out; omega)]; rfl, below_drewN HB1.out nd⟩
set_option maxHeartbeats 4000000 in
theorem refLast_any (es : List RwE) (b t : Int) (a : Option Addr) (n c : Nat) (w : World) (hn : es.length = n) (hl : n ≤ 1000000) (hr : Row w a (es.flatMap cellsRw)) :
    Calls Try.prog 13 #[.agg #[.int .i64 b, .int .i64 t, .slice a n c]] w (RetII w (lastF b t (ents es))) := by
  have hlen : (ents es).length = n := by rw [← hn]; exact List.length_map _
  have HB0 : Hid (Below w.heap.size w (w.alloc (.cells #[.int .i64 b, .int .i64 t, .slice a n c] 24))) := mid_alloc' (Below.refl _ _)
  have HX0 : Hid (Box (w.alloc (.cells #[.int .i64 b, .int .i64 t, .slice a n c] 24)) w.heap.size [.int .i64 b, .int .i64 t, .slice a n c]) := Box.of_alloc (w := w) (cs := [.int .i64 b, .int .i64 t, .slice a n c]) (t := 24) (Below.refl _ _)
  have HN := Lib.hid hn
  have HLN := Lib.hid hlen
  have HR := Lib.hid hr
  have HC := Lib.hid (fun w' (hb : Below w.heap.size w w') => refcheck_any es b t a n c w' hn hl (hr.mono_below hb))
  rcases hok : okR b t (ents es) with _ | _
  · rw [chk_not hok] at HC
    rw [lastF_not hok]
    clear hok hlen hr hn
    go_enter Try.func13, Try.ntmps13
    go_wp2_with (go_at_call 12; ((with_reducible refine (HC.out _ HB0.out).mono ?_); rintro e w1 ⟨rfl, hb⟩; have HX1 := Lib.hid (HX0.out.next (by simp) hb); have HB1 := Lib.hid (HB0.out.trans (hb.mono HB0.out.size)); have k0 := HX1.out.cell (j := 0) rfl; have k1 := HX1.out.cell (j := 1) rfl; have k2 := HX1.out.cell (j := 2) rfl; clear hb))
    go_ret2
    exact ⟨rfl, HB1.out⟩
  · have HOK := Lib.hid (ok_bounds hok)
    rw [chk_ok hok] at HC
    rw [lastF_ok hok]
    clear hok hlen
    by_cases h0 : n = 0
    · have HL := Lib.hid (lastT_nil (t := t) (es := ents es) (by rw [HLN.out]; exact h0))
      have HOK2 := HOK
      clear HOK hr hn
      subst h0
      go_enter Try.func13, Try.ntmps13
      go_upto_region 5 with (go_at_call 12; ((with_reducible refine (HC.out _ HB0.out).mono ?_); rintro e w1 ⟨rfl, hb⟩; have HX1 := Lib.hid (HX0.out.next (by simp) hb); have HB1 := Lib.hid (HB0.out.trans (hb.mono HB0.out.size)); have k0 := HX1.out.cell (j := 0) rfl; have k1 := HX1.out.cell (j := 1) rfl; have k2 := HX1.out.cell (j := 2) rfl; clear hb))
      go_quiet (fail)
      go_wp2_with fail
      go_ret2
      exact ⟨by rw [HL.out, HLN.out]; simp, below_drewN HB1.out _⟩
    · have hke : n - 1 < es.length := by rw [HN.out]; omega
      have hkl : (ents es).length - 1 < (ents es).length := by rw [HLN.out]; omega
      have HE := Lib.hid (fun w' (hb : Below w.heap.size w w') => entAt (hr.mono_below hb) hke)
      have HL : Hid (lastT t (ents es) = es[n - 1].1.term) := by
        show _ = _
        rw [lastT_get (by rw [HLN.out]; omega)]
        have e1 : (ents es)[(ents es).length - 1]'hkl = es[n - 1].1 := by
          have e2 : (ents es).length - 1 = n - 1 := by rw [HLN.out]
          simp only [e2]; exact List.getElem_map _
        rw [e1]
      generalize es[n - 1] = x at HE HL
      obtain ⟨x, p⟩ := x
      have hn1 : 0 < n := by omega
      have g1 : IntKind.i64.wrap ((n : Int) - 1) = (n : Int) - 1 := IntWalk.i64_in _ (by omega)
      have g2 : (0 : Int) ≤ (n : Int) - 1 := by omega
      have g3 : (n : Int) - 1 < (n : Int) := by omega
      have g4 : ((n : Int) - 1).toNat = n - 1 := by omega
      have g5 : ((n : Int) == 0) = false := by simp; omega
      have g6 : IntKind.i64.wrap (b + (n : Int)) = b + n := IntWalk.i64_in _ (by have := HOK.out; rw [HLN.out] at this; omega)
      have HG := Lib.hid (And.intro g1 (And.intro g2 (And.intro g3 (And.intro g4 (And.intro g5 g6)))))
      have g5' := g5
      clear g1 g2 g3 g4 g5 g6 h0 hl hke hkl hr hn HOK
      go_enter Try.func13, Try.ntmps13
      go_upto_region 6 with (go_at_call 12; ((with_reducible refine (HC.out _ HB0.out).mono ?_); rintro e w1 ⟨rfl, hb⟩; have HX1 := Lib.hid (HX0.out.next (by simp) hb); have HB1 := Lib.hid (HB0.out.trans (hb.mono HB0.out.size)); have k0 := HX1.out.cell (j := 0) rfl; have k1 := HX1.out.cell (j := 1) rfl; have k2 := HX1.out.cell (j := 2) rfl; clear hb))
      have g6 := HG.out.2.2.2.2.2
      obtain ⟨g1, g2, g3, g4, g5, -⟩ := HG.out
      obtain ⟨bb, oo, ha, hE⟩ := HE.out _ HB1.out
      have j0 := hE.c0
      try simp only at j0 HL
      subst ha
      clear hE HE HX0 HX1 HG
      go_quiet (fail)
      go_wp2_with fail
      go_ret2
      exact ⟨by rw [HL.out, HLN.out]; rfl, below_drewN HB1.out _⟩
set_option maxHeartbeats 4000000 in
theorem term_any (es : List RwE) (b t : Int) (a : Option Addr) (n c : Nat) (w : World) (hn : es.length = n) (hl : n ≤ 1000000) (hr : Row w a (es.flatMap cellsRw)) (i : Int) (hi : InI i) :
    Calls Try.prog 32 #[.agg #[.int .i64 b, .int .i64 t, .slice a n c], .int .i64 i] w (RetIB w (termF b t (ents es) i)) := by
  have hlen : (ents es).length = n := by rw [← hn]; exact List.length_map _
  have HB0 : Hid (Below w.heap.size w (w.alloc (.cells #[.int .i64 b, .int .i64 t, .slice a n c] 24))) := mid_alloc' (Below.refl _ _)
  have HX0 : Hid (Box (w.alloc (.cells #[.int .i64 b, .int .i64 t, .slice a n c] 24)) w.heap.size [.int .i64 b, .int .i64 t, .slice a n c]) := Box.of_alloc (w := w) (cs := [.int .i64 b, .int .i64 t, .slice a n c]) (t := 24) (Below.refl _ _)
  have HN := Lib.hid hn
  have HLN := Lib.hid hlen
  have HR := Lib.hid hr
  unfold InI at hi
  have HC := Lib.hid (fun w' (hb : Below w.heap.size w w') => check_any es b t a n c w' hn hl (hr.mono_below hb))
  have HL := Lib.hid (fun w' g (hb : Below w.heap.size w w') (hx : Box w' g [.int .i64 b, .int .i64 t, .slice a n c]) => last_any es b t a n c g w' hn hl (hr.mono_below hb) hx)
  have HRB := Lib.hid (fun w' (hb : Below w.heap.size w w') => hr.mono_below hb)
  rcases hok : okR b t (ents es) with _ | _
  · rw [chk_not hok] at HC
    rw [termF_not hok]
    skip
    clear hok hlen hr hn
    go_enter Try.func32, Try.ntmps32
    go_wp2_with (first
      | (have hgq := HX1; clear hgq; go_at_call 28; ((with_reducible refine (HC.out _ HB1.out).mono ?_); rintro e w2 ⟨rfl, hb⟩; have HX2 := Lib.hid (HX1.out.next (by simp) hb); have HB2 := Lib.hid (HB1.out.trans (hb.mono HB1.out.size)); clear hb; have k0 := HX2.out.cell (j := 0) rfl; have k1 := HX2.out.cell (j := 1) rfl; have k2 := HX2.out.cell (j := 2) rfl))
      | (go_at_call 42; ((with_reducible refine (HL.out _ _ HB0.out HX0.out).mono ?_); rintro e w1 ⟨iv, rfl, hiv, nd, rfl⟩; clear hiv; have HX1 := Lib.hid (HX0.out.below (below_drewN (Below.refl _ _) nd) (HX0.out.lt (by simp))); have HB1 := Lib.hid (below_drewN HB0.out nd); have k0 := HX1.out.cell (j := 0) rfl; have k1 := HX1.out.cell (j := 1) rfl; have k2 := HX1.out.cell (j := 2) rfl)))
    go_ret2
    exact ⟨rfl, HB2.out⟩
  · have HOK := Lib.hid (ok_bounds hok)
    have hbd : 0 ≤ b ∧ b + (n : Int) ≤ 1099511627776 := ⟨HOK.out.1, by have := HOK.out.2.2.1; rw [hlen] at this; exact this⟩
    obtain ⟨hb1, hb2⟩ := hbd
    rw [chk_ok hok] at HC
    have HIV : Hid (∀ iv : Int, (0 ≤ b → b ≤ 1099511627776 → iv = b + ((ents es).length : Int)) → iv = b + (n : Int)) := fun iv h => by rw [h hb1 (by omega), hlen]
    have HT1 := Lib.hid (fun h => termF_low (t := t) (es := ents es) (i := i) (b := b) h)
    have HT2 := Lib.hid (fun (h : b + (n : Int) < i) => termF_high (t := t) (es := ents es) (i := i) (b := b) (by rw [hlen]; exact h))
    have HT3 := Lib.hid (fun h => termF_base (i := i) hok h)
    have HT4 := Lib.hid (fun k (h1 : i = b + (k : Nat) + 1) (h2 : k < (ents es).length) => termF_in hok h1 h2)
    clear hok hlen hr hn
    generalize termF b t (ents es) i = r at HT1 HT2 HT3 HT4 ⊢
    rcases d1 : decide (i < b) with _ | _
    rotate_left
    · obtain rfl := HT1.out (of_decide_eq_true d1)
      go_enter Try.func32, Try.ntmps32
      go_wp2_with (first
        | (have hgq := HX1; clear hgq; go_at_call 28; ((with_reducible refine (HC.out _ HB1.out).mono ?_); rintro e w2 ⟨rfl, hb⟩; have HX2 := Lib.hid (HX1.out.next (by simp) hb); have HB2 := Lib.hid (HB1.out.trans (hb.mono HB1.out.size)); clear hb; have k0 := HX2.out.cell (j := 0) rfl; have k1 := HX2.out.cell (j := 1) rfl; have k2 := HX2.out.cell (j := 2) rfl))
        | (go_at_call 42; ((with_reducible refine (HL.out _ _ HB0.out HX0.out).mono ?_); rintro e w1 ⟨iv, rfl, hiv, nd, rfl⟩; obtain rfl := HIV.out iv hiv; clear hiv; have HX1 := Lib.hid (HX0.out.below (below_drewN (Below.refl _ _) nd) (HX0.out.lt (by simp))); have HB1 := Lib.hid (below_drewN HB0.out nd); have k0 := HX1.out.cell (j := 0) rfl; have k1 := HX1.out.cell (j := 1) rfl; have k2 := HX1.out.cell (j := 2) rfl)))
      go_ret2
      exact ⟨rfl, HB2.out⟩
    rcases d2 : decide (b + (n : Int) < i) with _ | _
    rotate_left
    · obtain rfl := HT2.out (of_decide_eq_true d2)
      go_enter Try.func32, Try.ntmps32
      go_wp2_with (first
        | (have hgq := HX1; clear hgq; go_at_call 28; ((with_reducible refine (HC.out _ HB1.out).mono ?_); rintro e w2 ⟨rfl, hb⟩; have HX2 := Lib.hid (HX1.out.next (by simp) hb); have HB2 := Lib.hid (HB1.out.trans (hb.mono HB1.out.size)); clear hb; have k0 := HX2.out.cell (j := 0) rfl; have k1 := HX2.out.cell (j := 1) rfl; have k2 := HX2.out.cell (j := 2) rfl))
        | (go_at_call 42; ((with_reducible refine (HL.out _ _ HB0.out HX0.out).mono ?_); rintro e w1 ⟨iv, rfl, hiv, nd, rfl⟩; obtain rfl := HIV.out iv hiv; clear hiv; have HX1 := Lib.hid (HX0.out.below (below_drewN (Below.refl _ _) nd) (HX0.out.lt (by simp))); have HB1 := Lib.hid (below_drewN HB0.out nd); have k0 := HX1.out.cell (j := 0) rfl; have k1 := HX1.out.cell (j := 1) rfl; have k2 := HX1.out.cell (j := 2) rfl)))
      go_ret2
      exact ⟨rfl, HB2.out⟩
    have h1 : b ≤ i := by have := of_decide_eq_false d1; omega
    have h2 : i ≤ b + (n : Int) := by have := of_decide_eq_false d2; omega
    rcases d3 : (i == b) with _ | _
    rotate_left
    · obtain rfl := HT3.out (by simpa using d3)
      go_enter Try.func32, Try.ntmps32
      go_wp2_with (first
        | (have hgq := HX1; clear hgq; go_at_call 28; ((with_reducible refine (HC.out _ HB1.out).mono ?_); rintro e w2 ⟨rfl, hb⟩; have HX2 := Lib.hid (HX1.out.next (by simp) hb); have HB2 := Lib.hid (HB1.out.trans (hb.mono HB1.out.size)); clear hb; have k0 := HX2.out.cell (j := 0) rfl; have k1 := HX2.out.cell (j := 1) rfl; have k2 := HX2.out.cell (j := 2) rfl))
        | (go_at_call 42; ((with_reducible refine (HL.out _ _ HB0.out HX0.out).mono ?_); rintro e w1 ⟨iv, rfl, hiv, nd, rfl⟩; obtain rfl := HIV.out iv hiv; clear hiv; have HX1 := Lib.hid (HX0.out.below (below_drewN (Below.refl _ _) nd) (HX0.out.lt (by simp))); have HB1 := Lib.hid (below_drewN HB0.out nd); have k0 := HX1.out.cell (j := 0) rfl; have k1 := HX1.out.cell (j := 1) rfl; have k2 := HX1.out.cell (j := 2) rfl)))
      go_ret2
      exact ⟨rfl, HB2.out⟩
    have h3 : b < i := by have : ¬ i = b := by simpa using d3
                          omega
    have g2 : (0 : Int) ≤ i - b - 1 := by omega
    have g3 : i - b - 1 < (n : Int) := by omega
    obtain ⟨k, g4⟩ : ∃ k, (i - b - 1).toNat = k := ⟨_, rfl⟩
    have hke : k < es.length := by rw [HN.out]; omega
    have hT4 := HT4.out k (by omega) (by rw [HLN.out]; omega)
    have hxe : (ents es)[k]'(by rw [HLN.out]; omega) = es[k].1 := List.getElem_map _
    rw [hxe] at hT4
    obtain ⟨bb, oo, ha, hE⟩ := entAt HR.out hke
    subst ha
    have HJ := Lib.hid (fun w' (hb : Below w.heap.size w w') => cell_next hb hE.c0)
    generalize es[k] = x at HJ hT4 hE
    obtain ⟨x, p⟩ := x
    obtain rfl := hT4
    simp only at HJ
    clear HT1 HT2 HT3 HT4 hke hxe hE
    go_enter Try.func32, Try.ntmps32
    go_wp2_with (first
      | (have hgq := HX1; clear hgq; go_at_call 28; ((with_reducible refine (HC.out _ HB1.out).mono ?_); rintro e w2 ⟨rfl, hb⟩; have HX2 := Lib.hid (HX1.out.next (by simp) hb); have HB2 := Lib.hid (HB1.out.trans (hb.mono HB1.out.size)); clear hb; have k0 := HX2.out.cell (j := 0) rfl; have k1 := HX2.out.cell (j := 1) rfl; have k2 := HX2.out.cell (j := 2) rfl; have j0 := HJ.out _ HB2.out))
      | (go_at_call 42; ((with_reducible refine (HL.out _ _ HB0.out HX0.out).mono ?_); rintro e w1 ⟨iv, rfl, hiv, nd, rfl⟩; obtain rfl := HIV.out iv hiv; clear hiv; have HX1 := Lib.hid (HX0.out.below (below_drewN (Below.refl _ _) nd) (HX0.out.lt (by simp))); have HB1 := Lib.hid (below_drewN HB0.out nd); have k0 := HX1.out.cell (j := 0) rfl; have k1 := HX1.out.cell (j := 1) rfl; have k2 := HX1.out.cell (j := 2) rfl)))
    go_ret2
    exact ⟨rfl, HB2.out⟩
set_option maxHeartbeats 4000000 in
theorem refTerm_any (es : List RwE) (b t : Int) (a : Option Addr) (n c : Nat) (w : World) (hn : es.length = n) (hl : n ≤ 1000000) (hr : Row w a (es.flatMap cellsRw)) (i : Int) (hi : InI i) :
    Calls Try.prog 14 #[.agg #[.int .i64 b, .int .i64 t, .slice a n c], .int .i64 i] w (RetIB w (termF b t (ents es) i)) := by
  have hlen : (ents es).length = n := by rw [← hn]; exact List.length_map _
  have HB0 : Hid (Below w.heap.size w (w.alloc (.cells #[.int .i64 b, .int .i64 t, .slice a n c] 24))) := mid_alloc' (Below.refl _ _)
  have HX0 : Hid (Box (w.alloc (.cells #[.int .i64 b, .int .i64 t, .slice a n c] 24)) w.heap.size [.int .i64 b, .int .i64 t, .slice a n c]) := Box.of_alloc (w := w) (cs := [.int .i64 b, .int .i64 t, .slice a n c]) (t := 24) (Below.refl _ _)
  have HN := Lib.hid hn
  have HLN := Lib.hid hlen
  have HR := Lib.hid hr
  unfold InI at hi
  have HC := Lib.hid (fun w' (hb : Below w.heap.size w w') => refcheck_any es b t a n c w' hn hl (hr.mono_below hb))
  have HL := Lib.hid (fun w' (hb : Below w.heap.size w w') => refLast_any es b t a n c w' hn hl (hr.mono_below hb))
  have HRB := Lib.hid (fun w' (hb : Below w.heap.size w w') => hr.mono_below hb)
  rcases hok : okR b t (ents es) with _ | _
  · rw [chk_not hok] at HC
    rw [termF_not hok]
    rw [lastF_not hok] at HL
    clear hok hlen hr hn
    go_enter Try.func14, Try.ntmps14
    go_wp2_with (first
      | (have hgq := HX1; clear hgq; go_at_call 12; ((with_reducible refine (HC.out _ HB1.out).mono ?_); rintro e w2 ⟨rfl, hb⟩; have HX2 := Lib.hid (HX1.out.next (by simp) hb); have HB2 := Lib.hid (HB1.out.trans (hb.mono HB1.out.size)); clear hb; have k0 := HX2.out.cell (j := 0) rfl; have k1 := HX2.out.cell (j := 1) rfl; have k2 := HX2.out.cell (j := 2) rfl))
      | (go_at_call 13; ((with_reducible refine (HL.out _ HB0.out).mono ?_); rintro e w1 ⟨rfl, hb⟩; have HX1 := Lib.hid (HX0.out.next (by simp) hb); have HB1 := Lib.hid (HB0.out.trans (hb.mono HB0.out.size)); clear hb; have k0 := HX1.out.cell (j := 0) rfl; have k1 := HX1.out.cell (j := 1) rfl; have k2 := HX1.out.cell (j := 2) rfl)))
    go_ret2
    exact ⟨rfl, HB2.out⟩
  · have HOK := Lib.hid (ok_bounds hok)
    have hbd : 0 ≤ b ∧ b + (n : Int) ≤ 1099511627776 := ⟨HOK.out.1, by have := HOK.out.2.2.1; rw [hlen] at this; exact this⟩
    obtain ⟨hb1, hb2⟩ := hbd
    rw [chk_ok hok] at HC
    rw [lastF_ok hok, hlen] at HL
    have HT1 := Lib.hid (fun h => termF_low (t := t) (es := ents es) (i := i) (b := b) h)
    have HT2 := Lib.hid (fun (h : b + (n : Int) < i) => termF_high (t := t) (es := ents es) (i := i) (b := b) (by rw [hlen]; exact h))
    have HT3 := Lib.hid (fun h => termF_base (i := i) hok h)
    have HT4 := Lib.hid (fun k (h1 : i = b + (k : Nat) + 1) (h2 : k < (ents es).length) => termF_in hok h1 h2)
    clear hok hlen hr hn
    generalize termF b t (ents es) i = r at HT1 HT2 HT3 HT4 ⊢
    rcases d1 : decide (i < b) with _ | _
    rotate_left
    · obtain rfl := HT1.out (of_decide_eq_true d1)
      go_enter Try.func14, Try.ntmps14
      go_wp2_with (first
        | (have hgq := HX1; clear hgq; go_at_call 12; ((with_reducible refine (HC.out _ HB1.out).mono ?_); rintro e w2 ⟨rfl, hb⟩; have HX2 := Lib.hid (HX1.out.next (by simp) hb); have HB2 := Lib.hid (HB1.out.trans (hb.mono HB1.out.size)); clear hb; have k0 := HX2.out.cell (j := 0) rfl; have k1 := HX2.out.cell (j := 1) rfl; have k2 := HX2.out.cell (j := 2) rfl))
        | (go_at_call 13; ((with_reducible refine (HL.out _ HB0.out).mono ?_); rintro e w1 ⟨rfl, hb⟩; have HX1 := Lib.hid (HX0.out.next (by simp) hb); have HB1 := Lib.hid (HB0.out.trans (hb.mono HB0.out.size)); clear hb; have k0 := HX1.out.cell (j := 0) rfl; have k1 := HX1.out.cell (j := 1) rfl; have k2 := HX1.out.cell (j := 2) rfl)))
      go_ret2
      exact ⟨rfl, HB2.out⟩
    rcases d2 : decide (b + (n : Int) < i) with _ | _
    rotate_left
    · obtain rfl := HT2.out (of_decide_eq_true d2)
      go_enter Try.func14, Try.ntmps14
      go_wp2_with (first
        | (have hgq := HX1; clear hgq; go_at_call 12; ((with_reducible refine (HC.out _ HB1.out).mono ?_); rintro e w2 ⟨rfl, hb⟩; have HX2 := Lib.hid (HX1.out.next (by simp) hb); have HB2 := Lib.hid (HB1.out.trans (hb.mono HB1.out.size)); clear hb; have k0 := HX2.out.cell (j := 0) rfl; have k1 := HX2.out.cell (j := 1) rfl; have k2 := HX2.out.cell (j := 2) rfl))
        | (go_at_call 13; ((with_reducible refine (HL.out _ HB0.out).mono ?_); rintro e w1 ⟨rfl, hb⟩; have HX1 := Lib.hid (HX0.out.next (by simp) hb); have HB1 := Lib.hid (HB0.out.trans (hb.mono HB0.out.size)); clear hb; have k0 := HX1.out.cell (j := 0) rfl; have k1 := HX1.out.cell (j := 1) rfl; have k2 := HX1.out.cell (j := 2) rfl)))
      go_ret2
      exact ⟨rfl, HB2.out⟩
    have h1 : b ≤ i := by have := of_decide_eq_false d1; omega
    have h2 : i ≤ b + (n : Int) := by have := of_decide_eq_false d2; omega
    rcases d3 : (i == b) with _ | _
    rotate_left
    · obtain rfl := HT3.out (by simpa using d3)
      go_enter Try.func14, Try.ntmps14
      go_wp2_with (first
        | (have hgq := HX1; clear hgq; go_at_call 12; ((with_reducible refine (HC.out _ HB1.out).mono ?_); rintro e w2 ⟨rfl, hb⟩; have HX2 := Lib.hid (HX1.out.next (by simp) hb); have HB2 := Lib.hid (HB1.out.trans (hb.mono HB1.out.size)); clear hb; have k0 := HX2.out.cell (j := 0) rfl; have k1 := HX2.out.cell (j := 1) rfl; have k2 := HX2.out.cell (j := 2) rfl))
        | (go_at_call 13; ((with_reducible refine (HL.out _ HB0.out).mono ?_); rintro e w1 ⟨rfl, hb⟩; have HX1 := Lib.hid (HX0.out.next (by simp) hb); have HB1 := Lib.hid (HB0.out.trans (hb.mono HB0.out.size)); clear hb; have k0 := HX1.out.cell (j := 0) rfl; have k1 := HX1.out.cell (j := 1) rfl; have k2 := HX1.out.cell (j := 2) rfl)))
      go_ret2
      exact ⟨rfl, HB2.out⟩
    have h3 : b < i := by have : ¬ i = b := by simpa using d3
                          omega
    have g2 : (0 : Int) ≤ i - b - 1 := by omega
    have g3 : i - b - 1 < (n : Int) := by omega
    obtain ⟨k, g4⟩ : ∃ k, (i - b - 1).toNat = k := ⟨_, rfl⟩
    have hke : k < es.length := by rw [HN.out]; omega
    have hT4 := HT4.out k (by omega) (by rw [HLN.out]; omega)
    have hxe : (ents es)[k]'(by rw [HLN.out]; omega) = es[k].1 := List.getElem_map _
    rw [hxe] at hT4
    obtain ⟨bb, oo, ha, hE⟩ := entAt HR.out hke
    subst ha
    have HJ := Lib.hid (fun w' (hb : Below w.heap.size w w') => cell_next hb hE.c0)
    generalize es[k] = x at HJ hT4 hE
    obtain ⟨x, p⟩ := x
    obtain rfl := hT4
    simp only at HJ
    clear HT1 HT2 HT3 HT4 hke hxe hE
    go_enter Try.func14, Try.ntmps14
    go_wp2_with (first
      | (have hgq := HX1; clear hgq; go_at_call 12; ((with_reducible refine (HC.out _ HB1.out).mono ?_); rintro e w2 ⟨rfl, hb⟩; have HX2 := Lib.hid (HX1.out.next (by simp) hb); have HB2 := Lib.hid (HB1.out.trans (hb.mono HB1.out.size)); clear hb; have k0 := HX2.out.cell (j := 0) rfl; have k1 := HX2.out.cell (j := 1) rfl; have k2 := HX2.out.cell (j := 2) rfl; have j0 := HJ.out _ HB2.out))
      | (go_at_call 13; ((with_reducible refine (HL.out _ HB0.out).mono ?_); rintro e w1 ⟨rfl, hb⟩; have HX1 := Lib.hid (HX0.out.next (by simp) hb); have HB1 := Lib.hid (HB0.out.trans (hb.mono HB0.out.size)); clear hb; have k0 := HX1.out.cell (j := 0) rfl; have k1 := HX1.out.cell (j := 1) rfl; have k2 := HX1.out.cell (j := 2) rfl)))
    go_ret2
    exact ⟨rfl, HB2.out⟩
end Go.Proofs.Ytmihgdjnjfjjcaa

/- Is a node in a set (follow.has, weirref11.bit). -/
namespace Go.Proofs.Ytmihgdjnjfjjcaa
open Go.ChangeShapes Go.WideShapes Go.ChangeAt Go.RowKit
set_option maxRecDepth 100000

theorem bit_and : ∀ (n : Fin 256) (d : Fin 7), (bits .and .u8 ((n.val : Int) / ((2 ^ d.val : Nat) : Int)) 1 == 1) = decide (n.val / 2 ^ d.val % 2 = 1) := by decide +kernel
theorem inSet_at (s : UInt8) (k : Nat) (h1 : 1 ≤ k) (h2 : k ≤ 7) : inSet s.toNat k = (bits .and .u8 ((s.toNat : Int) / ((2 ^ (k - 1) : Nat) : Int)) 1 == 1) := by
  rw [bit_and ⟨s.toNat, s.toNat_lt⟩ ⟨k - 1, by omega⟩]
  unfold inSet
  rw [decide_eq_decide]
  exact ⟨fun h => h.2.2, fun h => ⟨h1, h2, h⟩⟩
def RetB0 (w : World) (r : Bool) (e : Ending) (w' : World) : Prop := e = .returned (.bool r) ∧ w' = w
theorem has_any (s : UInt8) (k : Nat) (w : World) (h1 : 1 ≤ k) (h2 : k ≤ 7) : Calls Try.prog 30 #[B s, .int .i64 k] w (RetB0 w (inSet s.toNat k)) := by
  have HI := Lib.hid (inSet_at s k h1 h2)
  generalize inSet s.toNat k = r at HI ⊢
  obtain rfl | rfl | rfl | rfl | rfl | rfl | rfl : k = 1 ∨ k = 2 ∨ k = 3 ∨ k = 4 ∨ k = 5 ∨ k = 6 ∨ k = 7 := by omega
  all_goals
    go_enter Try.func30, Try.ntmps30
    go_wp2_with fail
    go_ret
    exact ⟨congrArg (fun b => Ending.returned (.bool b)) (by first | exact HI.out.symm | (rw [HI.out]; simp)), rfl⟩
theorem bit_any (s : UInt8) (k : Nat) (w : World) (h1 : 1 ≤ k) (h2 : k ≤ 7) : Calls Try.prog 33 #[B s, .int .i64 k] w (RetB0 w (inSet s.toNat k)) := by
  have HI := Lib.hid (inSet_at s k h1 h2)
  generalize inSet s.toNat k = r at HI ⊢
  obtain rfl | rfl | rfl | rfl | rfl | rfl | rfl : k = 1 ∨ k = 2 ∨ k = 3 ∨ k = 4 ∨ k = 5 ∨ k = 6 ∨ k = 7 := by omega
  all_goals
    go_enter Try.func33, Try.ntmps33
    go_wp2_with fail
    go_ret
    exact ⟨congrArg (fun b => Ending.returned (.bool b)) (by first | exact HI.out.symm | (rw [HI.out]; simp)), rfl⟩
end Go.Proofs.Ytmihgdjnjfjjcaa

/- Numbers compared, from the greatest on (cmp.Compare, follow.down's closure); bits.Len of small numbers. -/
namespace Go.Proofs.Ytmihgdjnjfjjcaa
open Go.ChangeShapes Go.WideShapes Go.ChangeAt Go.RowKit
set_option maxRecDepth 100000

def cmpI (x y : Int) : Int := if x < y then -1 else if y < x then 1 else 0
theorem cmpI_neg (x y : Int) : decide (cmpI x y < 0) = decide (x < y) := by
  unfold cmpI
  by_cases h : x < y
  · simp [h]
  · rw [if_neg h]; split <;> simp [h]
theorem nan_any (x : Int) (w : World) : Calls Try.prog 52 #[.int .i64 x] w (RetB0 w false) := by
  go_enter Try.func52, Try.ntmps52
  go_wp2_with fail
  go_ret
  exact ⟨by simp, rfl⟩
def RetN0 (w : World) (r : Int) (e : Ending) (w' : World) : Prop := e = .returned (.int .i64 r) ∧ w' = w
theorem compare_any (x y : Int) (w : World) : Calls Try.prog 45 #[.int .i64 x, .int .i64 y] w (RetN0 w (cmpI x y)) := by
  have HE : Hid (∀ r : Int, (x < y → r = -1) → (y < x → r = 1) → (¬ x < y → ¬ y < x → r = 0) → cmpI x y = r) := fun r h1 h2 h3 => by
    unfold cmpI
    by_cases a : x < y
    · rw [if_pos a, h1 a]
    · rw [if_neg a]
      by_cases b : y < x
      · rw [if_pos b, h2 b]
      · rw [if_neg b, h3 a b]
  generalize cmpI x y = r at HE ⊢
  go_enter Try.func45, Try.ntmps45
  go_wp2_with (go_at_call 52; ((with_reducible refine (nan_any _ _).mono ?_); rintro e w' ⟨rfl, rfl⟩))
  all_goals (go_ret; exact ⟨ret_int (HE.out _ (fun _ => by first | rfl | (exfalso; omega)) (fun _ => by first | rfl | (exfalso; omega)) (fun _ _ => by first | rfl | (exfalso; omega))).symm, rfl⟩)
theorem enter_down (args : Array Value) (w : World) : (callFunc 44 args).run Try.prog w = .ok (.enter 44 args) w := by kernel_rfl
theorem downc_any (x y : Int) (w : World) : Calls Try.prog 44 #[.int .i64 x, .int .i64 y] w (RetN0 w (cmpI y x)) := by
  have HC := Lib.hid (fun w' => compare_any y x w')
  generalize cmpI y x = r at HC ⊢
  go_enter Try.func44, Try.ntmps44
  go_wp2_with (go_at_call 45; ((with_reducible refine (HC.out _).mono ?_); rintro e w' ⟨rfl, rfl⟩))
  go_ret
  exact ⟨rfl, rfl⟩
end Go.Proofs.Ytmihgdjnjfjjcaa

/- A node's progress looked up (follow.Find, weirref11.Find). -/
namespace Go.Proofs.Ytmihgdjnjfjjcaa
open Go.ChangeShapes Go.WideShapes Go.ChangeAt Go.RowKit
set_option maxRecDepth 100000

def prgOf (l : List Prg) (k : Int) : Prg := match l.find? (fun p => decide (p.node = k)) with | some p => p | none => ⟨0, 0, 0⟩
def hasP (l : List Prg) (k : Int) : Bool := (l.find? (fun p => decide (p.node = k))).isSome
theorem prgOf_mat (l : List Prg) (k : Int) : (prgOf l k).mat = matOf l k := by
  induction l with
  | nil => rfl
  | cons p l ih =>
    unfold prgOf at *
    rw [List.find?_cons]
    show _ = if p.node = k then p.mat else matOf l k
    by_cases h : p.node = k
    · simp [h]
    · simp only [h, decide_false, if_false]; exact ih
def RetFind (w : World) (p : Prg) (b : Bool) (e : Ending) (w' : World) : Prop := e = .returned (.tuple #[p.agg, .bool b]) ∧ Below w.heap.size w w'
theorem of_any (k : Int) (w : World) : Calls Try.prog 36 #[.int .i64 k] w fun e w' => e = .returned (.func (.func 46) #[] #[.pointer (some ⟨w.heap.size, 0, none⟩)]) ∧ w' = w.alloc (.cells #[.int .i64 k] 3) := by
  go_enter Try.func36, Try.ntmps36
  go_wp2_with fail
  go_ret
  exact ⟨rfl, rfl⟩
theorem enter_ofc (args : Array Value) (w : World) : (callFunc 46 args).run Try.prog w = .ok (.enter 46 args) w := by kernel_rfl
theorem ofc_any (p : Prg) (g : Nat) (k : Int) (w : World) (hg : w.cell? ⟨g, 0, none⟩ = some (.int .i64 k)) : Calls Try.prog 46 #[p.agg, .pointer (some ⟨g, 0, none⟩)] w (RetSame w (decide (p.node = k))) := by
  obtain ⟨p0, p1, p2⟩ := p
  have hlt := World.block_lt_of_cell? w _ hg
  simp only at hlt
  go_enter Try.func46, Try.ntmps46
  go_wp2_with fail
  go_ret
  refine ⟨congrArg (fun b => Ending.returned (.bool b)) ?_, mid_alloc' (Below.refl _ _)⟩
  show (p0 == k) = decide (p0 = k)
  rw [Bool.eq_iff_iff]; simp
set_option maxHeartbeats 4000000 in
theorem find_any (l : List Prg) (a : Option Addr) (n c : Nat) (k : Int) (w : World) (hn : l.length = n) (hl : n ≤ 1000000) (hr : LRow layPrg w a l) :
    Calls Try.prog 17 #[.slice a n c, .int .i64 k] w (RetFind w (prgOf l k) (hasP l k)) := by
  have HR := Lib.hid (fun w' (hb : Below w.heap.size w w') => LRow.below hr hb)
  have HO := Lib.hid (fun w' => of_any k w')
  have HX := Lib.hid (fun g w' (hb : Below w.heap.size w w') (hg : w'.cell? ⟨g, 0, none⟩ = some (.int .i64 k)) => indexFuncPrg l a n c 46 #[.pointer (some ⟨g, 0, none⟩)] (fun p => decide (p.node = k)) w' hn (by unfold maxLen; omega) (LRow.below hr hb) enter_ofc (fun x _ w'' hb2 => (ofc_any x g k w'' (cell_next hb2 hg)).mono fun _ _ h => h))
  have HFD := Lib.hid (idxL_find (fun p : Prg => decide (p.node = k)) l)
  obtain ⟨r, hrr⟩ : ∃ r, prgOf l k = r := ⟨_, rfl⟩
  obtain ⟨hb, hhb⟩ : ∃ r, hasP l k = r := ⟨_, rfl⟩
  rw [hrr, hhb]
  obtain ⟨q, hq⟩ : ∃ q, idxL (fun p : Prg => decide (p.node = k)) l = q := ⟨_, rfl⟩
  rw [hq] at HX HFD
  have HZ : Hid (Below w.heap.size w (w.alloc (.cells #[.int .i64 0, .int .i64 0, .int .i64 0] 39))) := mid_alloc' (Below.refl _ _)
  rcases HFD.out with ⟨h1, h2⟩ | ⟨j, hj, h1, h2⟩
  · have er : r = ⟨0, 0, 0⟩ := by rw [← hrr]; unfold prgOf; rw [h2]
    have eb : hb = false := by rw [← hhb]; unfold hasP; rw [h2]; rfl
    clear hrr hhb hq h2 hr hn HFD
    subst er eb h1
    go_enter Try.func17, Try.ntmps17
    go_wp2_with (first
      | (have hgq := HOC; clear hgq; go_at_call 35; ((with_reducible refine (HX.out _ _ HB1.out HOC.out).mono ?_); rintro e w2 ⟨rfl, hb2⟩; have HB2 := Lib.hid (HB1.out.trans (hb2.mono HB1.out.size)); have hbx := Box.of_alloc (w := w) (cs := [.int .i64 0, .int .i64 0, .int .i64 0]) (t := 39) (HBX.out.trans (hb2.mono HBX.out.size)); have z0 := hbx.cell (j := 0) rfl; have z1 := hbx.cell (j := 1) rfl; have z2 := hbx.cell (j := 2) rfl; have y0 := hbx.froz (j := 0) (by simp); have y1 := hbx.froz (j := 1) (by simp); have y2 := hbx.froz (j := 2) (by simp); clear hbx hb2))
      | (go_at_call 36; ((with_reducible refine (HO.out _).mono ?_); rintro e w1 ⟨rfl, hw⟩; have hbz : Below (w.alloc (.cells #[.int .i64 0, .int .i64 0, .int .i64 0] 39)).heap.size (w.alloc (.cells #[.int .i64 0, .int .i64 0, .int .i64 0] 39)) w1 := by { rw [hw]; exact (Below.refl _ _).alloc (Nat.le_refl _) _ }; have HOC : Hid (w1.cell? ⟨w.heap.size + 1, 0, none⟩ = some (.int .i64 k)) := by { show _ = _; rw [hw]; simp }; have HBX := Lib.hid hbz; have HB1 := Lib.hid (HZ.out.trans (hbz.mono HZ.out.size)); clear hw hbz)))
    refine bodyPost_ret (v := .tuple #[.agg #[.int .i64 0, .int .i64 0, .int .i64 0], .bool false]) (by simp [results, Try.results17, go_sem, z0, z1, z2, y0, y1, y2]) rfl ⟨rfl, ((HB2.out.setCell (Nat.le_refl _) _).setCell (Nat.le_refl _) _).setCell (Nat.le_refl _) _⟩
  · have er : r = l[j] := by rw [← hrr]; unfold prgOf; rw [h2]
    have eb : hb = true := by rw [← hhb]; unfold hasP; rw [h2]; rfl
    obtain ⟨bb, oo, ha, hcs⟩ := atPrg hr hj
    subst ha
    have HJ := Lib.hid hcs
    have hjn : j < n := by omega
    clear hrr hhb hq h2 hn HFD hcs
    subst h1 eb
    generalize l[j] = x at er HJ
    obtain ⟨x0, x1, x2⟩ := x
    subst er
    clear hr
    go_enter Try.func17, Try.ntmps17
    go_wp2_with (first
      | (have hgq := HOC; clear hgq; go_at_call 35; ((with_reducible refine (HX.out _ _ HB1.out HOC.out).mono ?_); rintro e w2 ⟨rfl, hb2⟩; have HB2 := Lib.hid (HB1.out.trans (hb2.mono HB1.out.size)); have hbx := Box.of_alloc (w := w) (cs := [.int .i64 0, .int .i64 0, .int .i64 0]) (t := 39) (HBX.out.trans (hb2.mono HBX.out.size)); have z0 := hbx.cell (j := 0) rfl; have z1 := hbx.cell (j := 1) rfl; have z2 := hbx.cell (j := 2) rfl; have y0 := hbx.froz (j := 0) (by simp); have y1 := hbx.froz (j := 1) (by simp); have y2 := hbx.froz (j := 2) (by simp); have ⟨j0, j1, j2⟩ := HJ.out _ HB2.out; clear hbx hb2))
      | (go_at_call 36; ((with_reducible refine (HO.out _).mono ?_); rintro e w1 ⟨rfl, hw⟩; have hbz : Below (w.alloc (.cells #[.int .i64 0, .int .i64 0, .int .i64 0] 39)).heap.size (w.alloc (.cells #[.int .i64 0, .int .i64 0, .int .i64 0] 39)) w1 := by { rw [hw]; exact (Below.refl _ _).alloc (Nat.le_refl _) _ }; have HOC : Hid (w1.cell? ⟨w.heap.size + 1, 0, none⟩ = some (.int .i64 k)) := by { show _ = _; rw [hw]; simp }; have HBX := Lib.hid hbz; have HB1 := Lib.hid (HZ.out.trans (hbz.mono HZ.out.size)); clear hw hbz)))
    refine bodyPost_ret (v := .tuple #[.agg #[.int .i64 x0, .int .i64 x1, .int .i64 x2], .bool true]) (by simp [results, Try.results17, go_sem, z0, z1, z2, y0, y1, y2]) rfl ⟨rfl, ((HB2.out.setCell (Nat.le_refl _) _).setCell (Nat.le_refl _) _).setCell (Nat.le_refl _) _⟩
end Go.Proofs.Ytmihgdjnjfjjcaa

/- A node's progress looked up by the document (weirref11.Find). -/
namespace Go.Proofs.Ytmihgdjnjfjjcaa
open Go.ChangeShapes Go.WideShapes Go.ChangeAt Go.RowKit
set_option maxRecDepth 100000

theorem drop_hit {l : List Prg} {k : Int} {j : Nat} (hj : j < l.length) (h : (l.drop j).find? (fun p => decide (p.node = k)) = l.find? (fun p => decide (p.node = k))) (hp : l[j].node = k) : prgOf l k = l[j] ∧ hasP l k = true := by
  rw [List.drop_eq_getElem_cons hj, List.find?_cons, decide_eq_true hp] at h
  unfold prgOf hasP
  rw [← h]; exact ⟨rfl, rfl⟩
theorem drop_miss {l : List Prg} {k : Int} {j : Nat} (hj : j < l.length) (h : (l.drop j).find? (fun p => decide (p.node = k)) = l.find? (fun p => decide (p.node = k))) (hp : ¬ l[j].node = k) : (l.drop (j + 1)).find? (fun p => decide (p.node = k)) = l.find? (fun p => decide (p.node = k)) := by
  rw [List.drop_eq_getElem_cons hj, List.find?_cons, decide_eq_false hp] at h
  exact h
theorem drop_end {l : List Prg} {k : Int} {j : Nat} (hj : l.length ≤ j) (h : (l.drop j).find? (fun p => decide (p.node = k)) = l.find? (fun p => decide (p.node = k))) : prgOf l k = ⟨0, 0, 0⟩ ∧ hasP l k = false := by
  rw [List.drop_of_length_le hj] at h
  unfold prgOf hasP
  rw [← h]; exact ⟨rfl, rfl⟩
set_option maxHeartbeats 4000000 in
theorem reffind_any (l : List Prg) (a : Option Addr) (n c : Nat) (k : Int) (w : World) (hn : l.length = n) (hl : n ≤ 1000000) (hr : LRow layPrg w a l) :
    Calls Try.prog 15 #[.slice a n c, .int .i64 k] w (RetFind w (prgOf l k) (hasP l k)) := by
  subst hn
  obtain ⟨r, hrr⟩ : ∃ r, prgOf l k = r := ⟨_, rfl⟩
  obtain ⟨hb, hhb⟩ : ∃ r, hasP l k = r := ⟨_, rfl⟩
  have HD1 := Lib.hid (fun j (hj : j < l.length) h hp => drop_hit (k := k) hj h hp)
  have HD2 := Lib.hid (fun j (hj : j < l.length) h hp => drop_miss (k := k) hj h hp)
  have HD3 := Lib.hid (fun j (hj : l.length ≤ j) h => drop_end (k := k) hj h)
  rw [hrr, hhb] at HD1 HD3 ⊢
  clear hrr hhb
  have HZ : Hid (Below w.heap.size w (w.alloc (.cells #[.int .i64 0, .int .i64 0, .int .i64 0] 39))) := mid_alloc' (Below.refl _ _)
  have HR := Lib.hid hr
  go_enter Try.func15, Try.ntmps15
  go_wp2_with fail
  go_loop [6] (fun i => ∃ j : Nat, j ≤ l.length ∧ i = .int .i64 j ∧ Hid ((l.drop j).find? (fun p => decide (p.node = k)) = l.find? (fun p => decide (p.node = k)))) (fun i => l.length - (intOf i).toNat)
  case atStart => exact ⟨0, Nat.zero_le _, rfl, rfl⟩
  case round =>
    obtain ⟨j, hj, rfl, HF⟩ := hrel
    by_cases hlt : j < l.length
    · obtain ⟨bb, oo, ha, hcs⟩ := atPrg hr hlt
      subst ha
      have ⟨j0, j1, j2⟩ := hcs _ HZ.out
      clear hcs hr
      have H1 := Lib.hid (HD1.out j hlt HF.out)
      have H2 := Lib.hid (HD2.out j hlt HF.out)
      generalize l[j] = x at j0 j1 j2 H1 H2
      obtain ⟨x0, x1, x2⟩ := x
      simp only at j0 j1 j2 H1 H2
      have hd : decide (j < l.length) = true := decide_eq_true hlt
      rcases he : (x0 == k) with _ | _
      · have H3 := Lib.hid (H2.out (by simpa using he))
        go_wp2_with fail
        go_round
        case rel => exact ⟨j + 1, by omega, by go_num, H3.out⟩
        case measure => simp [intOf]; omega
      · have ⟨e1, e2⟩ := H1.out (by simpa using he)
        subst e1 e2
        go_wp2_with fail
        go_returns
        exact ⟨rfl, mid_alloc' (Below.refl _ _)⟩
    · have ⟨e1, e2⟩ := HD3.out j (by omega) HF.out
      subst e1 e2
      have hd : decide (j < l.length) = false := decide_eq_false hlt
      go_wp2_with fail
      go_returns
      exact ⟨rfl, mid_alloc' (Below.refl _ _)⟩
end Go.Proofs.Ytmihgdjnjfjjcaa
