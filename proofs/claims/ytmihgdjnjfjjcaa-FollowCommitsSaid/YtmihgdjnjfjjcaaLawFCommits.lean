import Derived.Test.YtmihgdjnjfjjcaaPackFollowCommits1
import Derived.Test.YtmihgdjnjfjjcaaFolRefCom
set_option linter.unusedVariables false
set_option linter.unusedSimpArgs false
/- Up to where any rows are committed: the walk. -/
namespace Go.Proofs.Ytmihgdjnjfjjcaa
open Go.ChangeShapes Go.WideShapes Go.ChangeAt Go.RowKit
set_option maxRecDepth 100000

set_option maxHeartbeats 16000000 in
theorem law_commits (es : List RwE) (b t : Int) (a : Option Addr) (n c : Nat) (s : UInt8) (self term com : Int) (l : List Prg) (a2 : Option Addr) (n2 c2 : Nat) (w : World) (hn : es.length = n) (hl : n ≤ 1000000000000000) (hle : ∀ y ∈ es, y.1.data.length ≤ 1000000000000000) (hr : Row w a (es.flatMap cellsRw)) (hn2 : l.length = n2) (hl2 : n2 ≤ maxLen) (hr2 : LRow layPrg w a2 l) (hcom : InI com) :
    Calls Try.prog 3 #[.agg #[.int .i64 b, .int .i64 t, .slice a n c], B s, .int .i64 self, .int .i64 term, .int .i64 com, .slice a2 n2 c2] w (RetTrue w) := by
  have HB0 : Hid (Below w.heap.size w (w.alloc (.cells #[.int .i64 b, .int .i64 t, .slice a n c] 24))) := mid_alloc' (Below.refl _ _)
  have HX0 : Hid (Box (w.alloc (.cells #[.int .i64 b, .int .i64 t, .slice a n c] 24)) w.heap.size [.int .i64 b, .int .i64 t, .slice a n c]) := Box.of_alloc (w := w) (cs := [.int .i64 b, .int .i64 t, .slice a n c]) (t := 24) (Below.refl _ _)
  have HGR := Lib.hid (fun w' (hb : Below w.heap.size w w') => great_any es b t a n c w' hn hl hle (hr.mono_below hb))
  have WK := Lib.hid (fun w' => wakes_any w')
  have hlm := lt_maxLen hl2
  have HC1 := Lib.hid (fun (h1 : n ≤ 150) (h2 : n2 ≤ 100) w' (hb : Below w.heap.size w w') => commit_any es b t a n c s self term com l a2 n2 c2 w' hn (by omega) (hr.mono_below hb) hn2 (by omega) (LRow.below hr2 hb) hcom)
  have HC2 := Lib.hid (fun (h1 : n ≤ 150) (h2 : n2 ≤ 100) w' (hb : Below w.heap.size w w') => refcommit_any es b t a n c s self term com l a2 n2 c2 w' hn (by omega) (hr.mono_below hb) hn2 (by omega) (LRow.below hr2 hb) hcom)
  generalize commitF b t (ents es) s.toNat self term com l = r at HC1 HC2
  obtain ⟨r1, r2⟩ := r
  clear hn hle hr hn2 hr2 hcom
  rcases d : decide ((100 : Int) < (n2 : Int)) with _ | _
  rotate_left
  · go_enter Try.func3, Try.ntmps3
    go_wp2_with (first
      | (go_at_call 9; ((with_reducible refine (WK.out _).mono ?_); rintro e w2 ⟨rfl, hb⟩; have HB2 := Lib.hid (HB1.out.trans (hb.mono HB1.out.size)); clear hb))
      | (go_at_call 8; ((with_reducible refine (HGR.out _ HB0.out).mono ?_); rintro e w1 ⟨v, rfl, hb, hf⟩; have HB1 := Lib.hid (HB0.out.trans (hb.mono HB0.out.size)); clear hb hf; cases v)))
    all_goals (go_ret; exact ⟨rfl, HB2.out⟩)
  have h100 : n2 ≤ 100 := by have := of_decide_eq_false d; omega
  go_enter Try.func3, Try.ntmps3
  go_wp2_with (first
    | (have hgq := HB3; clear hgq; go_at_call 9; ((with_reducible refine (WK.out _).mono ?_); rintro e w2 ⟨rfl, hb⟩; have HB9 := Lib.hid (HB3.out.trans (hb.mono HB3.out.size)); clear hb))
    | (go_at_call 9; ((with_reducible refine (WK.out _).mono ?_); rintro e w2 ⟨rfl, hb⟩; have HB9 := Lib.hid (HB1.out.trans (hb.mono HB1.out.size)); clear hb))
    | (go_at_call 11; ((with_reducible refine (HC2.out (HF.out (by first | trivial | rfl)) h100 _ HB2.out).mono ?_); rintro e w3 ⟨rfl, hb⟩; have HB3 := Lib.hid (HB2.out.trans (hb.mono HB2.out.size)); clear hb k0 k1 k2))
    | (go_at_call 10; ((with_reducible refine (HC1.out (HF.out (by first | trivial | rfl)) h100 _ HB1.out).mono ?_); rintro e w2 ⟨rfl, hb⟩; have HB2 := Lib.hid (HB1.out.trans (hb.mono HB1.out.size)); have HX2 := Lib.hid (HX1.out.next (by simp) hb); clear hb k0 k1 k2; have k0 := HX2.out.cell (j := 0) rfl; have k1 := HX2.out.cell (j := 1) rfl; have k2 := HX2.out.cell (j := 2) rfl))
    | (go_at_call 8; ((with_reducible refine (HGR.out _ HB0.out).mono ?_); rintro e w1 ⟨v, rfl, hb, hf⟩; have HB1 := Lib.hid (HB0.out.trans (hb.mono HB0.out.size)); have HX1 := Lib.hid (HX0.out.next (by simp) hb); have k0 := HX1.out.cell (j := 0) rfl; have k1 := HX1.out.cell (j := 1) rfl; have k2 := HX1.out.cell (j := 2) rfl; have HF := Lib.hid hf; clear hb hf; cases v)))
  all_goals (go_ret; exact ⟨rfl, HB9.out⟩)
end Go.Proofs.Ytmihgdjnjfjjcaa
