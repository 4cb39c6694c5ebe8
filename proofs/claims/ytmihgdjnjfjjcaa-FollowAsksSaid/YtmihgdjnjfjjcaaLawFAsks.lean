import Derived.Test.YtmihgdjnjfjjcaaPackFollowAsks6
import Derived.Test.YtmihgdjnjfjjcaaPackFollowAsks5
set_option linter.unusedVariables false
set_option linter.unusedSimpArgs false
/- What a node is sent: the walk. (printed by gen_folasks.py) -/
namespace Go.Proofs.Ytmihgdjnjfjjcaa
open Go.ChangeShapes Go.WideShapes Go.ChangeAt Go.RowKit
set_option maxRecDepth 100000

theorem ask_len (b t : Int) (es : List WEnt) (nx most : Int) : (askF b t es nx most).2.2.2.2.length ≤ es.length := by
  unfold askF fromF
  repeat' split
  all_goals simp
  all_goals omega
set_option maxHeartbeats 16000000 in
theorem law_asks (es : List RwE) (b t : Int) (a : Option Addr) (n c : Nat) (p : Prg) (most : Int) (w : World) (hn : es.length = n) (hl : n ≤ 1000000000000000) (hc : a = none → c = 0) (hnc : n ≤ c) (hcm : c ≤ 4000000000000000) (hle : ∀ y ∈ es, RowB w y.2.1 y.1.data ∧ y.1.data.length ≤ y.2.2 ∧ y.1.data.length ≤ 1000000000000000 ∧ (y.2.1 = none → y.2.2 = 0)) (hr : Row w a (es.flatMap cellsRw)) (hi : InI p.next) :
    Calls Try.prog 7 #[.agg #[.int .i64 b, .int .i64 t, .slice a n c], p.agg, .int .i64 most] w (RetTrue w) := by
  obtain ⟨p0, p1, p2⟩ := p
  have HB0 : Hid (Below w.heap.size w ((w.alloc (.cells #[.int .i64 b, .int .i64 t, .slice a n c] 24)).alloc (.cells #[.int .i64 p0, .int .i64 p1, .int .i64 p2] 39))) := mid_alloc' (mid_alloc' (Below.refl _ _))
  have HR0 : Hid (Box ((w.alloc (.cells #[.int .i64 b, .int .i64 t, .slice a n c] 24)).alloc (.cells #[.int .i64 p0, .int .i64 p1, .int .i64 p2] 39)) w.heap.size [.int .i64 b, .int .i64 t, .slice a n c]) := Box.of_alloc (w := w) (cs := [.int .i64 b, .int .i64 t, .slice a n c]) (t := 24) (mid_alloc' (Below.refl _ _))
  have HP0 : Hid (Box ((w.alloc (.cells #[.int .i64 b, .int .i64 t, .slice a n c] 24)).alloc (.cells #[.int .i64 p0, .int .i64 p1, .int .i64 p2] 39)) (w.heap.size + 1) [.int .i64 p0, .int .i64 p1, .int .i64 p2]) := Box.of_alloc1 (w := w) (cs := [.int .i64 p0, .int .i64 p1, .int .i64 p2]) (t := 39) (Below.refl _ _)
  have HGR := Lib.hid (fun w' (hb : Below w.heap.size w w') => greatc_any es b t a n c w' hn hl (fun y hy => (hle y hy).2.2.1) (hr.mono_below hb))
  have WK := Lib.hid (fun w' => wakes_any w')
  have HA := Lib.hid (fun (h1 : es.length ≤ 150 ∧ sumD es ≤ 20000) w' (hb : Below w.heap.size w w') => ask_any es b t a n c p0 p1 p2 most w' hn (by omega) hc hnc hcm (fun y hy => ⟨(hle y hy).1.below hb, Nat.le_trans (sumD_each y hy) (Nat.le_trans h1.2 (by decide)), (hle y hy).2.1, (hle y hy).2.2.2⟩) (hr.mono_below hb) hi)
  have HA2 := Lib.hid (fun (h1 : es.length ≤ 150 ∧ sumD es ≤ 20000) w' (hb : Below w.heap.size w w') => refask_any es b t a n c p0 p1 p2 most w' hn (by omega) hc hnc hcm (fun y hy => ⟨(hle y hy).1.below hb, Nat.le_trans (sumD_each y hy) (Nat.le_trans h1.2 (by decide)), (hle y hy).2.1, (hle y hy).2.2.2⟩) (hr.mono_below hb) hi)
  have HLN : Hid (es.length ≤ 150 → (askF b t (ents es) p2 most).2.2.2.2.length ≤ 150) := fun h => Nat.le_trans (ask_len _ _ _ _ _) (by rw [show (ents es).length = es.length from List.length_map _]; exact h)
  generalize askF b t (ents es) p2 most = r at HA HA2 HLN
  obtain ⟨r1, r2, r3, r4, r5⟩ := r
  clear hn hl hle hr hc hnc hcm hi
  cases r3
  all_goals
    go_enter Try.func7, Try.ntmps7
    go_wp2_with (first
      | (have hgq := HB4; clear hgq; go_at_call 9; ((with_reducible refine (WK.out _).mono ?_); rintro e w9 ⟨rfl, hb⟩; have HB9 := Lib.hid (HB4.out.trans (hb.mono HB4.out.size)); clear hb))
      | (have hgq := HB3; clear hgq; go_at_call 26; ((with_reducible refine (same_entries fs3 fs4 a3 a4 _ c3 c4 _ HQ4.out HN3.out HE5.out HE4.out HL5.out).mono ?_); rintro e w4 ⟨rfl, hb⟩; have HB4 := Lib.hid (HB3.out.trans (hb.mono HB3.out.size)); clear hb))
      | (have hgq := HB2; clear hgq; go_at_call 25; ((with_reducible refine (HA2.out (HG.out (by first | trivial | rfl)) _ HB2.out).mono ?_); rintro e w3 ⟨a4, c4, fs4, rfl, he4, hr4, hy4, hb⟩; have HQ4 : Hid (fs3.map Prod.fst = fs4.map Prod.fst) := HQ3.out.trans he4.symm; have HE4 : Hid (RowEs w3 a4 fs4) := ⟨hr4, hy4⟩; have HE5 : Hid (RowEs w3 a3 fs3) := HE3.out.below hb; have hn4 : fs4.length = n3 := (by rw [← HN3.out, ← List.length_map Prod.fst, ← HQ4.out, List.length_map]); have HL5 : Hid (n3 ≤ 1000000) := (by show n3 ≤ 1000000; have g1 := HLN.out (HG.out (by first | trivial | rfl)).1; have g2 : fs3.length = r5.length := (by rw [← HQ3.out]; exact (List.length_map _).symm); have g3 := HN3.out; have g4 : r5.length ≤ 150 := g1; omega); rw [hn4]; clear hn4 he4 hr4 hy4; have HB3 := Lib.hid (HB2.out.trans (hb.mono HB2.out.size)); clear hb k0 k1 k2 q0 q1 q2))
      | (have hgq := HB1; clear hgq; go_at_call 24; ((with_reducible refine (HA.out (HG.out (by first | trivial | rfl)) _ HB1.out).mono ?_); rintro e w2 ⟨a3, c3, fs3, rfl, he3, hr3, hy3, hb⟩; have HQ3 := Lib.hid he3; have HE3 : Hid (RowEs w2 a3 fs3) := ⟨hr3, hy3⟩; clear he3 hr3 hy3; generalize hn3 : fs3.length = n3; have HN3 := Lib.hid hn3; clear hn3; have HR2 := Lib.hid (HR1.out.next (by simp) hb); have HP2 := Lib.hid (HP1.out.next (by simp) hb); have HB2 := Lib.hid (HB1.out.trans (hb.mono HB1.out.size)); clear k0 k1 k2 q0 q1 q2; have k0 := HR2.out.cell (j := 0) rfl; have k1 := HR2.out.cell (j := 1) rfl; have k2 := HR2.out.cell (j := 2) rfl; have q0 := HP2.out.cell (j := 0) rfl; have q1 := HP2.out.cell (j := 1) rfl; have q2 := HP2.out.cell (j := 2) rfl; clear hb))
      | (go_at_call 9; ((with_reducible refine (WK.out _).mono ?_); rintro e w9 ⟨rfl, hb⟩; have HB9 := Lib.hid (HB1.out.trans (hb.mono HB1.out.size)); clear hb))
      | (go_at_call 8; ((with_reducible refine (HGR.out _ HB0.out).mono ?_); rintro e w1 ⟨v, rfl, hb, hf⟩; have HR1 := Lib.hid (HR0.out.next (by simp) hb); have HP1 := Lib.hid (HP0.out.next (by simp) hb); have HB1 := Lib.hid (HB0.out.trans (hb.mono HB0.out.size)); have k0 := HR1.out.cell (j := 0) rfl; have k1 := HR1.out.cell (j := 1) rfl; have k2 := HR1.out.cell (j := 2) rfl; have q0 := HP1.out.cell (j := 0) rfl; have q1 := HP1.out.cell (j := 1) rfl; have q2 := HP1.out.cell (j := 2) rfl; have HG := Lib.hid hf; clear hb hf; cases v)))
    all_goals (go_ret; exact ⟨rfl, HB9.out⟩)
end Go.Proofs.Ytmihgdjnjfjjcaa
